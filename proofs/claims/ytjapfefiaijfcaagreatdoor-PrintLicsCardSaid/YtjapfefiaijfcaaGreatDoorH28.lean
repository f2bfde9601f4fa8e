/- A text of the contracts of the printer of licensees. -/
import Derived.Defers
import Derived.BigRegion
import Derived.Deep.RegionHeld3
import Derived.Test.YtjapfefiaijfcaaGreatDoorH5
import Derived.Test.YtjapfefiaijfcaaGreatDoorH23
namespace Go.Proofs.YtjapfefiaijfcaaGreatDoor.Q
open Go.RowKit Go.Proofs.YtjapfefiaijfcaaGreatDoorW.PrintWords Go.Proofs.YtjapfefiaijfcaaGreatDoorW.PrintLast Go.Proofs.YtjapfefiaijfcaaGreatDoorW.PrintMore
set_option linter.unusedVariables false
theorem headB52:HeadB 52:=by unfold HeadB;kernel_rfl
set_option maxHeartbeats 2000000 in
set_option maxRecDepth 100000 in
theorem builder_byte_d (u:FrameMode) (T:TypeId) (hT:HeadB T) (B b:Nat) (v:Value) (t:ByteArray) (c:UInt8) (w:World) (h:BldAt T B b v t w) (hl:t.size + 1 ≤ 140737488355328) (hB:B ≤ w.heap.size) :
  CallsD Tryz.prog 51 #[.pointer (some ⟨b,0,none⟩),.int .u8 c.toNat] u w fun e u' w'=>u' = u ∧ (e = .returned .nilIface ∧ WroteE T B b v (t ++ ⟨#[c]⟩) w w'):=by
 have H:=Aside0.mk h
 have HL:=Aside0.mk hl
 have HBw:=Aside0.mk hB
 have HT:=Aside0.mk hT
 clear h hl hB hT
 go_enter_d Tryz.func51,Tryz.ntmps51
 go_wp2_with (fail)
 go_at_call 64
 refine (builder_check_own T HT.out B b v t w H.out).mono ?_
 rintro e_ w1 ⟨rfl,hbk,hrow,hk,hb⟩
 have c0:w1.cell? ⟨b,0,none⟩=some (.pointer (some ⟨b,0,none⟩)):=by rw [Lib.cell_of_heap hbk];rfl
 have c1:w1.cell? ⟨b,1,none⟩=some v:=by rw [Lib.cell_of_heap hbk];rfl
 have HB1:=Aside0.mk hbk
 have HR1:=Aside0.mk hrow
 have HK1:=Aside0.mk hk
 have HBl1:=Aside0.mk hb
 clear hbk hrow hk hb
 go_wp2_with ((with_reducible refine gate_builtin (b:=.append) (xs:=#[.tmp 11,.tmp 13]) rfl ?_);refine HoldP.out ?_)
 unfold HoldP
 at_builtin
 refine print_append_cells (W:=w1) (w0:=w1) B ?g (.tmp 11) (.tmp 13) 48 5 (.int .u8 0) 1 1 ?ho Tryz.underlying48 ?hi ?hz ?h0 ?hb v t.size (Lib.strCells t) [.int .u8 c.toNat] ?hs ?hx rfl ?h1 HR1.out (Below.refl _ _) ?hba ?hl ?_
 case g=>rfl
 case ho=>rfl
 case hi=>kernel_rfl
 case hz=>rfl
 case h0=>decide
 case hb=>decide
 case hs=>rfl
 case hx=>simp [Act.eval]
 case h1=>intro u hu;simp at hu;subst hu;rfl
 case hba=>have:=HBl1.out.size;have:=HBw.out;omega
 case hl=>have:=HL.out;omega
 intro v2 w2 hown hbl hgrow hat
 have hcs:Lib.strCells t ++ [.int .u8 c.toNat]=Lib.strCells (t ++ ⟨#[c]⟩):=by rw [strCells_app];rfl
 have hsz:t.size + 1=(t ++ (⟨#[c]⟩:ByteArray)).size:=by rw [ByteArray.size_append];rfl
 rw [hcs,hsz] at hown
 have hne:=H.out.ne
 have hb2:w2.heap[b]? = some (.cells #[.pointer (some ⟨b,0,none⟩),v] T (0,0)):=by
  rw [hgrow.block b (blk_lt HB1.out) (fun e=>hne e.symm)]
  exact HB1.out
 have d0:w2.cell? ⟨b,0,none⟩=some (.pointer (some ⟨b,0,none⟩)):=by rw [Lib.cell_of_heap hb2];rfl
 have d1:w2.cell? ⟨b,1,none⟩=some v:=by rw [Lib.cell_of_heap hb2];rfl
 have f1:w2.frozen? ⟨b,1,none⟩=false:=Lib.frozen_of_heap hb2 1
 have HO:=Aside0.mk hown
 have HG:=Aside0.mk hgrow
 have HB2:=Aside0.mk hb2
 have HAt:=Aside0.mk hat
 clear hat hown hgrow hne hb2 hbl hcs hsz
 obtain ⟨ao,n',cap,rfl⟩:∃ ao n' cap,v2 = .slice ao n' cap:=by
  rcases HO.out.2 with ⟨hv,-⟩ | ⟨g,cap,cur,hv,-⟩
  ·exact ⟨_,_,_,hv⟩
  ·exact ⟨_,_,_,hv⟩
 go_wp2_with (fail)
 go_ret
 have hb1:b < w1.heap.size:=blk_lt HB1.out
 have hnb:(Value.slice ao n' cap).ownBlock ≠ some b:=by
  rcases HAt.out with q | ⟨k,q,hk⟩
  ·rw [q];exact H.out.ne
  ·rw [q];intro e;have:=Option.some.inj e;omega
 refine ⟨rfl,.slice ao n' cap,⟨H.out.ge,.inr (blk_put HB2.out 1 _ rfl),?_,hnb⟩,?_,?_,?_⟩
 ·obtain ⟨h1,h2⟩:=HO.out
  refine ⟨h1,h2.imp id ?_⟩
  rintro ⟨g,cap2,cur,e,hg,hc,r⟩
  exact ⟨g,cap2,cur,e,hg,blk_far hc (p:=⟨b,1,none⟩) (fun q=>hnb (by rw [e];exact congrArg some q)) _,r⟩
 ·exact HAt.out.imp id (fun ⟨k,q,hk⟩=>⟨k,q,Nat.le_trans HK1.out.1 hk⟩)
 ·refine KeepBut.set_ ⟨Nat.le_trans HK1.out.1 HG.out.size,fun i hi hg hn=>?_⟩ 1 _
  exact (HG.out.block i (Nat.lt_of_lt_of_le hi HK1.out.1) hn).trans (HK1.out.2 i hi hg (by simp))
 ·exact (HBl1.out.grown HG.out (by have:=HBl1.out.size;have:=HBw.out;omega) (fun k hk=>(H.out.own_lt k hk).1)).setCell (p:=⟨b,1,none⟩) H.out.ge _
def parS (p:Bool) (s:ByteArray):ByteArray:=if p=true then ⟨#[40]⟩ ++ s ++ ⟨#[41]⟩ else s
set_option maxHeartbeats 4000000 in
set_option maxRecDepth 100000 in
theorem print_in_45 (B b b3 b4:Nat) (v:Value) (t s:ByteArray) (w:World) (h:BldAt 52 B b v t w) (hl:t.size + s.size + 2 ≤ 140737488355328) (hB:B ≤ w.heap.size) (p:Bool)
  (hW:∀ (v1:Value) (t1:ByteArray) (w1:World),BldAt 52 B b v1 t1 w1 → t1.size ≤ t.size + (if p=true then 1 else 0) → (v1.ownBlock=v.ownBlock ∨ ∃ k,v1.ownBlock=some k ∧ w.heap.size ≤ k) → KeepBut w w1 b v.ownBlock → Below B w w1 →
   Calls Tryz.prog 45 #[.pointer (some ⟨b3,0,none⟩),.pointer (some ⟨b4,0,none⟩)] w1 fun e w'=>e = .returned (.tuple #[]) ∧ WroteE 52 B b v1 (t1 ++ s) w1 w') :
  Calls Tryz.prog 44 #[.pointer (some ⟨b,0,none⟩),.bool p,.func (.func 45) #[] #[.pointer (some ⟨b3,0,none⟩),.pointer (some ⟨b4,0,none⟩)]] w fun e w'=>e = .returned (.tuple #[]) ∧ WroteE 52 B b v (t ++ parS p s) w w':=by
 have H:=Aside0.mk h
 have HL:=Aside0.mk hl
 have HB:=Aside0.mk hB
 have HW:=Aside0.mk hW
 clear h hl hB hW
 cases p with
 | false =>
  go_enter_defers Tryz.func44,Tryz.ntmps44
  go_wp2_with (fail)
  go_at_call 45
  refine (HW.out v t w H.out (Nat.le_add_right _ _) (.inl rfl) (KeepBut.refl _ _ _) (Below.refl _ _)).mono ?_
  rintro e_ w1 ⟨rfl,hw⟩
  have HW1:=Aside0.mk hw
  clear hw
  go_wp2_with (fail)
  exact ⟨_,results_none rfl _ _ _,rfl,HW1.out⟩
 | true =>
  go_enter_defers Tryz.func44,Tryz.ntmps44
  go_wp2_with (fail)
  go_at_call 51
  refine (builder_byte_calls 52 headB52 B b v t 40 w H.out (by have:=HL.out;omega) HB.out).mono ?_
  rintro e_ w1 ⟨rfl,v1,hw⟩
  have HW1:=Aside0.mk hw
  clear hw
  go_wp2_with (fail)
  go_at_call 45
  refine (HW.out v1 _ w1 HW1.out.at_ (by rw [ByteArray.size_append];exact Nat.le_refl _) HW1.out.own HW1.out.keep HW1.out.below).mono ?_
  rintro e_ w2 ⟨rfl,v2,hw⟩
  have HW2:=Aside0.mk (HW1.out.trans hw)
  clear hw
  go_wp2_with (fail)
  refine leaves_cons (f:=51) (args:=#[.pointer (some ⟨b,0,none⟩),.int .u8 41]) (by simp) (by simp [go_sem]) ?_
  refine (builder_byte_d .returning 52 headB52 B b v2 _ 41 _ HW2.out.at_ (by rw [ByteArray.size_append,ByteArray.size_append];have:=HL.out;have e:(⟨#[40]⟩:ByteArray).size=1:=rfl;omega) (Nat.le_trans HB.out HW2.out.below.size)).mono ?_
  rintro e_ u_ w3 ⟨rfl,rfl,v3,hw⟩
  refine ⟨_,results_none rfl _ _ _,rfl,v3,?_⟩
  have e:t ++ parS true s=t ++ ⟨#[40]⟩ ++ s ++ ⟨#[41]⟩:=by
   show t ++ (⟨#[40]⟩ ++ s ++ ⟨#[41]⟩)=_
   rw [ByteArray.append_assoc,ByteArray.append_assoc,ByteArray.append_assoc]
  rw [e]
  exact HW2.out.trans hw
set_option maxHeartbeats 4000000 in
set_option maxRecDepth 100000 in
theorem print_in_47 (B b b3 b4:Nat) (v:Value) (t s:ByteArray) (w:World) (h:BldAt 52 B b v t w) (hl:t.size + s.size + 2 ≤ 140737488355328) (hB:B ≤ w.heap.size) (p:Bool)
  (hW:∀ (v1:Value) (t1:ByteArray) (w1:World),BldAt 52 B b v1 t1 w1 → t1.size ≤ t.size + (if p=true then 1 else 0) → (v1.ownBlock=v.ownBlock ∨ ∃ k,v1.ownBlock=some k ∧ w.heap.size ≤ k) → KeepBut w w1 b v.ownBlock → Below B w w1 →
   Calls Tryz.prog 47 #[.pointer (some ⟨b3,0,none⟩),.pointer (some ⟨b4,0,none⟩)] w1 fun e w'=>e = .returned (.tuple #[]) ∧ WroteE 52 B b v1 (t1 ++ s) w1 w') :
  Calls Tryz.prog 44 #[.pointer (some ⟨b,0,none⟩),.bool p,.func (.func 47) #[] #[.pointer (some ⟨b3,0,none⟩),.pointer (some ⟨b4,0,none⟩)]] w fun e w'=>e = .returned (.tuple #[]) ∧ WroteE 52 B b v (t ++ parS p s) w w':=by
 have H:=Aside0.mk h
 have HL:=Aside0.mk hl
 have HB:=Aside0.mk hB
 have HW:=Aside0.mk hW
 clear h hl hB hW
 cases p with
 | false =>
  go_enter_defers Tryz.func44,Tryz.ntmps44
  go_wp2_with (fail)
  go_at_call 47
  refine (HW.out v t w H.out (Nat.le_add_right _ _) (.inl rfl) (KeepBut.refl _ _ _) (Below.refl _ _)).mono ?_
  rintro e_ w1 ⟨rfl,hw⟩
  have HW1:=Aside0.mk hw
  clear hw
  go_wp2_with (fail)
  exact ⟨_,results_none rfl _ _ _,rfl,HW1.out⟩
 | true =>
  go_enter_defers Tryz.func44,Tryz.ntmps44
  go_wp2_with (fail)
  go_at_call 51
  refine (builder_byte_calls 52 headB52 B b v t 40 w H.out (by have:=HL.out;omega) HB.out).mono ?_
  rintro e_ w1 ⟨rfl,v1,hw⟩
  have HW1:=Aside0.mk hw
  clear hw
  go_wp2_with (fail)
  go_at_call 47
  refine (HW.out v1 _ w1 HW1.out.at_ (by rw [ByteArray.size_append];exact Nat.le_refl _) HW1.out.own HW1.out.keep HW1.out.below).mono ?_
  rintro e_ w2 ⟨rfl,v2,hw⟩
  have HW2:=Aside0.mk (HW1.out.trans hw)
  clear hw
  go_wp2_with (fail)
  refine leaves_cons (f:=51) (args:=#[.pointer (some ⟨b,0,none⟩),.int .u8 41]) (by simp) (by simp [go_sem]) ?_
  refine (builder_byte_d .returning 52 headB52 B b v2 _ 41 _ HW2.out.at_ (by rw [ByteArray.size_append,ByteArray.size_append];have:=HL.out;have e:(⟨#[40]⟩:ByteArray).size=1:=rfl;omega) (Nat.le_trans HB.out HW2.out.below.size)).mono ?_
  rintro e_ u_ w3 ⟨rfl,rfl,v3,hw⟩
  refine ⟨_,results_none rfl _ _ _,rfl,v3,?_⟩
  have e:t ++ parS true s=t ++ ⟨#[40]⟩ ++ s ++ ⟨#[41]⟩:=by
   show t ++ (⟨#[40]⟩ ++ s ++ ⟨#[41]⟩)=_
   rw [ByteArray.append_assoc,ByteArray.append_assoc,ByteArray.append_assoc]
  rw [e]
  exact HW2.out.trans hw
end Go.Proofs.YtjapfefiaijfcaaGreatDoor.Q
namespace Go.Proofs.YtjapfefiaijfcaaGreatDoor.Q
open Go.RowKit Go.Proofs.YtjapfefiaijfcaaGreatDoorW.PrintWords Go.Proofs.YtjapfefiaijfcaaGreatDoorW.PrintLast Go.Proofs.YtjapfefiaijfcaaGreatDoorW.PrintMore
set_option linter.unusedVariables false
def LicWr (w0:World) (b:Nat) (y:S24) (want:Int) (s:ByteArray):Prop :=
 ∀ (A:Option Addr) (c:Nat),y.f3.length ≤ c → Kd.C k24 w0 A y.f3.length y.f3 → ∀ (v:Value) (t:ByteArray) (w:World),Below w0.heap.size w0 w → BldAt 52 w0.heap.size b v t w → t.size + s.size ≤ 1000000000 →
  Calls Tryz.prog 25 #[.pointer (some ⟨b,0,none⟩),.agg #[.int .u8 y.f0,.string y.f1,.int .i64 y.f2,.slice A y.f3.length c],.int .i64 want] w fun e w'=>e = .returned (.tuple #[]) ∧ WroteE 52 w0.heap.size b v (t ++ s) w w'
structure Bx (w0:World) (b b3 b4:Nat) (x:S24) (A:Option Addr) (c:Nat) (W:World):Prop where
 p3:W.heap[b3]? = some (.cells #[.pointer (some ⟨b,0,none⟩)] 46 (0,0))
 p4:W.heap[b4]? = some (.cells #[.int .u8 x.f0,.string x.f1,.int .i64 x.f2,.slice A x.f3.length c] 24 (0,0))
 bl:Below w0.heap.size w0 W
theorem Bx.drew {w0:World} {b b3 b4:Nat} {x:S24} {A:Option Addr} {c:Nat} {W:World} (h:Bx w0 b b3 b4 x A c W):Bx w0 b b3 b4 x A c W.drew:=⟨h.p3,h.p4,below_drew1 h.bl⟩
theorem Bx.wrote {w0:World} {b b3 b4:Nat} {x:S24} {A:Option Addr} {c:Nat} {W W':World} {v v':Value} {t:ByteArray} (h:Bx w0 b b3 b4 x A c W) (k:Wrote 52 w0.heap.size b v t W W' v') (h3:b3 ≠ b) (h4:b4 ≠ b) (o3:v.ownBlock ≠ some b3) (o4:v.ownBlock ≠ some b4):Bx w0 b b3 b4 x A c W' :=
 ⟨(k.keep.2 b3 (blk_lt h.p3) h3 (fun e=>o3 e.symm)).trans h.p3,(k.keep.2 b4 (blk_lt h.p4) h4 (fun e=>o4 e.symm)).trans h.p4,h.bl.trans k.below⟩
theorem BldAt.drew {T:TypeId} {B b:Nat} {v:Value} {t:ByteArray} {w:World} (h:BldAt T B b v t w):BldAt T B b v t w.drew:=⟨h.ge,h.box,h.row,h.ne⟩
theorem Wrote.of_drew {T:TypeId} {B b:Nat} {v v':Value} {t:ByteArray} {w w':World} (h:Wrote T B b v t w.drew w' v'):Wrote T B b v t w w' v' :=
 ⟨h.at_,h.own,h.keep,(Below.drew (Below.refl B w)).trans h.below⟩
theorem own_after {T:TypeId} {B b k:Nat} {v v':Value} {t:ByteArray} {w w':World} (h:Wrote T B b v t w w' v') (hk:k < w.heap.size) (o:v.ownBlock ≠ some k):v'.ownBlock ≠ some k:=by
 rcases h.own with q | ⟨j,q,hj⟩
 ·rw [q];exact o
 ·rw [q];intro e;have:=Option.some.inj e;omega
set_option maxHeartbeats 8000000 in
set_option maxRecDepth 100000 in
theorem print_two_45 (w0:World) (b b3 b4:Nat) (x y0 y1:S24) (A:Option Addr) (c:Nat) (hf:x.f3=[y0,y1]) (hC:Kd.C k24 w0 A x.f3.length x.f3) (s0 s1:ByteArray) (h0:LicWr w0 b y0 0 s0) (h1:LicWr w0 b y1 1 s1)
  (v:Value) (t:ByteArray) (w:World) (hX:Bx w0 b b3 b4 x A c w) (hb:BldAt 52 w0.heap.size b v t w) (h3:b3 ≠ b) (h4:b4 ≠ b) (o3:v.ownBlock ≠ some b3) (o4:v.ownBlock ≠ some b4) (hl:t.size + (s0 ++ ⟨#[32,124,124,32]⟩ ++ s1).size ≤ 1000000000) :
  Calls Tryz.prog 45 #[.pointer (some ⟨b3,0,none⟩),.pointer (some ⟨b4,0,none⟩)] w fun e w'=>e = .returned (.tuple #[]) ∧ WroteE 52 w0.heap.size b v (t ++ (s0 ++ ⟨#[32,124,124,32]⟩ ++ s1)) w w':=by
 have hlen:x.f3.length=2:=by rw [hf];rfl
 rw [ByteArray.size_append,ByteArray.size_append,show (⟨#[32,124,124,32]⟩:ByteArray).size=4 from rfl] at hl
 rw [hf] at hC
 obtain ⟨ad,A0,c0,rfl,k0,k1,k2,k3,k4,k5⟩:=at_T24 hC 0 (by decide) (by simp)
 obtain ⟨ad',A1,c1,ea,j0,j1,j2,j3,j4,j5⟩:=at_T24 hC 1 (by decide) (by simp)
 obtain rfl:ad=ad':=Option.some.inj ea
 have z0:rd_T24 [y0,y1] 0=y0:=rfl
 have z1:rd_T24 [y0,y1] 1=y1:=rfl
 rw [z0] at k0 k1 k2 k3 k4 k5
 rw [z1] at j0 j1 j2 j3 j4 j5
 have K0:w0.cell? ad=some (.int .u8 y0.f0):=k0
 have K1:w0.cell? ⟨ad.block,ad.off + 1,none⟩=some (.string y0.f1):=k1
 have K2:w0.cell? ⟨ad.block,ad.off + 2,none⟩=some (.int .i64 y0.f2):=k2
 have K3:w0.cell? ⟨ad.block,ad.off + 3,none⟩=some (.slice A0 y0.f3.length c0):=k3
 have J0:w0.cell? ⟨ad.block,ad.off + 4,none⟩=some (.int .u8 y1.f0):=j0
 have J1:w0.cell? ⟨ad.block,ad.off + 4 + 1,none⟩=some (.string y1.f1):=j1
 have J2:w0.cell? ⟨ad.block,ad.off + 4 + 2,none⟩=some (.int .i64 y1.f2):=j2
 have J3:w0.cell? ⟨ad.block,ad.off + 4 + 3,none⟩=some (.slice A1 y1.f3.length c1):=j3
 have HF0:=Aside0.mk (fun (W:World) (h:Bx w0 b b3 b4 x (some ad) c W)=>(⟨h,(blk_cell h.p3 0).trans rfl,(blk_cell h.p4 3).trans (by rw [hlen];rfl),pw_cell_below h.bl K0,pw_cell_below h.bl K1,pw_cell_below h.bl K2,pw_cell_below h.bl K3⟩:Bx w0 b b3 b4 x (some ad) c W ∧ W.cell? ⟨b3,0,none⟩=some (.pointer (some ⟨b,0,none⟩)) ∧ W.cell? ⟨b4,3,none⟩=some (.slice (some ad) 2 c) ∧ W.cell? ad=some (.int .u8 y0.f0) ∧ W.cell? ⟨ad.block,ad.off + 1,none⟩=some (.string y0.f1) ∧ W.cell? ⟨ad.block,ad.off + 2,none⟩=some (.int .i64 y0.f2) ∧ W.cell? ⟨ad.block,ad.off + 3,none⟩=some (.slice A0 y0.f3.length c0)))
 have HF1:=Aside0.mk (fun (W:World) (h:Bx w0 b b3 b4 x (some ad) c W)=>(⟨h,(blk_cell h.p3 0).trans rfl,(blk_cell h.p4 3).trans (by rw [hlen];rfl),pw_cell_below h.bl J0,pw_cell_below h.bl J1,pw_cell_below h.bl J2,pw_cell_below h.bl J3⟩:Bx w0 b b3 b4 x (some ad) c W ∧ W.cell? ⟨b3,0,none⟩=some (.pointer (some ⟨b,0,none⟩)) ∧ W.cell? ⟨b4,3,none⟩=some (.slice (some ad) 2 c) ∧ W.cell? ⟨ad.block,ad.off + 4,none⟩=some (.int .u8 y1.f0) ∧ W.cell? ⟨ad.block,ad.off + 4 + 1,none⟩=some (.string y1.f1) ∧ W.cell? ⟨ad.block,ad.off + 4 + 2,none⟩=some (.int .i64 y1.f2) ∧ W.cell? ⟨ad.block,ad.off + 4 + 3,none⟩=some (.slice A1 y1.f3.length c1)))
 have HX:=Aside0.mk hX
 have HB:=Aside0.mk hb
 have HL:=Aside0.mk hl
 have H0:=Aside0.mk h0
 have H1:=Aside0.mk h1
 have N3:=Aside0.mk h3
 have N4:=Aside0.mk h4
 have O3:=Aside0.mk o3
 have O4:=Aside0.mk o4
 have C0:=Aside0.mk k5
 have C1:=Aside0.mk j5
 have L0:=Aside0.mk k4
 have L1:=Aside0.mk j4
 clear hX hb hl h0 h1 h3 h4 o3 o4 k0 k1 k2 k3 k4 k5 j0 j1 j2 j3 j4 j5 K0 K1 K2 K3 J0 J1 J2 J3 hC hf hlen z0 z1 ea
 go_enter Tryz.func45,Tryz.ntmps45
 go_wp2_with (fail)
 go_region_held3 (fun W=>Bx w0 b b3 b4 x (some ad) c W ∧ W.cell? ⟨b3,0,none⟩=some (.pointer (some ⟨b,0,none⟩)) ∧ W.cell? ⟨b4,3,none⟩=some (.slice (some ad) 2 c) ∧ W.cell? ad=some (.int .u8 y0.f0) ∧ W.cell? ⟨ad.block,ad.off + 1,none⟩=some (.string y0.f1) ∧ W.cell? ⟨ad.block,ad.off + 2,none⟩=some (.int .i64 y0.f2) ∧ W.cell? ⟨ad.block,ad.off + 3,none⟩=some (.slice A0 y0.f3.length c0)) (first | exact HF0.out _ HX2.out | exact HF0.out _ HX.out.drew)
  (first | (go_at_call 25;(refine (H0.out A0 c0 L0.out C0.out v t _ HX.out.drew.bl HB.out.drew (by have:=HL.out;omega)).mono ?_);rintro e_ w2 ⟨rfl,v1,hw⟩;have HW1:=Aside0.mk hw.of_drew;have HX2:=Aside0.mk (HX.out.drew.wrote hw N3.out N4.out O3.out O4.out);have P3:=Aside0.mk (own_after hw.of_drew (blk_lt HX.out.p3) O3.out);have P4:=Aside0.mk (own_after hw.of_drew (blk_lt HX.out.p4) O4.out);have g3:w2.cell? ⟨b3,0,none⟩=some (.pointer (some ⟨b,0,none⟩)):=(blk_cell HX2.out.p3 0).trans rfl;clear hw))
 go_wp2_with (fail)
 go_at_call 46
 refine (builder_string_calls 52 headB52 w0.heap.size b v1 _ _ _ HW1.out.at_ (by rw [ByteArray.size_append];have:=HL.out;have e:(⟨#[32,124,124,32]⟩:ByteArray).size=4:=rfl;omega) HX2.out.bl.size).mono ?_
 rintro e_ w3 ⟨rfl,v2,hw⟩
 have HW2:=Aside0.mk (HW1.out.trans hw)
 have HX3:=Aside0.mk (HX2.out.wrote hw N3.out N4.out P3.out P4.out)
 have Q3:=Aside0.mk (own_after hw (blk_lt HX2.out.p3) P3.out)
 have Q4:=Aside0.mk (own_after hw (blk_lt HX2.out.p4) P4.out)
 clear hw g3
 go_wp2_with (fail)
 go_region_held3 (fun W=>Bx w0 b b3 b4 x (some ad) c W ∧ W.cell? ⟨b3,0,none⟩=some (.pointer (some ⟨b,0,none⟩)) ∧ W.cell? ⟨b4,3,none⟩=some (.slice (some ad) 2 c) ∧ W.cell? ⟨ad.block,ad.off + 4,none⟩=some (.int .u8 y1.f0) ∧ W.cell? ⟨ad.block,ad.off + 4 + 1,none⟩=some (.string y1.f1) ∧ W.cell? ⟨ad.block,ad.off + 4 + 2,none⟩=some (.int .i64 y1.f2) ∧ W.cell? ⟨ad.block,ad.off + 4 + 3,none⟩=some (.slice A1 y1.f3.length c1)) (first | exact HF1.out _ HX4.out | exact HF1.out _ HX3.out.drew)
  (first | (go_at_call 25;(refine (H1.out A1 c1 L1.out C1.out v2 _ _ HX3.out.drew.bl HW2.out.at_.drew (by rw [ByteArray.size_append,ByteArray.size_append];have:=HL.out;have e:(⟨#[32,124,124,32]⟩:ByteArray).size=4:=rfl;omega)).mono ?_);rintro e_ w4 ⟨rfl,v3,hw⟩;have HW3:=Aside0.mk (HW2.out.trans hw.of_drew);have HX4:=Aside0.mk (HX3.out.drew.wrote hw N3.out N4.out Q3.out Q4.out);clear hw))
 go_wp2_with (fail)
 go_end0
 have e:t ++ (s0 ++ ⟨#[32,124,124,32]⟩ ++ s1)=t ++ s0 ++ ⟨#[32,124,124,32]⟩ ++ s1:=by simp only [ByteArray.append_assoc]
 rw [e]
 exact ⟨rfl,v3,HW3.out⟩
set_option maxHeartbeats 8000000 in
set_option maxRecDepth 100000 in
theorem print_two_47 (w0:World) (b b3 b4:Nat) (x y0 y1:S24) (A:Option Addr) (c:Nat) (hf:x.f3=[y0,y1]) (hC:Kd.C k24 w0 A x.f3.length x.f3) (s0 s1:ByteArray) (h0:LicWr w0 b y0 1 s0) (h1:LicWr w0 b y1 2 s1)
  (v:Value) (t:ByteArray) (w:World) (hX:Bx w0 b b3 b4 x A c w) (hb:BldAt 52 w0.heap.size b v t w) (h3:b3 ≠ b) (h4:b4 ≠ b) (o3:v.ownBlock ≠ some b3) (o4:v.ownBlock ≠ some b4) (hl:t.size + (s0 ++ ⟨#[32,38,38,32]⟩ ++ s1).size ≤ 1000000000) :
  Calls Tryz.prog 47 #[.pointer (some ⟨b3,0,none⟩),.pointer (some ⟨b4,0,none⟩)] w fun e w'=>e = .returned (.tuple #[]) ∧ WroteE 52 w0.heap.size b v (t ++ (s0 ++ ⟨#[32,38,38,32]⟩ ++ s1)) w w':=by
 have hlen:x.f3.length=2:=by rw [hf];rfl
 rw [ByteArray.size_append,ByteArray.size_append,show (⟨#[32,38,38,32]⟩:ByteArray).size=4 from rfl] at hl
 rw [hf] at hC
 obtain ⟨ad,A0,c0,rfl,k0,k1,k2,k3,k4,k5⟩:=at_T24 hC 0 (by decide) (by simp)
 obtain ⟨ad',A1,c1,ea,j0,j1,j2,j3,j4,j5⟩:=at_T24 hC 1 (by decide) (by simp)
 obtain rfl:ad=ad':=Option.some.inj ea
 have z0:rd_T24 [y0,y1] 0=y0:=rfl
 have z1:rd_T24 [y0,y1] 1=y1:=rfl
 rw [z0] at k0 k1 k2 k3 k4 k5
 rw [z1] at j0 j1 j2 j3 j4 j5
 have K0:w0.cell? ad=some (.int .u8 y0.f0):=k0
 have K1:w0.cell? ⟨ad.block,ad.off + 1,none⟩=some (.string y0.f1):=k1
 have K2:w0.cell? ⟨ad.block,ad.off + 2,none⟩=some (.int .i64 y0.f2):=k2
 have K3:w0.cell? ⟨ad.block,ad.off + 3,none⟩=some (.slice A0 y0.f3.length c0):=k3
 have J0:w0.cell? ⟨ad.block,ad.off + 4,none⟩=some (.int .u8 y1.f0):=j0
 have J1:w0.cell? ⟨ad.block,ad.off + 4 + 1,none⟩=some (.string y1.f1):=j1
 have J2:w0.cell? ⟨ad.block,ad.off + 4 + 2,none⟩=some (.int .i64 y1.f2):=j2
 have J3:w0.cell? ⟨ad.block,ad.off + 4 + 3,none⟩=some (.slice A1 y1.f3.length c1):=j3
 have HF0:=Aside0.mk (fun (W:World) (h:Bx w0 b b3 b4 x (some ad) c W)=>(⟨h,(blk_cell h.p3 0).trans rfl,(blk_cell h.p4 3).trans (by rw [hlen];rfl),pw_cell_below h.bl K0,pw_cell_below h.bl K1,pw_cell_below h.bl K2,pw_cell_below h.bl K3⟩:Bx w0 b b3 b4 x (some ad) c W ∧ W.cell? ⟨b3,0,none⟩=some (.pointer (some ⟨b,0,none⟩)) ∧ W.cell? ⟨b4,3,none⟩=some (.slice (some ad) 2 c) ∧ W.cell? ad=some (.int .u8 y0.f0) ∧ W.cell? ⟨ad.block,ad.off + 1,none⟩=some (.string y0.f1) ∧ W.cell? ⟨ad.block,ad.off + 2,none⟩=some (.int .i64 y0.f2) ∧ W.cell? ⟨ad.block,ad.off + 3,none⟩=some (.slice A0 y0.f3.length c0)))
 have HF1:=Aside0.mk (fun (W:World) (h:Bx w0 b b3 b4 x (some ad) c W)=>(⟨h,(blk_cell h.p3 0).trans rfl,(blk_cell h.p4 3).trans (by rw [hlen];rfl),pw_cell_below h.bl J0,pw_cell_below h.bl J1,pw_cell_below h.bl J2,pw_cell_below h.bl J3⟩:Bx w0 b b3 b4 x (some ad) c W ∧ W.cell? ⟨b3,0,none⟩=some (.pointer (some ⟨b,0,none⟩)) ∧ W.cell? ⟨b4,3,none⟩=some (.slice (some ad) 2 c) ∧ W.cell? ⟨ad.block,ad.off + 4,none⟩=some (.int .u8 y1.f0) ∧ W.cell? ⟨ad.block,ad.off + 4 + 1,none⟩=some (.string y1.f1) ∧ W.cell? ⟨ad.block,ad.off + 4 + 2,none⟩=some (.int .i64 y1.f2) ∧ W.cell? ⟨ad.block,ad.off + 4 + 3,none⟩=some (.slice A1 y1.f3.length c1)))
 have HX:=Aside0.mk hX
 have HB:=Aside0.mk hb
 have HL:=Aside0.mk hl
 have H0:=Aside0.mk h0
 have H1:=Aside0.mk h1
 have N3:=Aside0.mk h3
 have N4:=Aside0.mk h4
 have O3:=Aside0.mk o3
 have O4:=Aside0.mk o4
 have C0:=Aside0.mk k5
 have C1:=Aside0.mk j5
 have L0:=Aside0.mk k4
 have L1:=Aside0.mk j4
 clear hX hb hl h0 h1 h3 h4 o3 o4 k0 k1 k2 k3 k4 k5 j0 j1 j2 j3 j4 j5 K0 K1 K2 K3 J0 J1 J2 J3 hC hf hlen z0 z1 ea
 go_enter Tryz.func47,Tryz.ntmps47
 go_wp2_with (fail)
 go_region_held3 (fun W=>Bx w0 b b3 b4 x (some ad) c W ∧ W.cell? ⟨b3,0,none⟩=some (.pointer (some ⟨b,0,none⟩)) ∧ W.cell? ⟨b4,3,none⟩=some (.slice (some ad) 2 c) ∧ W.cell? ad=some (.int .u8 y0.f0) ∧ W.cell? ⟨ad.block,ad.off + 1,none⟩=some (.string y0.f1) ∧ W.cell? ⟨ad.block,ad.off + 2,none⟩=some (.int .i64 y0.f2) ∧ W.cell? ⟨ad.block,ad.off + 3,none⟩=some (.slice A0 y0.f3.length c0)) (first | exact HF0.out _ HX2.out | exact HF0.out _ HX.out.drew)
  (first | (go_at_call 25;(refine (H0.out A0 c0 L0.out C0.out v t _ HX.out.drew.bl HB.out.drew (by have:=HL.out;omega)).mono ?_);rintro e_ w2 ⟨rfl,v1,hw⟩;have HW1:=Aside0.mk hw.of_drew;have HX2:=Aside0.mk (HX.out.drew.wrote hw N3.out N4.out O3.out O4.out);have P3:=Aside0.mk (own_after hw.of_drew (blk_lt HX.out.p3) O3.out);have P4:=Aside0.mk (own_after hw.of_drew (blk_lt HX.out.p4) O4.out);have g3:w2.cell? ⟨b3,0,none⟩=some (.pointer (some ⟨b,0,none⟩)):=(blk_cell HX2.out.p3 0).trans rfl;clear hw))
 go_wp2_with (fail)
 go_at_call 46
 refine (builder_string_calls 52 headB52 w0.heap.size b v1 _ _ _ HW1.out.at_ (by rw [ByteArray.size_append];have:=HL.out;have e:(⟨#[32,38,38,32]⟩:ByteArray).size=4:=rfl;omega) HX2.out.bl.size).mono ?_
 rintro e_ w3 ⟨rfl,v2,hw⟩
 have HW2:=Aside0.mk (HW1.out.trans hw)
 have HX3:=Aside0.mk (HX2.out.wrote hw N3.out N4.out P3.out P4.out)
 have Q3:=Aside0.mk (own_after hw (blk_lt HX2.out.p3) P3.out)
 have Q4:=Aside0.mk (own_after hw (blk_lt HX2.out.p4) P4.out)
 clear hw g3
 go_wp2_with (fail)
 go_region_held3 (fun W=>Bx w0 b b3 b4 x (some ad) c W ∧ W.cell? ⟨b3,0,none⟩=some (.pointer (some ⟨b,0,none⟩)) ∧ W.cell? ⟨b4,3,none⟩=some (.slice (some ad) 2 c) ∧ W.cell? ⟨ad.block,ad.off + 4,none⟩=some (.int .u8 y1.f0) ∧ W.cell? ⟨ad.block,ad.off + 4 + 1,none⟩=some (.string y1.f1) ∧ W.cell? ⟨ad.block,ad.off + 4 + 2,none⟩=some (.int .i64 y1.f2) ∧ W.cell? ⟨ad.block,ad.off + 4 + 3,none⟩=some (.slice A1 y1.f3.length c1)) (first | exact HF1.out _ HX4.out | exact HF1.out _ HX3.out.drew)
  (first | (go_at_call 25;(refine (H1.out A1 c1 L1.out C1.out v2 _ _ HX3.out.drew.bl HW2.out.at_.drew (by rw [ByteArray.size_append,ByteArray.size_append];have:=HL.out;have e:(⟨#[32,38,38,32]⟩:ByteArray).size=4:=rfl;omega)).mono ?_);rintro e_ w4 ⟨rfl,v3,hw⟩;have HW3:=Aside0.mk (HW2.out.trans hw.of_drew);have HX4:=Aside0.mk (HX3.out.drew.wrote hw N3.out N4.out Q3.out Q4.out);clear hw))
 go_wp2_with (fail)
 go_end0
 have e:t ++ (s0 ++ ⟨#[32,38,38,32]⟩ ++ s1)=t ++ s0 ++ ⟨#[32,38,38,32]⟩ ++ s1:=by simp only [ByteArray.append_assoc]
 rw [e]
 exact ⟨rfl,v3,HW3.out⟩
end Go.Proofs.YtjapfefiaijfcaaGreatDoor.Q
namespace Go.Proofs.YtjapfefiaijfcaaGreatDoor.Q
open Go.RowKit Go.Proofs.YtjapfefiaijfcaaGreatDoorW.PrintWords Go.Proofs.YtjapfefiaijfcaaGreatDoorW.PrintLast Go.Proofs.YtjapfefiaijfcaaGreatDoorW.PrintMore
set_option linter.unusedVariables false
theorem Wrote.refl {T:TypeId} {B b:Nat} {v:Value} {t:ByteArray} {w:World} (h:BldAt T B b v t w):Wrote T B b v t w w v:=⟨h,.inl rfl,KeepBut.refl _ _ _,Below.refl _ _⟩
theorem BldAt.alloc {T:TypeId} {B b:Nat} {v:Value} {t:ByteArray} {w:World} (h:BldAt T B b v t w) (o:Obj):BldAt T B b v t (w.alloc o) :=
 ⟨h.ge,h.box.imp (fun q=>blk_alloc q o) (fun q=>blk_alloc q o),h.row.alloc o,h.ne⟩
theorem Wrote.alloc {T:TypeId} {B b:Nat} {v v':Value} {t:ByteArray} {w w':World} (h:Wrote T B b v t w w' v') (hB:B ≤ w'.heap.size) (o:Obj):Wrote T B b v t w (w'.alloc o) v' :=
 ⟨h.at_.alloc o,h.own,h.keep.trans (KeepBut.of_grown (World.grownBy_alloc w' o v.ownBlock) b) (.inl rfl),h.below.alloc hB o⟩
set_option maxHeartbeats 4000000 in
set_option maxRecDepth 100000 in
theorem print_one (w0:World) (b b3:Nat) (y:S24) (s:ByteArray) (h:LicWr w0 b y 0 s) (A:Option Addr) (c:Nat) (hc:y.f3.length ≤ c) (hC:Kd.C k24 w0 A y.f3.length y.f3)
  (v:Value) (t:ByteArray) (w:World) (p3:w.heap[b3]? = some (.cells #[.pointer (some ⟨b,0,none⟩)] 46 (0,0))) (bl:Below w0.heap.size w0 w) (hb:BldAt 52 w0.heap.size b v t w) (hl:t.size + s.size ≤ 1000000000) :
  Calls Tryz.prog 50 #[.agg #[.int .u8 y.f0,.string y.f1,.int .i64 y.f2,.slice A y.f3.length c],.pointer (some ⟨b3,0,none⟩)] w fun e w'=>e = .returned (.tuple #[]) ∧ WroteE 52 w0.heap.size b v (t ++ s) w w':=by
 have g3:w.cell? ⟨b3,0,none⟩=some (.pointer (some ⟨b,0,none⟩)):=(blk_cell p3 0).trans rfl
 have g3':=fun o=>(blk_cell (blk_alloc p3 o) 0).trans (rfl:_=some (Value.pointer (some ⟨b,0,none⟩)))
 have HH:=Aside0.mk (h A c hc hC)
 have HBl:=Aside0.mk bl
 have HB:=Aside0.mk hb
 have HL:=Aside0.mk hl
 clear h hc hC p3 bl hb hl
 go_enter Tryz.func50,Tryz.ntmps50
 go_wp2_with (fail)
 go_at_call 25
 refine (HH.out v t _ (HBl.out.alloc HBl.out.size _) (HB.out.alloc _) HL.out).mono ?_
 rintro e_ w1 ⟨rfl,v1,hw⟩
 have HW:=Aside0.mk hw
 clear hw
 go_wp2_with (fail)
 go_end0
 exact ⟨rfl,v1,((Wrote.refl HB.out).alloc HBl.out.size _).trans HW.out⟩
def joinF (f:S24 → ByteArray) (ys:List S24):Nat → ByteArray
 | 0=>⟨#[]⟩
 | k + 1=>joinF f ys k ++ (if 0 < k then ⟨#[44,32]⟩ else ⟨#[]⟩) ++ f (rd_T24 ys (k:Int))
theorem joinF_le (f:S24 → ByteArray) (ys:List S24) (k d:Nat):(joinF f ys k).size ≤ (joinF f ys (k + d)).size:=by
 induction d with
 | zero=>exact Nat.le_refl _
 | succ d ih =>
  refine Nat.le_trans ih ?_
  show _ ≤ (joinF f ys (k + d) ++ _ ++ _).size
  rw [ByteArray.size_append,ByteArray.size_append];omega
theorem joinF_step (f:S24 → ByteArray) (ys:List S24) (k:Nat):(joinF f ys (k + 1)).size=(joinF f ys k).size + (if 0 < k then 2 else 0) + (f (rd_T24 ys (k:Int))).size:=by
 show (joinF f ys k ++ _ ++ _).size=_
 rw [ByteArray.size_append,ByteArray.size_append]
 by_cases h:0 < k
 ·rw [if_pos h,if_pos h];rfl
 ·rw [if_neg h,if_neg h];rfl
set_option maxHeartbeats 8000000 in
set_option maxRecDepth 100000 in
theorem print_list (w0:World) (b b3:Nat) (ys:List S24) (f:S24 → ByteArray) (hn:ys.length ≤ 100000) (h:∀ y ∈ ys,LicWr w0 b y 0 (f y)) (A:Option Addr) (c:Nat) (hc:ys.length ≤ c) (hC:Kd.C k24 w0 A ys.length ys)
  (v:Value) (t:ByteArray) (w:World) (p3:w.heap[b3]? = some (.cells #[.pointer (some ⟨b,0,none⟩)] 46 (0,0))) (h3:b3 ≠ b) (o3:v.ownBlock ≠ some b3) (bl:Below w0.heap.size w0 w) (hb:BldAt 52 w0.heap.size b v t w) (hl:t.size + (joinF f ys ys.length).size ≤ 1000000000) :
  Calls Tryz.prog 49 #[.pointer (some ⟨b,0,none⟩),.slice A ys.length c,.string ⟨#[44,32]⟩,.func (.func 50) #[] #[.pointer (some ⟨b3,0,none⟩)]] w fun e w'=>e = .returned (.tuple #[]) ∧ WroteE 52 w0.heap.size b v (t ++ joinF f ys ys.length) w w':=by
 have HN:=Aside0.mk hn
 have HH:=Aside0.mk h
 have HC:=Aside0.mk hC
 have HP:=Aside0.mk p3
 have H3:=Aside0.mk h3
 have O3:=Aside0.mk o3
 have HBl:=Aside0.mk bl
 have HB:=Aside0.mk hb
 have HL:=Aside0.mk hl
 clear hn h hC hc p3 h3 o3 bl hb hl
 go_enter Tryz.func49,Tryz.ntmps49
 go_wp2_with (fail)
 go_loopw [12] (fun i wr=>∃ (k:Nat) (v1:Value),i = .int .i64 k ∧ k ≤ ys.length ∧ Wrote 52 w0.heap.size b v (t ++ joinF f ys k) w wr v1) (fun i wr=>ys.length - (intOf i).toNat)
 case atStart =>
  refine ⟨0,v,rfl,Nat.zero_le _,?_⟩
  have e:t ++ joinF f ys 0=t:=by show t ++ ⟨#[]⟩=t;exact ByteArray.append_empty
  rw [e];exact Wrote.refl HB.out
 case round =>
  obtain ⟨k,v1,rfl,hk,hw⟩:=hrel
  by_cases hlt:k < ys.length
  ·have e1:decide ((k:Int) < (ys.length:Int))=true:=decide_eq_true (by omega)
   have e2:(k < ys.length)=True:=eq_true hlt
   have e3:((k:Int) < (ys.length:Int))=True:=eq_true (by omega)
   have e4:(0 ≤ (k:Int))=True:=eq_true (by omega)
   have e5:IntKind.i64.wrap ((k:Int) + 1)=(k:Int) + 1:=IntWalk.i64_in _ (by have:=HN.out;omega)
   have hbl:Below w0.heap.size w0 wr:=HBl.out.trans hw.below
   obtain ⟨ad,A0,c0,ea,k0,k1,k2,k3,k4,k5⟩:=at_T24 HC.out (k:Int) (by omega) (by omega)
   subst ea
   have hym:rd_T24 ys (k:Int) ∈ ys:=by rw [rd_nat hlt];exact List.getElem_mem hlt
   have hst:=joinF_step f ys k
   have hle:=joinF_le f ys (k + 1) (ys.length - (k + 1))
   rw [show k + 1 + (ys.length - (k + 1))=ys.length by omega] at hle
   have htx:joinF f ys (k + 1)=joinF f ys k ++ (if 0 < k then ⟨#[44,32]⟩ else ⟨#[]⟩) ++ f (rd_T24 ys (k:Int)):=rfl
   have hHy:=HH.out _ hym
   generalize rd_T24 ys (k:Int)=y at k0 k1 k2 k3 k4 k5 hst htx hHy
   rw [Int.toNat_natCast] at k0 k1 k2 k3
   have K0:=pw_cell_below hbl k0
   have K1:=pw_cell_below hbl k1
   have K2:=pw_cell_below hbl k2
   have K3:=pw_cell_below hbl k3
   have hp3:wr.heap[b3]? = some (.cells #[.pointer (some ⟨b,0,none⟩)] 46 (0,0)):=(hw.keep.2 b3 (blk_lt HP.out) H3.out (fun e=>O3.out e.symm)).trans HP.out
   have ho3:=own_after hw (blk_lt HP.out) O3.out
   have HY:=Aside0.mk hHy
   have HW:=Aside0.mk hw
   have HP3:=Aside0.mk hp3
   have HO3:=Aside0.mk ho3
   have HBr:=Aside0.mk hbl
   have HLt:=Aside0.mk hlt
   have C0:=Aside0.mk k4
   have C5:=Aside0.mk k5
   have HTx:=Aside0.mk htx
   by_cases h0:0 < k
   ·have g1:decide ((0:Int) < (k:Int))=true:=decide_eq_true (by omega)
    have g2:(0 < k)=True:=eq_true h0
    have g3:((0:Int) < (k:Int))=True:=eq_true (by omega)
    rw [if_pos h0] at hst
    have HSz:=Aside0.mk (show t.size + ((joinF f ys k).size + 2 + (f y).size) ≤ 1000000000 by have:=HL.out;omega)
    have HT:Aside0 (joinF f ys (k + 1)=joinF f ys k ++ ⟨#[44,32]⟩ ++ f y):=⟨by rw [HTx.out,if_pos h0]⟩
    clear hlt hw hHy hbl hp3 ho3 k0 k1 k2 k3 k4 k5 hst htx hym hle hk h0
    go_wp2_with (fail)
    go_at_call 46
    refine (builder_string_calls 52 headB52 w0.heap.size b v1 _ _ _ (HW.out.at_.alloc _) (by rw [ByteArray.size_append];have:=HSz.out;have e:(⟨#[44,32]⟩:ByteArray).size=2:=rfl;omega) (HBr.out.alloc HBr.out.size _).size).mono ?_
    rintro e_ w2 ⟨rfl,v2,hw2⟩
    have hbx:w2.heap[wr.heap.size]? = some (.cells #[.int .u8 y.f0,.string y.f1,.int .i64 y.f2,.slice A0 y.f3.length c0] 24 (0,0)):=by
     refine (hw2.keep.2 wr.heap.size (by simp) (by have:=HW.out.at_.lt;omega) ?_).trans (blk_new wr _)
     intro e
     have:=(HW.out.at_.own_lt _ e.symm).2
     omega
    have m0:=(blk_cell hbx 0).trans (rfl:_=some (Value.int .u8 y.f0))
    have m1:=(blk_cell hbx 1).trans (rfl:_=some (Value.string y.f1))
    have m2:=(blk_cell hbx 2).trans (rfl:_=some (Value.int .i64 y.f2))
    have m3:=(blk_cell hbx 3).trans (rfl:_=some (Value.slice A0 y.f3.length c0))
    have hp2:w2.heap[b3]? = some (.cells #[.pointer (some ⟨b,0,none⟩)] 46 (0,0)):=(hw2.keep.2 b3 (by have:=blk_lt HP3.out;simp;omega) H3.out (fun e=>HO3.out e.symm)).trans (blk_alloc HP3.out _)
    have HP2:=Aside0.mk hp2
    have HB2:=Aside0.mk ((HBr.out.alloc HBr.out.size _).trans hw2.below)
    have HW2:=Aside0.mk ((HW.out.alloc HBr.out.size _).trans hw2)
    clear hw2 hbx hp2
    go_wp2_with (fail)
    go_at_call 50
    refine (print_one w0 b b3 y (f y) HY.out A0 c0 C0.out C5.out v2 _ w2 HP2.out HB2.out HW2.out.at_ (by rw [ByteArray.size_append,ByteArray.size_append];have:=HSz.out;have e:(⟨#[44,32]⟩:ByteArray).size=2:=rfl;omega)).mono ?_
    rintro e_ w3 ⟨rfl,v3,hw3⟩
    have HW3:=Aside0.mk (HW2.out.trans hw3)
    clear hw3
    go_wp2_with (fail)
    refine ⟨⟨k + 1,v3,by go_num,HLt.out,?_⟩,?_⟩
    ·have e:t ++ joinF f ys (k + 1)=t ++ joinF f ys k ++ ⟨#[44,32]⟩ ++ f y:=by rw [HT.out];simp only [ByteArray.append_assoc]
     rw [e];exact HW3.out
    ·have:=HLt.out;simp [intOf];omega
   ·have g1:decide ((0:Int) < (k:Int))=false:=decide_eq_false (by omega)
    have g2:(0 < k)=False:=eq_false h0
    have g3:((0:Int) < (k:Int))=False:=eq_false (by omega)
    rw [if_neg h0] at hst
    have HSz:=Aside0.mk (show t.size + ((joinF f ys k).size + (f y).size) ≤ 1000000000 by have:=HL.out;omega)
    have HT:Aside0 (joinF f ys (k + 1)=joinF f ys k ++ ⟨#[]⟩ ++ f y):=⟨by rw [HTx.out,if_neg h0]⟩
    clear hlt hw hHy hbl hp3 ho3 k0 k1 k2 k3 k4 k5 hst htx hym hle hk h0
    go_wp2_with (fail)
    go_at_call 50
    refine (print_one w0 b b3 y (f y) HY.out A0 c0 C0.out C5.out v1 _ _ (blk_alloc HP3.out _) (HBr.out.alloc HBr.out.size _) (HW.out.at_.alloc _) (by rw [ByteArray.size_append];have:=HSz.out;omega)).mono ?_
    rintro e_ w3 ⟨rfl,v3,hw3⟩
    have HW3:=Aside0.mk ((HW.out.alloc HBr.out.size _).trans hw3)
    clear hw3
    go_wp2_with (fail)
    refine ⟨⟨k + 1,v3,by go_num,HLt.out,?_⟩,?_⟩
    ·have e:t ++ joinF f ys (k + 1)=t ++ joinF f ys k ++ f y:=by rw [HT.out,show joinF f ys k ++ (⟨#[]⟩:ByteArray)=joinF f ys k from ByteArray.append_empty];simp only [ByteArray.append_assoc]
     rw [e];exact HW3.out
    ·have:=HLt.out;simp [intOf];omega
  ·have e1:decide ((k:Int) < (ys.length:Int))=false:=decide_eq_false (by omega)
   have e2:(k < ys.length)=False:=eq_false hlt
   have e3:((k:Int) < (ys.length:Int))=False:=eq_false (by omega)
   obtain rfl:k=ys.length:=by omega
   have HW:=Aside0.mk hw
   clear hw hlt hk
   go_wp2_with (fail)
   go_end0
   exact ⟨rfl,v1,HW.out⟩
end Go.Proofs.YtjapfefiaijfcaaGreatDoor.Q
