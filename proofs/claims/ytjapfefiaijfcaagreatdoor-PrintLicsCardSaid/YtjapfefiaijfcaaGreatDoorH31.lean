/- A text of the contracts of the printer of licensees. The reference's text of a tree is the program's. -/
import Derived.BigRegion
import Derived.Deep.RegionHeld3
import Derived.Test.YtjapfefiaijfcaaGreatDoorH3
import Derived.Test.YtjapfefiaijfcaaGreatDoorH5
import Derived.Test.YtjapfefiaijfcaaGreatDoorH10
import Derived.Test.YtjapfefiaijfcaaGreatDoorH27
import Derived.Test.YtjapfefiaijfcaaGreatDoorH28
namespace Go.Proofs.YtjapfefiaijfcaaGreatDoor.Q
open Go.RowKit Go.Proofs.YtjapfefiaijfcaaGreatDoorW.PrintWords Go.Proofs.YtjapfefiaijfcaaGreatDoorW.PrintLast Go.Proofs.YtjapfefiaijfcaaGreatDoorW.PrintMore
set_option linter.unusedVariables false
def numB (k:Int):ByteArray:=⟨(Lib.itoa k).toArray⟩
def licN:Nat → S24 → Int → ByteArray
 | 0,_,_=>⟨#[]⟩
 | n + 1,x,want =>
  if x.f0=3 then parS (decide (0 < want)) (licN n (rd_T24 x.f3 0) 0 ++ ⟨#[32,124,124,32]⟩ ++ licN n (rd_T24 x.f3 1) 1)
  else if x.f0=2 then parS (decide (1 < want)) (licN n (rd_T24 x.f3 0) 1 ++ ⟨#[32,38,38,32]⟩ ++ licN n (rd_T24 x.f3 1) 2)
  else if x.f0=4 then numB x.f2 ++ ⟨#[45,111,102,40]⟩ ++ joinF (fun y=>licN n y 0) x.f3 x.f3.length ++ ⟨#[41]⟩
  else quoteS x.f1
theorem below_growN (w:World) (k:Nat) (os:Array Obj):Below w.heap.size w (Go.Sort.grow (w.drewN k) os):=by
 have h:=pw_below_drewN (Below.refl w.heap.size w) k
 refine ⟨h.os,h.tape,h.output,?_,fun i hi=>?_⟩
 ·show _ ≤ ((w.drewN k).heap ++ os).size
  have:=h.size
  rw [Array.size_append];omega
 ·show ((w.drewN k).heap ++ os)[i]? = _
  have:=h.size
  rw [Array.getElem?_append_left (by omega)]
  exact h.block i hi
theorem Bx.below {w0:World} {b b3 b4:Nat} {x:S24} {A:Option Addr} {c:Nat} {W W':World} (h:Bx w0 b b3 b4 x A c W) (hb:Below W.heap.size W W'):Bx w0 b b3 b4 x A c W':=⟨blk_below h.p3 hb,blk_below h.p4 hb,below_step h.bl hb⟩
theorem BldAt.below {T:TypeId} {B b:Nat} {v:Value} {t:ByteArray} {w w':World} (h:BldAt T B b v t w) (hb:Below w.heap.size w w'):BldAt T B b v t w':=by
 refine ⟨h.ge,h.box.imp (fun q=>blk_below q hb) (fun q=>blk_below q hb),?_,h.ne⟩
 obtain ⟨h1,h2⟩:=h.row
 refine ⟨h1,h2.imp id ?_⟩
 rintro ⟨g,cap,cur,e,hg,hc,r⟩
 exact ⟨g,cap,cur,e,hg,blk_below hc hb,r⟩
theorem Wrote.of_below {T:TypeId} {B b:Nat} {v v':Value} {t:ByteArray} {w w1 w':World} (h:Wrote T B b v t w1 w' v') (hb:Below w.heap.size w w1) (hB:B ≤ w.heap.size):Wrote T B b v t w w' v' :=
 ⟨h.at_,h.own.imp id (fun ⟨k,q,hk⟩=>⟨k,q,Nat.le_trans hb.size hk⟩),⟨Nat.le_trans hb.size h.keep.1,fun i hi hg hn=>(h.keep.2 i (Nat.lt_of_lt_of_le hi hb.size) hg hn).trans (hb.block i hi)⟩,(hb.mono hB).trans h.below⟩
theorem tab_below {n:String} {k:IntKind} {zs:List Int} {w w':World} (h:Lib.TabIs Tryz.prog w n k zs) (hb:Below w.heap.size w w'):Lib.TabIs Tryz.prog w' n k zs:=by
 unfold Lib.TabIs World.var? at h ⊢
 cases hg:Tryz.prog.globalNamed n with
 | none=>rw [hg] at h;cases h
 | some g =>
  rw [hg] at h
  simp only [Option.bind_some] at h ⊢
  have hlt:g < w.heap.size:=by
   rcases Nat.lt_or_ge g w.heap.size with q | q
   ·exact q
   ·rw [Array.getElem?_eq_none q] at h;cases h
  rw [hb.block g hlt]
  exact h
theorem itoa_calls (k:Int) (h0:0 ≤ k) (h1:k ≤ 100000) {w0:World} (htab:Lib.TabIs Tryz.prog w0 "internal/strconv.uint64pow10" .u64 Lib.pow10Tab) (W:World) (hb:Below w0.heap.size w0 W) :
  Calls Tryz.prog 48 #[.int .i64 k] W fun e w'=>e = .returned (.string (numB k)) ∧ Below W.heap.size W w':=by
 refine (Tryz.strconv_Itoa k (by omega) (by omega) W (tab_below htab hb)).mono ?_
 rintro e w' ⟨rfl,j,os,rfl⟩
 exact ⟨rfl,below_growN W j os⟩
theorem kid_le {x y:S24} (h:y ∈ x.f3):szT y < szT x:=by
 rw [szT_eq x]
 have:szT y ≤ (x.f3.map szT).sum:=sum_mem (List.mem_map.2 ⟨y,h,rfl⟩)
 omega
theorem cat4_ok (n:Nat) (h:n ≤ 1000000000):(9223372036854775807 < n + 4)=False:=eq_false (by omega)
theorem two_kids (x:S24) (h:x.f3.length=2):x.f3=[rd_T24 x.f3 0,rd_T24 x.f3 1]:=by
 match hx:x.f3,h with
 | [a,b],_=>rfl
theorem len_le_sumP (l:List S24):l.length ≤ (l.map szT).sum:=by
 induction l with
 | nil=>simp
 | cons a l ih=>have:=szT_pos a;simp only [List.length_cons,List.map_cons,List.sum_cons];omega
set_option maxHeartbeats 8000000 in
set_option maxRecDepth 100000 in
theorem print_lic (w0:World) (htab:Lib.TabIs Tryz.prog w0 "internal/strconv.uint64pow10" .u64 Lib.pow10Tab) (b:Nat) (N:Nat) :
  ∀ (x:S24) (want:Int),szT x ≤ N → N ≤ 100000 → okT x=true → (∀ t ∈ leaves x,t.size ≤ 1000000) → LicWr w0 b x want (licN N x want):=by
 induction N with
 | zero=>intro x want h;have:=szT_pos x;omega
 | succ N ih =>
  intro x want hN hN2 hok htx A c hc hC v t w bl hb hl
  have hkid:∀ y ∈ x.f3,∀ wt,LicWr w0 b y wt (licN N y wt):=by
   intro y hy wt
   refine ih y wt (by have:=kid_le hy;omega) (by omega) ?_ ?_
   ·rw [okT_eq,Bool.and_eq_true] at hok
    exact List.all_eq_true.1 hok.2 y hy
   ·exact fun s hs=>htx s (by rw [leaves_eq];exact List.mem_append_right _ (List.mem_flatten.2 ⟨_,List.mem_map.2 ⟨y,hy,rfl⟩,hs⟩))
  have hhead:headT x.f0 x.f1 x.f2 x.f3.length=true:=by rw [okT_eq,Bool.and_eq_true] at hok;exact hok.1
  have hlen:x.f3.length ≤ N:=by have:=szT_eq x;have h2:x.f3.length ≤ (x.f3.map szT).sum:=len_le_sumP x.f3;omega
  have hX:Bx w0 b w.heap.size (w.heap.size + 1) x A c ((w.alloc (.cells #[.pointer (some ⟨b,0,none⟩)] 46)).alloc (.cells #[.int .u8 x.f0,.string x.f1,.int .i64 x.f2,.slice A x.f3.length c] 24)) :=
   ⟨blk_alloc (blk_new w _) _,blk_new' _ (by simp),(bl.alloc bl.size _).alloc (by have:=bl.size;simp;omega) _⟩
  have hW0:Wrote 52 w0.heap.size b v t w ((w.alloc (.cells #[.pointer (some ⟨b,0,none⟩)] 46)).alloc (.cells #[.int .u8 x.f0,.string x.f1,.int .i64 x.f2,.slice A x.f3.length c] 24)) v :=
   ((Wrote.refl hb).alloc bl.size _).alloc (by have:=bl.size;simp;omega) _
  have n3:w.heap.size ≠ b:=by have:=hb.lt;omega
  have n4:w.heap.size + 1 ≠ b:=by have:=hb.lt;omega
  have o3:v.ownBlock ≠ some w.heap.size:=fun e=>by have:=(hb.own_lt _ e).2;omega
  have o4:v.ownBlock ≠ some (w.heap.size + 1):=fun e=>by have:=(hb.own_lt _ e).2;omega
  have HX:=Aside0.mk hX
  have HW0:=Aside0.mk hW0
  have N3:=Aside0.mk n3
  have N4:=Aside0.mk n4
  have O3:=Aside0.mk o3
  have O4:=Aside0.mk o4
  have HK:=Aside0.mk hkid
  have HC:=Aside0.mk hC
  have Hc:=Aside0.mk hc
  have HLen:=Aside0.mk hlen
  have HN2:=Aside0.mk hN2
  have HTab:=Aside0.mk htab
  have HSz:=Aside0.mk (by simp:w.heap.size + 1 < ((w.alloc (.cells #[.pointer (some ⟨b,0,none⟩)] 46)).alloc (.cells #[.int .u8 x.f0,.string x.f1,.int .i64 x.f2,.slice A x.f3.length c] 24)).heap.size)
  have hleaf:x.f0=1 → x.f1.size ≤ 1000000:=fun h=>htx _ (by rw [leaves_eq];simp [headL,h])
  unfold headT at hhead
  have hop:x.f0=1 ∨ x.f0=2 ∨ x.f0=3 ∨ x.f0=4:=by
   by_cases a1:x.f0=1
   ·exact .inl a1
   rw [if_neg a1] at hhead
   by_cases a2:x.f0=2 ∨ x.f0=3
   ·omega
   rw [if_neg a2] at hhead
   by_cases a4:x.f0=4
   ·omega
   rw [if_neg a4] at hhead;cases hhead
  by_cases a3:x.f0=3
  ·have hs:licN (N + 1) x want=parS (decide (0 < want)) (licN N (rd_T24 x.f3 0) 0 ++ ⟨#[32,124,124,32]⟩ ++ licN N (rd_T24 x.f3 1) 1):=by
    show (if x.f0=3 then _ else if x.f0=2 then _ else _)=_
    rw [if_pos a3]
   have hl2:x.f3.length=2:=by
    simp [a3] at hhead
    omega
   have hkids:=two_kids x hl2
   have m0:rd_T24 x.f3 0 ∈ x.f3:=by rw [hkids];simp [rd_T24]
   have m1:rd_T24 x.f3 1 ∈ x.f3:=by rw [hkids];simp [rd_T24]
   rw [hs] at hl ⊢
   have hpl:(if decide (0 < want)=true then 1 else 0) + (licN N (rd_T24 x.f3 0) 0 ++ ⟨#[32,124,124,32]⟩ ++ licN N (rd_T24 x.f3 1) 1).size ≤ (parS (decide (0 < want)) (licN N (rd_T24 x.f3 0) 0 ++ ⟨#[32,124,124,32]⟩ ++ licN N (rd_T24 x.f3 1) 1)).size:=by
    unfold parS
    split
    ·rw [ByteArray.size_append (a:=⟨#[40]⟩ ++ _),ByteArray.size_append (a:=⟨#[40]⟩)];have e:(⟨#[40]⟩:ByteArray).size=1:=rfl;omega
    ·omega
   have HKk:=Aside0.mk hkids
   have K0:=Aside0.mk (hkid _ m0 0)
   have K1:=Aside0.mk (hkid _ m1 1)
   have HL:=Aside0.mk (Nat.le_trans (Nat.add_le_add_left hpl t.size) hl)
   have f3:(x.f0 == 3)=true:=beq_iff_eq.mpr a3
   clear hs hl2 hkids m0 m1 hpl hl hhead hop a3 hX hW0 n3 n4 o3 o4 hkid hC hc hlen hN2 htab hok htx hN ih hleaf bl hb
   go_enter Tryz.func25,Tryz.ntmps25
   go_wp2_with (fail)
   go_at_call 44
   refine (print_in_45 w0.heap.size b w.heap.size (w.heap.size + 1) v t (licN N (rd_T24 x.f3 0) 0 ++ ⟨#[32,124,124,32]⟩ ++ licN N (rd_T24 x.f3 1) 1) _ HW0.out.at_ (by have:=HL.out;omega) HX.out.bl.size (decide (0 < want)) ?hW).mono ?_
   case hW =>
    intro v1 t1 w1 h1 hs1 ho1 hk1 hb1
    have HX1:Bx w0 b w.heap.size (w.heap.size + 1) x A c w1:=⟨(hk1.2 _ (blk_lt HX.out.p3) N3.out (fun e=>O3.out e.symm)).trans HX.out.p3,(hk1.2 _ (blk_lt HX.out.p4) N4.out (fun e=>O4.out e.symm)).trans HX.out.p4,HX.out.bl.trans hb1⟩
    have p3:v1.ownBlock ≠ some w.heap.size:=by
     rcases ho1 with q | ⟨j,q,hj⟩
     ·rw [q];exact O3.out
     ·rw [q];intro e;have:=Option.some.inj e;have:=HSz.out;omega
    have p4:v1.ownBlock ≠ some (w.heap.size + 1):=by
     rcases ho1 with q | ⟨j,q,hj⟩
     ·rw [q];exact O4.out
     ·rw [q];intro e;have:=Option.some.inj e;have:=HSz.out;omega
    exact print_two_45 w0 b w.heap.size (w.heap.size + 1) x _ _ A c HKk.out HC.out _ _ K0.out K1.out v1 t1 w1 HX1 h1 N3.out N4.out p3 p4 (by have:=HL.out;omega)
   rintro e_ w2 ⟨rfl,v2,hw2⟩
   have HW2:=Aside0.mk (HW0.out.trans hw2)
   clear hw2
   go_wp2_with (fail)
   go_end0
   exact ⟨rfl,v2,HW2.out⟩
  by_cases a2:x.f0=2
  ·have hs:licN (N + 1) x want=parS (decide (1 < want)) (licN N (rd_T24 x.f3 0) 1 ++ ⟨#[32,38,38,32]⟩ ++ licN N (rd_T24 x.f3 1) 2):=by
    show (if x.f0=3 then _ else if x.f0=2 then _ else _)=_
    rw [if_neg a3,if_pos a2]
   have hl2:x.f3.length=2:=by
    simp [a2] at hhead
    omega
   have hkids:=two_kids x hl2
   have m0:rd_T24 x.f3 0 ∈ x.f3:=by rw [hkids];simp [rd_T24]
   have m1:rd_T24 x.f3 1 ∈ x.f3:=by rw [hkids];simp [rd_T24]
   rw [hs] at hl ⊢
   have hpl:(if decide (1 < want)=true then 1 else 0) + (licN N (rd_T24 x.f3 0) 1 ++ ⟨#[32,38,38,32]⟩ ++ licN N (rd_T24 x.f3 1) 2).size ≤ (parS (decide (1 < want)) (licN N (rd_T24 x.f3 0) 1 ++ ⟨#[32,38,38,32]⟩ ++ licN N (rd_T24 x.f3 1) 2)).size:=by
    unfold parS
    split
    ·rw [ByteArray.size_append (a:=⟨#[40]⟩ ++ _),ByteArray.size_append (a:=⟨#[40]⟩)];have e:(⟨#[40]⟩:ByteArray).size=1:=rfl;omega
    ·omega
   have HKk:=Aside0.mk hkids
   have K0:=Aside0.mk (hkid _ m0 1)
   have K1:=Aside0.mk (hkid _ m1 2)
   have HL:=Aside0.mk (Nat.le_trans (Nat.add_le_add_left hpl t.size) hl)
   have f3:(x.f0 == 3)=false:=beq_eq_false_iff_ne.mpr a3
   have f2:(x.f0 == 2)=true:=beq_iff_eq.mpr a2
   clear hs hl2 hkids m0 m1 hpl hl hhead hop a3 a2 hX hW0 n3 n4 o3 o4 hkid hC hc hlen hN2 htab hok htx hN ih hleaf bl hb
   go_enter Tryz.func25,Tryz.ntmps25
   go_wp2_with (fail)
   go_at_call 44
   refine (print_in_47 w0.heap.size b w.heap.size (w.heap.size + 1) v t (licN N (rd_T24 x.f3 0) 1 ++ ⟨#[32,38,38,32]⟩ ++ licN N (rd_T24 x.f3 1) 2) _ HW0.out.at_ (by have:=HL.out;omega) HX.out.bl.size (decide (1 < want)) ?hW).mono ?_
   case hW =>
    intro v1 t1 w1 h1 hs1 ho1 hk1 hb1
    have HX1:Bx w0 b w.heap.size (w.heap.size + 1) x A c w1:=⟨(hk1.2 _ (blk_lt HX.out.p3) N3.out (fun e=>O3.out e.symm)).trans HX.out.p3,(hk1.2 _ (blk_lt HX.out.p4) N4.out (fun e=>O4.out e.symm)).trans HX.out.p4,HX.out.bl.trans hb1⟩
    have p3:v1.ownBlock ≠ some w.heap.size:=by
     rcases ho1 with q | ⟨j,q,hj⟩
     ·rw [q];exact O3.out
     ·rw [q];intro e;have:=Option.some.inj e;have:=HSz.out;omega
    have p4:v1.ownBlock ≠ some (w.heap.size + 1):=by
     rcases ho1 with q | ⟨j,q,hj⟩
     ·rw [q];exact O4.out
     ·rw [q];intro e;have:=Option.some.inj e;have:=HSz.out;omega
    exact print_two_47 w0 b w.heap.size (w.heap.size + 1) x _ _ A c HKk.out HC.out _ _ K0.out K1.out v1 t1 w1 HX1 h1 N3.out N4.out p3 p4 (by have:=HL.out;omega)
   rintro e_ w2 ⟨rfl,v2,hw2⟩
   have HW2:=Aside0.mk (HW0.out.trans hw2)
   clear hw2
   go_wp2_with (fail)
   go_end0
   exact ⟨rfl,v2,HW2.out⟩
  by_cases a4:x.f0=4
  ·have hs:licN (N + 1) x want=numB x.f2 ++ ⟨#[45,111,102,40]⟩ ++ joinF (fun y=>licN N y 0) x.f3 x.f3.length ++ ⟨#[41]⟩:=by
    show (if x.f0=3 then _ else if x.f0=2 then _ else if x.f0=4 then _ else _)=_
    rw [if_neg a3,if_neg a2,if_pos a4]
   rw [hs] at hl ⊢
   have hk:1 ≤ x.f2 ∧ x.f2 ≤ (x.f3.length:Int):=by
    simp [a4] at hhead
    exact hhead.2
   have HItoa:=Aside0.mk (fun W=>itoa_calls x.f2 (by omega) (by omega) (htab:=htab) W)
   generalize hnb:numB x.f2=nb at hl HItoa ⊢
   simp only [ByteArray.size_append] at hl
   have e4:(⟨#[45,111,102,40]⟩:ByteArray).size=4:=rfl
   have e1:(⟨#[41]⟩:ByteArray).size=1:=rfl
   rw [e4,e1] at hl
   have b3:=cat4_ok nb.size (by omega)
   have f3:(x.f0 == 3)=false:=beq_eq_false_iff_ne.mpr a3
   have f2:(x.f0 == 2)=false:=beq_eq_false_iff_ne.mpr a2
   have f4:(x.f0 == 4)=true:=beq_iff_eq.mpr a4
   have HL:=Aside0.mk hl
   have HF:=Aside0.mk (fun (W:World) (h:Bx w0 b w.heap.size (w.heap.size + 1) x A c W)=>(⟨h,(blk_cell h.p3 0).trans rfl,(blk_cell h.p4 2).trans rfl⟩:Bx w0 b w.heap.size (w.heap.size + 1) x A c W ∧ W.cell? ⟨w.heap.size,0,none⟩=some (.pointer (some ⟨b,0,none⟩)) ∧ W.cell? ⟨w.heap.size + 1,2,none⟩=some (.int .i64 x.f2)))
   clear hs hl hhead hop a2 a3 a4 hX hW0 n3 n4 o3 o4 hkid hC hc hlen hN2 htab hok htx hN ih hleaf bl hb hk hnb e4 e1
   go_enter Tryz.func25,Tryz.ntmps25
   go_wp2_with (fail)
   go_region_held3 (fun W=>Bx w0 b w.heap.size (w.heap.size + 1) x A c W ∧ W.cell? ⟨w.heap.size,0,none⟩=some (.pointer (some ⟨b,0,none⟩)) ∧ W.cell? ⟨w.heap.size + 1,2,none⟩=some (.int .i64 x.f2)) (first | exact HF.out _ HX3.out | exact HF.out _ HX2.out | exact HF.out _ HX.out.drew)
    (first | (go_at_call 48;(refine (HItoa.out _ HX.out.drew.bl).mono ?_);rintro e_ w2 ⟨rfl,hb2⟩;have HX2:=Aside0.mk (HX.out.drew.below hb2);have HA2:=Aside0.mk (HW0.out.at_.drew.below hb2);have HB2:=Aside0.mk (hb2.mono (Nat.le_refl _));clear hb2) | (go_at_call 46;(refine (builder_string_calls 52 headB52 w0.heap.size b v t _ _ HA2.out (by have:=HL.out;first | omega | (rw [ByteArray.size_append];have e4:(⟨#[45,111,102,40]⟩:ByteArray).size=4:=rfl;omega)) HX2.out.bl.size).mono ?_);rintro e_ w3 ⟨rfl,v3,hw3⟩;have HX3:=Aside0.mk (HX2.out.wrote hw3 N3.out N4.out O3.out O4.out);have P3:=Aside0.mk (own_after hw3 (blk_lt HX2.out.p3) O3.out);have HW3:=Aside0.mk (HW0.out.trans (hw3.of_below ((Below.drew (Below.refl _ _)).trans HB2.out) HX.out.bl.size));clear hw3))
   have g3:w3.cell? ⟨w.heap.size,0,none⟩=some (.pointer (some ⟨b,0,none⟩)):=(blk_cell HX3.out.p3 0).trans rfl
   have g4:w3.cell? ⟨w.heap.size + 1,3,none⟩=some (.slice A x.f3.length c):=(blk_cell HX3.out.p4 3).trans rfl
   go_wp2_with (fail)
   go_at_call 49
   refine (print_list w0 b w.heap.size x.f3 (fun y=>licN N y 0) (by have:=HLen.out;have:=HN2.out;omega) (fun y hy=>HK.out y hy 0) A c Hc.out HC.out v3 _ w3 HX3.out.p3 N3.out P3.out HX3.out.bl HW3.out.at_ (by have:=HL.out;have e4:(⟨#[45,111,102,40]⟩:ByteArray).size=4:=rfl;rw [ByteArray.size_append,ByteArray.size_append];omega)).mono ?_
   rintro e_ w4 ⟨rfl,v4,hw4⟩
   have HW4:=Aside0.mk (HW3.out.trans hw4)
   have HX4:=Aside0.mk ((HF.out _ HX3.out).1.bl.trans hw4.below)
   have g5:w4.cell? ⟨w.heap.size,0,none⟩=some (.pointer (some ⟨b,0,none⟩)):=(blk_cell ((hw4.keep.2 _ (blk_lt HX3.out.p3) N3.out (fun e=>P3.out e.symm)).trans HX3.out.p3) 0).trans rfl
   clear hw4 g3 g4
   go_wp2_with (fail)
   go_at_call 51
   refine (builder_byte_calls 52 headB52 w0.heap.size b v4 _ 41 _ HW4.out.at_ (by have:=HL.out;have e4:(⟨#[45,111,102,40]⟩:ByteArray).size=4:=rfl;rw [ByteArray.size_append,ByteArray.size_append,ByteArray.size_append];omega) HX4.out.size).mono ?_
   rintro e_ w5 ⟨rfl,v5,hw5⟩
   have HW5:=Aside0.mk (HW4.out.trans hw5)
   clear hw5
   go_wp2_with (fail)
   go_end0
   have e:t ++ (nb ++ ⟨#[45,111,102,40]⟩ ++ joinF (fun y=>licN N y 0) x.f3 x.f3.length ++ ⟨#[41]⟩)=t ++ (nb ++ ⟨#[45,111,102,40]⟩) ++ joinF (fun y=>licN N y 0) x.f3 x.f3.length ++ ⟨#[41]⟩:=by simp only [ByteArray.append_assoc]
   rw [e]
   exact ⟨rfl,v5,HW5.out⟩
  ·have a1:x.f0=1:=by omega
   have hs:licN (N + 1) x want=quoteS x.f1:=by
    show (if x.f0=3 then _ else if x.f0=2 then _ else if x.f0=4 then _ else _)=_
    rw [if_neg a3,if_neg a2,if_neg a4]
   rw [hs] at hl ⊢
   have HQ:=Aside0.mk (hleaf a1)
   have f3:(x.f0 == 3)=false:=beq_eq_false_iff_ne.mpr a3
   have f2:(x.f0 == 2)=false:=beq_eq_false_iff_ne.mpr a2
   have f4:(x.f0 == 4)=false:=beq_eq_false_iff_ne.mpr a4
   have HL:=Aside0.mk hl
   have HF:=Aside0.mk (fun (W:World) (h:Bx w0 b w.heap.size (w.heap.size + 1) x A c W)=>(⟨h,(blk_cell h.p3 0).trans rfl,(blk_cell h.p4 1).trans rfl⟩:Bx w0 b w.heap.size (w.heap.size + 1) x A c W ∧ W.cell? ⟨w.heap.size,0,none⟩=some (.pointer (some ⟨b,0,none⟩)) ∧ W.cell? ⟨w.heap.size + 1,1,none⟩=some (.string x.f1)))
   clear hs hl hhead hop a1 a2 a3 a4 hX hW0 n3 n4 o3 o4 hkid hC hc hlen hN2 htab hok htx hN ih hleaf bl hb
   go_enter Tryz.func25,Tryz.ntmps25
   go_wp2_with (fail)
   go_region_held3 (fun W=>Bx w0 b w.heap.size (w.heap.size + 1) x A c W ∧ W.cell? ⟨w.heap.size,0,none⟩=some (.pointer (some ⟨b,0,none⟩)) ∧ W.cell? ⟨w.heap.size + 1,1,none⟩=some (.string x.f1)) (first | exact HF.out _ HX3.out | exact HF.out _ HX2.out | exact HF.out _ HX.out.drew)
    (first | (go_at_call 52;(refine (tokens_Quote.calls x.f1 HQ.out _).mono ?_);rintro e_ w2 ⟨rfl,hb2⟩;have HX2:=Aside0.mk (HX.out.drew.below hb2);have HA2:=Aside0.mk (HW0.out.at_.drew.below hb2);have HB2:=Aside0.mk (hb2.mono (Nat.le_refl _));clear hb2) | (go_at_call 46;(refine (builder_string_calls 52 headB52 w0.heap.size b v t _ _ HA2.out (by have:=HL.out;first | omega | (rw [ByteArray.size_append];have e4:(⟨#[45,111,102,40]⟩:ByteArray).size=4:=rfl;omega)) HX2.out.bl.size).mono ?_);rintro e_ w3 ⟨rfl,v3,hw3⟩;have HX3:=Aside0.mk (HX2.out.wrote hw3 N3.out N4.out O3.out O4.out);have P3:=Aside0.mk (own_after hw3 (blk_lt HX2.out.p3) O3.out);have HW3:=Aside0.mk (HW0.out.trans (hw3.of_below ((Below.drew (Below.refl _ _)).trans HB2.out) HX.out.bl.size));clear hw3))
   go_wp2_with (fail)
   go_end0
   exact ⟨rfl,v3,HW3.out⟩
end Go.Proofs.YtjapfefiaijfcaaGreatDoor.Q
namespace Go.Proofs.YtjapfefiaijfcaaGreatDoor.Q
open Go.RowKit Go.Proofs.YtjapfefiaijfcaaGreatDoorW.PrintWords Go.Proofs.YtjapfefiaijfcaaGreatDoorW.PrintLast Go.Proofs.YtjapfefiaijfcaaGreatDoorW.PrintMore
set_option linter.unusedVariables false
theorem numB_small (n:Nat) (h:n < 10):numB (n:Int)=strOfNums [((48 + n:Nat):Int)]:=by
 unfold numB Lib.itoa
 rw [if_neg (by omega),Int.toNat_natCast,Lib.decDigits,dif_pos h]
 rfl
theorem numB_step (n:Nat) (h:¬ n < 10):numB (n:Int)=numB ((n / 10:Nat):Int) ++ strOfNums [((48 + n % 10:Nat):Int)]:=by
 unfold numB Lib.itoa
 rw [if_neg (by omega),if_neg (by omega),Int.toNat_natCast,Int.toNat_natCast,Lib.decDigits,dif_neg h]
 have e:strOfNums [((48 + n % 10:Nat):Int)]=⟨#[UInt8.ofNat (48 + n % 10)]⟩:=rfl
 rw [e]
 generalize UInt8.ofNat (48 + n % 10)=u
 apply ByteArray.ext
 simp
theorem numB_size (n:Nat):∀ d,n < 10 ^ d → 1 ≤ d → (numB (n:Int)).size ≤ d:=by
 induction n using Nat.strongRecOn with
 | _ n ih =>
  intro d hd h1
  by_cases h:n < 10
  ·rw [numB_small n h,nums_size];simpa using h1
  ·obtain ⟨e,rfl⟩:∃ e,d=e + 2:=by
    match d,hd with
    | 1,hd=>omega
    | e + 2,_=>exact ⟨e,rfl⟩
   rw [numB_step n h,ByteArray.size_append,nums_size]
   have:=ih (n / 10) (by omega) (e + 1) (by rw [Nat.pow_succ] at hd;omega) (by omega)
   simp only [List.length_cons,List.length_nil];omega
theorem number_some (n:Nat) (hn:n ≤ 1000000):∃ K,∀ k,K ≤ k → vouchref19_number.f k (n:Int)=some (numB (n:Int)):=by
 induction n using Nat.strongRecOn with
 | _ n ih =>
  by_cases h:n < 10
  ·refine ⟨1,fun k hk=>?_⟩
   obtain ⟨k,rfl⟩:∃ k',k=k' + 1:=⟨k - 1,by omega⟩
   unfold vouchref19_number.f
   rw [if_pos (by omega),numB_small n h]
   congr 3
   omega
  ·obtain ⟨K,hK⟩:=ih (n / 10) (by omega) (by omega)
   refine ⟨K + 1,fun k hk=>?_⟩
   obtain ⟨k,rfl⟩:∃ k',k=k' + 1:=⟨k - 1,by omega⟩
   have e1:wrap64 (Int.tdiv (n:Int) 10)=((n / 10:Nat):Int):=by
    rw [Int.tdiv_eq_ediv_of_nonneg (by omega),IntWalk.wrap64_in _ (by omega)];omega
   have e2:(48 + ((Int.tmod (n:Int) 10) % 256)) % 256=((48 + n % 10:Nat):Int):=by
    rw [Int.tmod_eq_emod_of_nonneg (by omega)];omega
   have hs:(numB ((n / 10:Nat):Int)).size ≤ 7:=numB_size _ 7 (by omega) (by omega)
   have hsz:(numB ((n / 10:Nat):Int)).size + (strOfNums [((48 + n % 10:Nat):Int)]).size ≤ 9223372036854775807:=by rw [nums_size,List.length_singleton];omega
   unfold vouchref19_number.f
   rw [if_neg (by omega),e1,hK k (by omega),e2]
   simp only [Option.bind_some]
   rw [if_pos hsz,← numB_step n h]
theorem par_size (p:Bool) (s:ByteArray):s.size ≤ (parS p s).size:=by
 unfold parS
 split
 ·rw [ByteArray.size_append,ByteArray.size_append];omega
 ·exact Nat.le_refl _
abbrev LicIs (y:S24) (want:Int) (s:ByteArray):Prop :=
 ∀ (A:Option Addr) (c:Nat) (w:World),y.f3.length ≤ c → Kd.C k24 w A y.f3.length y.f3 → Calls Tryz.prog 23 #[.agg #[.int .u8 y.f0,.string y.f1,.int .i64 y.f2,.slice A y.f3.length c],.int .i64 want] w fun e w'=>e = .returned (.string s) ∧ Below w.heap.size w w'
set_option maxHeartbeats 8000000 in
set_option maxRecDepth 100000 in
theorem ref_or (f1:ByteArray) (f2:Int) (y0 y1:S24) (s0 s1:ByteArray) (want:Int) (A:Option Addr) (c:Nat) (w:World) (hc:2 ≤ c) (hC:Kd.C k24 w A 2 [y0,y1]) (h0:LicIs y0 0 s0) (h1:LicIs y1 1 s1) (hl:s0.size + 4 + s1.size + 2 ≤ 2000000000) :
  Calls Tryz.prog 23 #[.agg #[.int .u8 3,.string f1,.int .i64 f2,.slice A 2 c],.int .i64 want] w fun e w'=>e = .returned (.string (parS (decide (0 < want)) (s0 ++ ⟨#[32,124,124,32]⟩ ++ s1))) ∧ Below w.heap.size w w':=by
 obtain ⟨ad,A0,c0,rfl,k0,k1,k2,k3,k4,k5⟩:=at_T24 hC 0 (by decide) (by simp)
 obtain ⟨ad',A1,c1,ea,j0,j1,j2,j3,j4,j5⟩:=at_T24 hC 1 (by decide) (by simp)
 obtain rfl:ad=ad':=Option.some.inj ea
 have z0:rd_T24 [y0,y1] 0=y0:=rfl
 have z1:rd_T24 [y0,y1] 1=y1:=rfl
 rw [z0] at k0 k1 k2 k3 k4 k5
 rw [z1] at j0 j1 j2 j3 j4 j5
 have K0:w.cell? ad=some (.int .u8 y0.f0):=k0
 have K1:w.cell? ⟨ad.block,ad.off + 1,none⟩=some (.string y0.f1):=k1
 have K2:w.cell? ⟨ad.block,ad.off + 2,none⟩=some (.int .i64 y0.f2):=k2
 have K3:w.cell? ⟨ad.block,ad.off + 3,none⟩=some (.slice A0 y0.f3.length c0):=k3
 have J0:w.cell? ⟨ad.block,ad.off + 4,none⟩=some (.int .u8 y1.f0):=j0
 have J1:w.cell? ⟨ad.block,ad.off + 4 + 1,none⟩=some (.string y1.f1):=j1
 have J2:w.cell? ⟨ad.block,ad.off + 4 + 2,none⟩=some (.int .i64 y1.f2):=j2
 have J3:w.cell? ⟨ad.block,ad.off + 4 + 3,none⟩=some (.slice A1 y1.f3.length c1):=j3
 have HF:=Aside0.mk (fun (W:World) (h:Below w.heap.size w W ∧ W.heap[w.heap.size]? = some (.cells #[.int .u8 3,.string f1,.int .i64 f2,.slice (some ad) 2 c] 24 (0,0)))=>(⟨h,(blk_cell h.2 3).trans rfl,pw_cell_below h.1 K0,pw_cell_below h.1 K1,pw_cell_below h.1 K2,pw_cell_below h.1 K3,pw_cell_below h.1 J0,pw_cell_below h.1 J1,pw_cell_below h.1 J2,pw_cell_below h.1 J3⟩:(Below w.heap.size w W ∧ W.heap[w.heap.size]? = some (.cells #[.int .u8 3,.string f1,.int .i64 f2,.slice (some ad) 2 c] 24 (0,0))) ∧ W.cell? ⟨w.heap.size,3,none⟩=some (.slice (some ad) 2 c) ∧ W.cell? ad=some (.int .u8 y0.f0) ∧ W.cell? ⟨ad.block,ad.off + 1,none⟩=some (.string y0.f1) ∧ W.cell? ⟨ad.block,ad.off + 2,none⟩=some (.int .i64 y0.f2) ∧ W.cell? ⟨ad.block,ad.off + 3,none⟩=some (.slice A0 y0.f3.length c0) ∧ W.cell? ⟨ad.block,ad.off + 4,none⟩=some (.int .u8 y1.f0) ∧ W.cell? ⟨ad.block,ad.off + 4 + 1,none⟩=some (.string y1.f1) ∧ W.cell? ⟨ad.block,ad.off + 4 + 2,none⟩=some (.int .i64 y1.f2) ∧ W.cell? ⟨ad.block,ad.off + 4 + 3,none⟩=some (.slice A1 y1.f3.length c1)))
 have HQ:=Aside0.mk (show Below w.heap.size w (w.alloc (.cells #[.int .u8 3,.string f1,.int .i64 f2,.slice (some ad) 2 c] 24)) ∧ (w.alloc (.cells #[.int .u8 3,.string f1,.int .i64 f2,.slice (some ad) 2 c] 24)).heap[w.heap.size]? = some (.cells #[.int .u8 3,.string f1,.int .i64 f2,.slice (some ad) 2 c] 24 (0,0)) from ⟨(Below.refl _ w).alloc (Nat.le_refl _) _,blk_new _ _⟩)
 have b0:=blk_new w (.cells #[.int .u8 3,.string f1,.int .i64 f2,.slice (some ad) 2 c] 24)
 have e0:=blk_cell b0 0
 have H0:=Aside0.mk h0
 have H1:=Aside0.mk h1
 have C0:=Aside0.mk k5
 have C1:=Aside0.mk j5
 have L0:=Aside0.mk k4
 have L1:=Aside0.mk j4
 have e4:(⟨#[32,124,124,32]⟩:ByteArray).size=4:=rfl
 have x1:(9223372036854775807 < s0.size + 4)=False:=eq_false (by omega)
 have x2:(9223372036854775807 < s0.size + 4 + s1.size)=False:=eq_false (by omega)
 have x3:(9223372036854775807 < 1 + (s0.size + 4 + s1.size))=False:=eq_false (by omega)
 have x4:(9223372036854775807 < 1 + (s0.size + 4 + s1.size) + 1)=False:=eq_false (by omega)
 clear hl h0 h1 b0 k0 k1 k2 k3 k4 k5 j0 j1 j2 j3 j4 j5 K0 K1 K2 K3 J0 J1 J2 J3 hC z0 z1 ea e4
 go_enter Tryz.func23,Tryz.ntmps23
 go_wp2_with (fail)
 go_region_held3 (fun W=>(Below w.heap.size w W ∧ W.heap[w.heap.size]? = some (.cells #[.int .u8 3,.string f1,.int .i64 f2,.slice (some ad) 2 c] 24 (0,0))) ∧ W.cell? ⟨w.heap.size,3,none⟩=some (.slice (some ad) 2 c) ∧ W.cell? ad=some (.int .u8 y0.f0) ∧ W.cell? ⟨ad.block,ad.off + 1,none⟩=some (.string y0.f1) ∧ W.cell? ⟨ad.block,ad.off + 2,none⟩=some (.int .i64 y0.f2) ∧ W.cell? ⟨ad.block,ad.off + 3,none⟩=some (.slice A0 y0.f3.length c0) ∧ W.cell? ⟨ad.block,ad.off + 4,none⟩=some (.int .u8 y1.f0) ∧ W.cell? ⟨ad.block,ad.off + 4 + 1,none⟩=some (.string y1.f1) ∧ W.cell? ⟨ad.block,ad.off + 4 + 2,none⟩=some (.int .i64 y1.f2) ∧ W.cell? ⟨ad.block,ad.off + 4 + 3,none⟩=some (.slice A1 y1.f3.length c1)) (first | exact HF.out _ HQ3.out | exact HF.out _ HQ2.out | exact HF.out _ ⟨below_drew1 HQ.out.1,HQ.out.2⟩)
  (first | (go_at_call 23;(with_reducible refine (H0.out A0 c0 _ L0.out ?sb).mono ?_);(case sb=>first | exact Kd.C_below C0.out (below_drew1 HQ.out.1));rintro e_ w2 ⟨rfl,hb⟩;have HQ2:=Aside0.mk (show Below w.heap.size w w2 ∧ w2.heap[w.heap.size]? = some (.cells #[.int .u8 3,.string f1,.int .i64 f2,.slice (some ad) 2 c] 24 (0,0)) from ⟨below_step (below_drew1 HQ.out.1) hb,blk_below (blk_drew HQ.out.2) hb⟩);clear hb) | (go_at_call 23;(with_reducible refine (H1.out A1 c1 _ L1.out ?sb).mono ?_);(case sb=>first | exact Kd.C_below C1.out HQ2.out.1);rintro e_ w3 ⟨rfl,hb⟩;have HQ3:=Aside0.mk (show Below w.heap.size w w3 ∧ w3.heap[w.heap.size]? = some (.cells #[.int .u8 3,.string f1,.int .i64 f2,.slice (some ad) 2 c] 24 (0,0)) from ⟨below_step HQ2.out.1 hb,blk_below HQ2.out.2 hb⟩);clear hb))
 by_cases hw:0 < want
 ·have d1:decide (0 < want)=true:=decide_eq_true hw
  clear hw
  go_wp2_with (fail)
  refine bodyPost_ret (v:=.string (⟨#[40]⟩ ++ (s0 ++ ⟨#[32,124,124,32]⟩ ++ s1) ++ ⟨#[41]⟩)) ?_ rfl ⟨by rw [d1];rfl,HQ3.out.1⟩
  simp [results,Tryz.results23,go_sem]
 ·have d1:decide (0 < want)=false:=decide_eq_false hw
  clear hw
  go_wp2_with (fail)
  refine bodyPost_ret (v:=.string (s0 ++ ⟨#[32,124,124,32]⟩ ++ s1)) ?_ rfl ⟨by rw [d1];rfl,HQ3.out.1⟩
  simp [results,Tryz.results23,go_sem]
set_option maxHeartbeats 8000000 in
set_option maxRecDepth 100000 in
theorem ref_and (f1:ByteArray) (f2:Int) (y0 y1:S24) (s0 s1:ByteArray) (want:Int) (A:Option Addr) (c:Nat) (w:World) (hc:2 ≤ c) (hC:Kd.C k24 w A 2 [y0,y1]) (h0:LicIs y0 1 s0) (h1:LicIs y1 2 s1) (hl:s0.size + 4 + s1.size + 2 ≤ 2000000000) :
  Calls Tryz.prog 23 #[.agg #[.int .u8 2,.string f1,.int .i64 f2,.slice A 2 c],.int .i64 want] w fun e w'=>e = .returned (.string (parS (decide (1 < want)) (s0 ++ ⟨#[32,38,38,32]⟩ ++ s1))) ∧ Below w.heap.size w w':=by
 obtain ⟨ad,A0,c0,rfl,k0,k1,k2,k3,k4,k5⟩:=at_T24 hC 0 (by decide) (by simp)
 obtain ⟨ad',A1,c1,ea,j0,j1,j2,j3,j4,j5⟩:=at_T24 hC 1 (by decide) (by simp)
 obtain rfl:ad=ad':=Option.some.inj ea
 have z0:rd_T24 [y0,y1] 0=y0:=rfl
 have z1:rd_T24 [y0,y1] 1=y1:=rfl
 rw [z0] at k0 k1 k2 k3 k4 k5
 rw [z1] at j0 j1 j2 j3 j4 j5
 have K0:w.cell? ad=some (.int .u8 y0.f0):=k0
 have K1:w.cell? ⟨ad.block,ad.off + 1,none⟩=some (.string y0.f1):=k1
 have K2:w.cell? ⟨ad.block,ad.off + 2,none⟩=some (.int .i64 y0.f2):=k2
 have K3:w.cell? ⟨ad.block,ad.off + 3,none⟩=some (.slice A0 y0.f3.length c0):=k3
 have J0:w.cell? ⟨ad.block,ad.off + 4,none⟩=some (.int .u8 y1.f0):=j0
 have J1:w.cell? ⟨ad.block,ad.off + 4 + 1,none⟩=some (.string y1.f1):=j1
 have J2:w.cell? ⟨ad.block,ad.off + 4 + 2,none⟩=some (.int .i64 y1.f2):=j2
 have J3:w.cell? ⟨ad.block,ad.off + 4 + 3,none⟩=some (.slice A1 y1.f3.length c1):=j3
 have HF:=Aside0.mk (fun (W:World) (h:Below w.heap.size w W ∧ W.heap[w.heap.size]? = some (.cells #[.int .u8 2,.string f1,.int .i64 f2,.slice (some ad) 2 c] 24 (0,0)))=>(⟨h,(blk_cell h.2 3).trans rfl,pw_cell_below h.1 K0,pw_cell_below h.1 K1,pw_cell_below h.1 K2,pw_cell_below h.1 K3,pw_cell_below h.1 J0,pw_cell_below h.1 J1,pw_cell_below h.1 J2,pw_cell_below h.1 J3⟩:(Below w.heap.size w W ∧ W.heap[w.heap.size]? = some (.cells #[.int .u8 2,.string f1,.int .i64 f2,.slice (some ad) 2 c] 24 (0,0))) ∧ W.cell? ⟨w.heap.size,3,none⟩=some (.slice (some ad) 2 c) ∧ W.cell? ad=some (.int .u8 y0.f0) ∧ W.cell? ⟨ad.block,ad.off + 1,none⟩=some (.string y0.f1) ∧ W.cell? ⟨ad.block,ad.off + 2,none⟩=some (.int .i64 y0.f2) ∧ W.cell? ⟨ad.block,ad.off + 3,none⟩=some (.slice A0 y0.f3.length c0) ∧ W.cell? ⟨ad.block,ad.off + 4,none⟩=some (.int .u8 y1.f0) ∧ W.cell? ⟨ad.block,ad.off + 4 + 1,none⟩=some (.string y1.f1) ∧ W.cell? ⟨ad.block,ad.off + 4 + 2,none⟩=some (.int .i64 y1.f2) ∧ W.cell? ⟨ad.block,ad.off + 4 + 3,none⟩=some (.slice A1 y1.f3.length c1)))
 have HQ:=Aside0.mk (show Below w.heap.size w (w.alloc (.cells #[.int .u8 2,.string f1,.int .i64 f2,.slice (some ad) 2 c] 24)) ∧ (w.alloc (.cells #[.int .u8 2,.string f1,.int .i64 f2,.slice (some ad) 2 c] 24)).heap[w.heap.size]? = some (.cells #[.int .u8 2,.string f1,.int .i64 f2,.slice (some ad) 2 c] 24 (0,0)) from ⟨(Below.refl _ w).alloc (Nat.le_refl _) _,blk_new _ _⟩)
 have b0:=blk_new w (.cells #[.int .u8 2,.string f1,.int .i64 f2,.slice (some ad) 2 c] 24)
 have e0:=blk_cell b0 0
 have H0:=Aside0.mk h0
 have H1:=Aside0.mk h1
 have C0:=Aside0.mk k5
 have C1:=Aside0.mk j5
 have L0:=Aside0.mk k4
 have L1:=Aside0.mk j4
 have e4:(⟨#[32,38,38,32]⟩:ByteArray).size=4:=rfl
 have x1:(9223372036854775807 < s0.size + 4)=False:=eq_false (by omega)
 have x2:(9223372036854775807 < s0.size + 4 + s1.size)=False:=eq_false (by omega)
 have x3:(9223372036854775807 < 1 + (s0.size + 4 + s1.size))=False:=eq_false (by omega)
 have x4:(9223372036854775807 < 1 + (s0.size + 4 + s1.size) + 1)=False:=eq_false (by omega)
 clear hl h0 h1 b0 k0 k1 k2 k3 k4 k5 j0 j1 j2 j3 j4 j5 K0 K1 K2 K3 J0 J1 J2 J3 hC z0 z1 ea e4
 go_enter Tryz.func23,Tryz.ntmps23
 go_wp2_with (fail)
 go_region_held3 (fun W=>(Below w.heap.size w W ∧ W.heap[w.heap.size]? = some (.cells #[.int .u8 2,.string f1,.int .i64 f2,.slice (some ad) 2 c] 24 (0,0))) ∧ W.cell? ⟨w.heap.size,3,none⟩=some (.slice (some ad) 2 c) ∧ W.cell? ad=some (.int .u8 y0.f0) ∧ W.cell? ⟨ad.block,ad.off + 1,none⟩=some (.string y0.f1) ∧ W.cell? ⟨ad.block,ad.off + 2,none⟩=some (.int .i64 y0.f2) ∧ W.cell? ⟨ad.block,ad.off + 3,none⟩=some (.slice A0 y0.f3.length c0) ∧ W.cell? ⟨ad.block,ad.off + 4,none⟩=some (.int .u8 y1.f0) ∧ W.cell? ⟨ad.block,ad.off + 4 + 1,none⟩=some (.string y1.f1) ∧ W.cell? ⟨ad.block,ad.off + 4 + 2,none⟩=some (.int .i64 y1.f2) ∧ W.cell? ⟨ad.block,ad.off + 4 + 3,none⟩=some (.slice A1 y1.f3.length c1)) (first | exact HF.out _ HQ3.out | exact HF.out _ HQ2.out | exact HF.out _ ⟨below_drew1 HQ.out.1,HQ.out.2⟩)
  (first | (go_at_call 23;(with_reducible refine (H0.out A0 c0 _ L0.out ?sb).mono ?_);(case sb=>first | exact Kd.C_below C0.out (below_drew1 HQ.out.1));rintro e_ w2 ⟨rfl,hb⟩;have HQ2:=Aside0.mk (show Below w.heap.size w w2 ∧ w2.heap[w.heap.size]? = some (.cells #[.int .u8 2,.string f1,.int .i64 f2,.slice (some ad) 2 c] 24 (0,0)) from ⟨below_step (below_drew1 HQ.out.1) hb,blk_below (blk_drew HQ.out.2) hb⟩);clear hb) | (go_at_call 23;(with_reducible refine (H1.out A1 c1 _ L1.out ?sb).mono ?_);(case sb=>first | exact Kd.C_below C1.out HQ2.out.1);rintro e_ w3 ⟨rfl,hb⟩;have HQ3:=Aside0.mk (show Below w.heap.size w w3 ∧ w3.heap[w.heap.size]? = some (.cells #[.int .u8 2,.string f1,.int .i64 f2,.slice (some ad) 2 c] 24 (0,0)) from ⟨below_step HQ2.out.1 hb,blk_below HQ2.out.2 hb⟩);clear hb))
 by_cases hw:1 < want
 ·have d1:decide (1 < want)=true:=decide_eq_true hw
  clear hw
  go_wp2_with (fail)
  refine bodyPost_ret (v:=.string (⟨#[40]⟩ ++ (s0 ++ ⟨#[32,38,38,32]⟩ ++ s1) ++ ⟨#[41]⟩)) ?_ rfl ⟨by rw [d1];rfl,HQ3.out.1⟩
  simp [results,Tryz.results23,go_sem]
 ·have d1:decide (1 < want)=false:=decide_eq_false hw
  clear hw
  go_wp2_with (fail)
  refine bodyPost_ret (v:=.string (s0 ++ ⟨#[32,38,38,32]⟩ ++ s1)) ?_ rfl ⟨by rw [d1];rfl,HQ3.out.1⟩
  simp [results,Tryz.results23,go_sem]
set_option maxHeartbeats 4000000 in
set_option maxRecDepth 100000 in
theorem ref_leaf (f1:ByteArray) (f2:Int) (n:Nat) (want:Int) (hw:want ≤ 2) (h1:f1.size ≤ 1000000) (A:Option Addr) (c:Nat) (w:World) :
  Calls Tryz.prog 23 #[.agg #[.int .u8 1,.string f1,.int .i64 f2,.slice A n c],.int .i64 want] w fun e w'=>e = .returned (.string (quoteS f1)) ∧ Below w.heap.size w w':=by
 have HQ:=Aside0.mk (fun W=>vouchref14_Quote.calls _ f1 _ W (quote_some f1 h1 _ (Nat.le_refl _)))
 have b0:=blk_new w (.cells #[.int .u8 1,.string f1,.int .i64 f2,.slice A n c] 24)
 have e0:=blk_cell b0 0
 have e1:=blk_cell b0 1
 have hb:=(Below.refl _ w).alloc (Nat.le_refl _) (.cells #[.int .u8 1,.string f1,.int .i64 f2,.slice A n c] 24)
 have HB:=Aside0.mk hb
 have d1:decide (2 < want)=false:=decide_eq_false (by omega)
 clear b0 hb hw h1
 go_enter Tryz.func23,Tryz.ntmps23
 go_wp2_with (fail)
 go_at_call 39
 refine (HQ.out _).mono ?_
 rintro e_ w1 ⟨rfl,hb⟩
 have HB1:=Aside0.mk (below_step HB.out hb)
 clear hb
 go_wp2_with (fail)
 refine bodyPost_ret (v:=.string (quoteS f1)) ?_ rfl ⟨rfl,HB1.out⟩
 simp [results,Tryz.results23,go_sem]
set_option maxHeartbeats 8000000 in
set_option maxRecDepth 100000 in
theorem ref_count (f1:ByteArray) (n:Nat) (ys:List S24) (g:S24 → ByteArray) (want:Int) (hw:want ≤ 2) (hn:n ≤ 1000000) (hy:ys.length ≤ 100000) (hk:∀ y ∈ ys,LicIs y 0 (g y)) (hl:(numB (n:Int)).size + 4 + (joinF g ys ys.length).size + 1 ≤ 2000000000)
  (A:Option Addr) (c:Nat) (w:World) (hc:ys.length ≤ c) (hC:Kd.C k24 w A ys.length ys) :
  Calls Tryz.prog 23 #[.agg #[.int .u8 4,.string f1,.int .i64 (n:Int),.slice A ys.length c],.int .i64 want] w fun e w'=>e = .returned (.string (numB (n:Int) ++ ⟨#[45,111,102,40]⟩ ++ joinF g ys ys.length ++ ⟨#[41]⟩)) ∧ Below w.heap.size w w':=by
 obtain ⟨K,hK⟩:=number_some n hn
 have HN:=Aside0.mk (fun W=>vouchref19_number.calls K (n:Int) _ W (hK K (Nat.le_refl _)))
 have HC:=Aside0.mk hC
 have HY:=Aside0.mk hk
 have HL:=Aside0.mk hl
 have b0:=blk_new w (.cells #[.int .u8 4,.string f1,.int .i64 (n:Int),.slice A ys.length c] 24)
 have e0:=blk_cell b0 0
 have e2:=blk_cell b0 2
 have HQ:=Aside0.mk (show Below w.heap.size w (w.alloc (.cells #[.int .u8 4,.string f1,.int .i64 (n:Int),.slice A ys.length c] 24)) ∧ _ from ⟨(Below.refl _ w).alloc (Nat.le_refl _) _,b0⟩)
 have d1:decide (2 < want)=false:=decide_eq_false (by omega)
 have e6:(⟨#[45,111,102,40]⟩:ByteArray).size=4:=rfl
 have x1:(9223372036854775807 < (numB (n:Int)).size + 4)=False:=eq_false (by omega)
 obtain ⟨pre,hpre⟩:∃ pre,pre=numB (n:Int) ++ ⟨#[45,111,102,40]⟩:=⟨_,rfl⟩
 have hps:pre.size=(numB (n:Int)).size + 4:=by rw [hpre,ByteArray.size_append];rfl
 have HPS:=Aside0.mk hps
 rw [← hpre]
 have HP:=Aside0.mk hpre
 clear b0 hw hn hk hl hC hK hc hpre hps e6
 go_enter Tryz.func23,Tryz.ntmps23
 go_wp2_with (fail)
 go_at_call 40
 refine (HN.out _).mono ?_
 rintro e_ w1 ⟨rfl,hb⟩
 have HQ1:=Aside0.mk (show Below w.heap.size w w1 ∧ w1.heap[w.heap.size]? = some (.cells #[.int .u8 4,.string f1,.int .i64 (n:Int),.slice A ys.length c] 24 (0,0)) from ⟨below_step HQ.out.1 hb,blk_below HQ.out.2 hb⟩)
 clear hb e0 e2
 go_wp2_with (fail)
 rw [← HP.out]
 go_loopw [6,7] (fun s i wr=>∃ j:Nat,s = .string (pre ++ joinF g ys j) ∧ i = .int .i64 (j:Int) ∧ j ≤ ys.length ∧ Below w.heap.size w wr ∧ wr.heap[w.heap.size]? = some (.cells #[.int .u8 4,.string f1,.int .i64 (n:Int),.slice A ys.length c] 24 (0,0))) (fun s i wr=>ys.length - (intOf i).toNat)
 case atStart =>
  exact ⟨0,by rw [show pre ++ joinF g ys 0=pre from ByteArray.append_empty],rfl,Nat.zero_le _,HQ1.out.1,HQ1.out.2⟩
 case round =>
  obtain ⟨j,rfl,rfl,hj,hb,hx⟩:=hrel
  have c3:=blk_cell hx 3
  have hle:=joinF_le g ys j (ys.length - j)
  rw [show j + (ys.length - j)=ys.length by omega] at hle
  by_cases hlt:j < ys.length
  ·have t1:decide ((j:Int) < (ys.length:Int))=true:=decide_eq_true (by omega)
   have q4:IntKind.i64.wrap ((j:Int) + 1)=(j:Int) + 1:=IntWalk.i64_in _ (by omega)
   obtain ⟨ad,A3,c3',rfl,k0,k1,k2,k3,k4,k5⟩:=at_T24 (Kd.C_below HC.out hb) (j:Int) (by omega) (by omega)
   rw [Int.toNat_natCast] at k0 k1 k2 k3
   have hm:rd_T24 ys (j:Int) ∈ ys:=by rw [rd_nat hlt];exact List.getElem_mem _
   have HYj:=Aside0.mk (HY.out _ hm)
   have hst:=joinF_step g ys j
   have hle1:=joinF_le g ys (j + 1) (ys.length - (j + 1))
   rw [show j + 1 + (ys.length - (j + 1))=ys.length by omega] at hle1
   have htx:joinF g ys (j + 1)=joinF g ys j ++ (if 0 < j then ⟨#[44,32]⟩ else ⟨#[]⟩) ++ g (rd_T24 ys (j:Int)):=rfl
   generalize rd_T24 ys (j:Int)=y at k0 k1 k2 k3 k4 k5 HYj hst htx
   have p1:(0 ≤ (j:Int))=True:=eq_true (by omega)
   have p2:((j:Int) < (ys.length:Int))=True:=eq_true (by omega)
   have p3:(j < ys.length)=True:=eq_true hlt
   have hz:=HL.out
   have hps:=HPS.out
   have HBr:=Aside0.mk hb
   have HXr:=Aside0.mk hx
   have HCy:=Aside0.mk k5
   have HLy:=Aside0.mk k4
   by_cases h0:0 < j
   ·rw [if_pos h0] at hst htx
    have t2:decide (0 < (j:Int))=true:=decide_eq_true (by omega)
    have t4:decide (0 < j)=true:=decide_eq_true h0
    have x2:(9223372036854775807 < pre.size + (joinF g ys j).size + 2)=False:=eq_false (by omega)
    have x3:(9223372036854775807 < pre.size + (joinF g ys j).size + 2 + (g y).size)=False:=eq_false (by omega)
    have HT:=Aside0.mk htx
    clear hb hx hm hst hle1 htx hle hz hps h0 k4 k5 hlt hj
    go_wp2_with (fail)
    go_at_call 23
    refine (HYj.out A3 c3' _ HLy.out HCy.out).mono ?_
    rintro e_ w3 ⟨rfl,hb3⟩
    have HB3:=Aside0.mk (below_step HBr.out hb3)
    have HX3:=Aside0.mk (blk_below HXr.out hb3)
    clear hb3
    go_wp2_with (fail)
    refine ⟨⟨j + 1,by rw [HT.out];simp only [ByteArray.append_assoc],by go_num,by have:=of_eq_true p3;omega,HB3.out,HX3.out⟩,?_⟩
    have:=of_eq_true p3
    simp [intOf];omega
   ·rw [if_neg h0] at hst htx
    have t2:decide (0 < (j:Int))=false:=decide_eq_false (by omega)
    have t4:decide (0 < j)=false:=decide_eq_false h0
    have x3:(9223372036854775807 < pre.size + (joinF g ys j).size + (g y).size)=False:=eq_false (by omega)
    have HT:=Aside0.mk htx
    clear hb hx hm hst hle1 htx hle hz hps h0 k4 k5 hlt hj
    go_wp2_with (fail)
    go_at_call 23
    refine (HYj.out A3 c3' _ HLy.out HCy.out).mono ?_
    rintro e_ w3 ⟨rfl,hb3⟩
    have HB3:=Aside0.mk (below_step HBr.out hb3)
    have HX3:=Aside0.mk (blk_below HXr.out hb3)
    clear hb3
    go_wp2_with (fail)
    refine ⟨⟨j + 1,by rw [HT.out,show joinF g ys j ++ (⟨#[]⟩:ByteArray)=joinF g ys j from ByteArray.append_empty];simp only [ByteArray.append_assoc],by go_num,by have:=of_eq_true p3;omega,HB3.out,HX3.out⟩,?_⟩
    have:=of_eq_true p3
    simp [intOf];omega
  ·obtain rfl:j=ys.length:=by omega
   have t1:decide ((ys.length:Int) < (ys.length:Int))=false:=decide_eq_false (by omega)
   have t3:decide (ys.length < ys.length)=false:=decide_eq_false (by omega)
   have hz:=HL.out
   have hps:=HPS.out
   have x2:(9223372036854775807 < pre.size + (joinF g ys ys.length).size + 1)=False:=eq_false (by omega)
   have HBr:=Aside0.mk hb
   clear hb hx hle hz hps hlt hj
   go_wp2_with (fail)
   refine bodyPost_ret (v:=.string (pre ++ joinF g ys ys.length ++ ⟨#[41]⟩)) ?_ rfl ⟨rfl,HBr.out⟩
   simp [results,Tryz.results23,go_sem]
theorem ref_lic (N:Nat):∀ (x:S24) (want:Int),szT x ≤ N → N ≤ 100000 → okT x=true → (∀ t ∈ leaves x,t.size ≤ 1000000) → want ≤ 2 → (licN N x want).size ≤ 1000000000 → LicIs x want (licN N x want):=by
 induction N with
 | zero=>intro x want h;have:=szT_pos x;omega
 | succ N ih =>
  intro x want hN hN2 hok htx hw hsz A c w hc hC
  have hkid:∀ y ∈ x.f3,∀ wt,wt ≤ 2 → (licN N y wt).size ≤ 1000000000 → LicIs y wt (licN N y wt):=by
   intro y hy wt hwt hs
   refine ih y wt (by have:=kid_le hy;omega) (by omega) ?_ ?_ hwt hs
   ·rw [okT_eq,Bool.and_eq_true] at hok
    exact List.all_eq_true.1 hok.2 y hy
   ·exact fun s hs=>htx s (by rw [leaves_eq];exact List.mem_append_right _ (List.mem_flatten.2 ⟨_,List.mem_map.2 ⟨y,hy,rfl⟩,hs⟩))
  have hhead:headT x.f0 x.f1 x.f2 x.f3.length=true:=by rw [okT_eq,Bool.and_eq_true] at hok;exact hok.1
  have hlen:x.f3.length ≤ N:=by have:=szT_len x;omega
  have hleaf:x.f0=1 → x.f1.size ≤ 1000000:=fun h=>htx _ (by rw [leaves_eq];simp [headL,h])
  unfold headT at hhead
  have e4:(⟨#[32,124,124,32]⟩:ByteArray).size=4:=rfl
  have e5:(⟨#[32,38,38,32]⟩:ByteArray).size=4:=rfl
  have e6:(⟨#[45,111,102,40]⟩:ByteArray).size=4:=rfl
  have e7:(⟨#[41]⟩:ByteArray).size=1:=rfl
  by_cases a3:x.f0=3
  ·have hs:licN (N + 1) x want=parS (decide (0 < want)) (licN N (rd_T24 x.f3 0) 0 ++ ⟨#[32,124,124,32]⟩ ++ licN N (rd_T24 x.f3 1) 1):=by
    show (if x.f0=3 then _ else if x.f0=2 then _ else _)=_
    rw [if_pos a3]
   rw [hs] at hsz ⊢
   have hl2:x.f3.length=2:=by
    simp [a3] at hhead
    omega
   have hkids:=two_kids x hl2
   have m0:rd_T24 x.f3 0 ∈ x.f3:=by rw [hkids];simp [rd_T24]
   have m1:rd_T24 x.f3 1 ∈ x.f3:=by rw [hkids];simp [rd_T24]
   have hp:=Nat.le_trans (par_size (decide (0 < want)) _) hsz
   rw [ByteArray.size_append,ByteArray.size_append,e4] at hp
   have h0:=hkid _ m0 0 (by omega) (by omega)
   have h1:=hkid _ m1 1 (by omega) (by omega)
   rw [hl2] at hc hC ⊢
   rw [hkids] at hC
   rw [a3]
   exact ref_or x.f1 x.f2 _ _ _ _ want A c w hc hC h0 h1 (by omega)
  by_cases a2:x.f0=2
  ·have hs:licN (N + 1) x want=parS (decide (1 < want)) (licN N (rd_T24 x.f3 0) 1 ++ ⟨#[32,38,38,32]⟩ ++ licN N (rd_T24 x.f3 1) 2):=by
    show (if x.f0=3 then _ else if x.f0=2 then _ else _)=_
    rw [if_neg a3,if_pos a2]
   rw [hs] at hsz ⊢
   have hl2:x.f3.length=2:=by
    simp [a2] at hhead
    omega
   have hkids:=two_kids x hl2
   have m0:rd_T24 x.f3 0 ∈ x.f3:=by rw [hkids];simp [rd_T24]
   have m1:rd_T24 x.f3 1 ∈ x.f3:=by rw [hkids];simp [rd_T24]
   have hp:=Nat.le_trans (par_size (decide (1 < want)) _) hsz
   rw [ByteArray.size_append,ByteArray.size_append,e5] at hp
   have h0:=hkid _ m0 1 (by omega) (by omega)
   have h1:=hkid _ m1 2 (by omega) (by omega)
   rw [hl2] at hc hC ⊢
   rw [hkids] at hC
   rw [a2]
   exact ref_and x.f1 x.f2 _ _ _ _ want A c w hc hC h0 h1 (by omega)
  by_cases a4:x.f0=4
  ·have hs:licN (N + 1) x want=numB x.f2 ++ ⟨#[45,111,102,40]⟩ ++ joinF (fun y=>licN N y 0) x.f3 x.f3.length ++ ⟨#[41]⟩:=by
    show (if x.f0=3 then _ else if x.f0=2 then _ else if x.f0=4 then _ else _)=_
    rw [if_neg a3,if_neg a2,if_pos a4]
   rw [hs] at hsz ⊢
   have hk:1 ≤ x.f2 ∧ x.f2 ≤ (x.f3.length:Int):=by
    simp [a4] at hhead
    exact hhead.2
   obtain ⟨n,hn⟩:=Int.eq_ofNat_of_zero_le (show 0 ≤ x.f2 by omega)
   rw [hn] at hsz hk ⊢
   rw [ByteArray.size_append,ByteArray.size_append,ByteArray.size_append,e6,e7] at hsz
   have hj:∀ y ∈ x.f3,(licN N y 0).size ≤ 1000000000:=by
    intro y hy
    obtain ⟨j,hj,rfl⟩:=List.getElem_of_mem hy
    have hst:=joinF_step (fun y=>licN N y 0) x.f3 j
    rw [rd_nat hj] at hst
    have hle:=joinF_le (fun y=>licN N y 0) x.f3 (j + 1) (x.f3.length - (j + 1))
    rw [show j + 1 + (x.f3.length - (j + 1))=x.f3.length by omega] at hle
    omega
   rw [a4]
   exact ref_count x.f1 n x.f3 (fun y=>licN N y 0) want hw (by omega) (by omega) (fun y hy=>hkid y hy 0 (by omega) (hj y hy)) (by omega) A c w hc hC
  ·have a1:x.f0=1:=by
    by_cases a1:x.f0=1
    ·exact a1
    rw [if_neg a1,if_neg (by omega),if_neg a4] at hhead;cases hhead
   have hs:licN (N + 1) x want=quoteS x.f1:=by
    show (if x.f0=3 then _ else if x.f0=2 then _ else if x.f0=4 then _ else _)=_
    rw [if_neg a3,if_neg a2,if_neg a4]
   rw [hs,a1]
   exact ref_leaf x.f1 x.f2 x.f3.length want hw (hleaf a1) A c w
end Go.Proofs.YtjapfefiaijfcaaGreatDoor.Q
