/- Go functions as Lean functions, and that each call comes to its Lean function's answer, wherever that is some answer. Written by a program of this session out of the translation. Contracts of the scanner's small functions: what each call comes to, at every text. How many parts a tree has; which trees may be. -/
import Derived.Test.YtjapfefiaijfcaaGreatDoorProg
import Derived.Below
import Derived.Deep.Draws
import Derived.Deep.AppendLies
import Derived.Maps.AppendAt
import Derived.OwnWalk
import Derived.Laws.BytesArg
import Derived.Laws.MakeOwn
import Derived.Laws.OwnMore
import Derived.Deep.OwnRows
import Derived.Tactics
import Derived.Lib.ConvBytes
import Derived.Laws.Slices
import Derived.WalkKit
import Derived.KernelRfl
import Derived.RowKit3
import Derived.Deep.LoopGhost
import Derived.Deep.QuietTactic
import Derived.BigQuiet
import Derived.WideLaws
import Derived.Deep.DeepCutAuto
import Derived.Deep.CutBlock
import Derived.Deep.RegionHeld3
import Derived.Laws.Rows
import Derived.Lib.AppendStr
import Derived.ArgAppend
import Derived.Laws.IdiomCopy
import Derived.OrdersHeld
import Derived.Laws.BitsLemmas
import Derived.RowKit
import Derived.Laws.StructEq
import Derived.Test.YtjapfefiaijfcaaGreatDoorH0
import Derived.Test.YtjapfefiaijfcaaGreatDoorH1
import Derived.Test.YtjapfefiaijfcaaGreatDoorH4
namespace Go.Proofs.YtjapfefiaijfcaaGreatDoor.Q
open Go.RowKit Go.Proofs.YtjapfefiaijfcaaGreatDoorW.PrintWords Go.Proofs.YtjapfefiaijfcaaGreatDoorW.PrintLast Go.Proofs.YtjapfefiaijfcaaGreatDoorW.PrintMore
attribute [local go_sem] max2_int min2_int max_two min_two max_three min_three max_four min_four
set_option linter.unusedVariables false
set_option linter.unusedSimpArgs false
def errW:Option Int → Value
 | none=>.nilIface
 | some c=>.iface 172 (.int .i64 c)
theorem errW_none:errW none = .nilIface:=rfl
theorem errW_some (c:Int):errW (some c) = .iface 172 (.int .i64 c):=rfl
theorem info5:(Tryz.prog.info? 5).map (fun i=>(i.zero,i.size,i.bytes))=some (some (.int .u8 0),1,1):=by kernel_rfl
theorem info24:(Tryz.prog.info? 24).map (fun i=>(i.zero,i.size,i.bytes))=some (some (.agg #[(.int .u8 0),(.string ⟨#[]⟩),(.int .i64 0),(.slice none 0 0)]),4,56):=by kernel_rfl
theorem info70:(Tryz.prog.info? 70).map (fun i=>(i.zero,i.size,i.bytes))=some (some (.agg #[(.int .u8 0),(.string ⟨#[]⟩),(.int .i64 0),(.int .i64 0)]),4,40):=by kernel_rfl
structure S24 where
 f0:Int
 f1:ByteArray
 f2:Int
 f3:(List S24)
def z24:S24:=⟨(0:Int),(⟨#[]⟩:ByteArray),(0:Int),([]:List S24)⟩
def F24 (d:Kd S24):Kd S24:=Kd.iso (Kd.pair (Kd.int .u8) (Kd.pair Kd.string (Kd.pair (Kd.int .i64) (Kd.slice 24 d)))) (fun x:S24=>(x.f0,x.f1,x.f2,x.f3))
theorem mono24:Kd.Mono F24:=Kd.mono_iso _ (Kd.mono_pair (Kd.mono_const _) (Kd.mono_pair (Kd.mono_const _) (Kd.mono_pair (Kd.mono_const _) (Kd.mono_slice 24 Kd.mono_id))))
theorem sub24:Kd.Sub F24 [24]:=Kd.sub_iso _ (Kd.sub_pair (Kd.sub_const _ (by decide)) (Kd.sub_pair (Kd.sub_const _ (by decide)) (Kd.sub_pair (Kd.sub_const _ (by decide)) (Kd.sub_slice 24 (by decide) Kd.sub_id))))
theorem sz24:∀ n,(Kd.upto F24 4 [24] n).sz=4:=Kd.upto_sz (fun _=>rfl)
def k24:Kd S24:=Kd.fix F24 4 [24] sz24 (Kd.upto_E sub24)
theorem k24_open {w:World} {x:S24} {cs:List Value} (h:k24.K w x cs):∃ A3 c3,cs=[.int .u8 x.f0,.string x.f1,.int .i64 x.f2,.slice A3 x.f3.length c3] ∧ x.f3.length ≤ c3 ∧ k24.C w A3 x.f3.length x.f3:=by
 obtain ⟨n,h⟩:=h
 cases n with
 | zero=>exact h.elim
 | succ n =>
  obtain ⟨_,_,rfl,rfl,⟨_,_,rfl,rfl,⟨_,_,rfl,rfl,⟨A3,c3,rfl,l3,g3⟩⟩⟩⟩:=h
  exact ⟨A3,c3,rfl,l3,Kd.fix_C g3⟩
theorem k24_mk (w:World) (x:S24) {A3:Option Addr} {c3:Nat} (l3:x.f3.length ≤ c3) (g3:k24.C w A3 x.f3.length x.f3):k24.K w x [.int .u8 x.f0,.string x.f1,.int .i64 x.f2,.slice A3 x.f3.length c3]:=by
 obtain ⟨n3,q3⟩:=Kd.fix_C_back mono24 g3
 have r3:=Kd.upto_C_le mono24 sz24 (show n3 ≤ n3 by omega) q3
 exact ⟨n3 + 1,⟨[.int .u8 x.f0],[.string x.f1,.int .i64 x.f2,.slice A3 x.f3.length c3],rfl,rfl,⟨[.string x.f1],[.int .i64 x.f2,.slice A3 x.f3.length c3],rfl,rfl,⟨[.int .i64 x.f2],[.slice A3 x.f3.length c3],rfl,rfl,⟨A3,c3,rfl,l3,r3⟩⟩⟩⟩⟩
theorem k24_mkM (w:World) (base:Nat) (ok:Nat → Prop) (x:S24) {v3:Value} (g3:k24.R 24 w base ok v3 x.f3):k24.M w base ok x [.int .u8 x.f0,.string x.f1,.int .i64 x.f2,v3]:=by
 obtain ⟨n3,q3⟩:=Kd.fix_R_back mono24 g3
 have r3:=Kd.upto_R_le mono24 sz24 (show n3 ≤ n3 by omega) q3
 exact ⟨n3 + 1,⟨[.int .u8 x.f0],[.string x.f1,.int .i64 x.f2,v3],rfl,rfl,⟨[.string x.f1],[.int .i64 x.f2,v3],rfl,rfl,⟨[.int .i64 x.f2],[v3],rfl,rfl,⟨v3,rfl,r3⟩⟩⟩⟩⟩
def rd_T24 (xs:List S24) (i:Int):S24:=xs.getD i.toNat z24
theorem at_T24 {w:World} {A:Option Addr} {n:Nat} {xs:List S24} (h:Kd.C k24 w A n xs) (i:Int) (h0:0 ≤ i) (h1:i < n):∃ ad A3 c3,A=some ad ∧ w.cell? (ad.add (i.toNat * 4))=some (.int .u8 (rd_T24 xs i).f0) ∧ w.cell? ⟨(ad.add (i.toNat * 4)).block,(ad.add (i.toNat * 4)).off + 1,none⟩=some (.string (rd_T24 xs i).f1) ∧ w.cell? ⟨(ad.add (i.toNat * 4)).block,(ad.add (i.toNat * 4)).off + 2,none⟩=some (.int .i64 (rd_T24 xs i).f2) ∧ w.cell? ⟨(ad.add (i.toNat * 4)).block,(ad.add (i.toNat * 4)).off + 3,none⟩=some (.slice A3 (rd_T24 xs i).f3.length c3) ∧ (rd_T24 xs i).f3.length ≤ c3 ∧ k24.C w A3 (rd_T24 xs i).f3.length (rd_T24 xs i).f3:=by
 obtain ⟨ad,c,e,_,hK,hc0⟩:=Kd.C_get h z24 i h0 h1
 have hc:∀ j u,c[j]? = some u → w.cell? (ad.add (i.toNat * 4 + j))=some u:=hc0
 obtain ⟨A3,c3,rfl,l3,g3⟩:=k24_open hK
 exact ⟨ad,A3,c3,e,hc 0 _ rfl,by rw [← add_field _ _ 1 (by omega)];exact hc 1 _ rfl,by rw [← add_field _ _ 2 (by omega)];exact hc 2 _ rfl,by rw [← add_field _ _ 3 (by omega)];exact hc 3 _ rfl,l3,g3⟩
structure S70 where
 f0:Int
 f1:ByteArray
 f2:Int
 f3:Int
def z70:S70:=⟨(0:Int),(⟨#[]⟩:ByteArray),(0:Int),(0:Int)⟩
def k70:Kd S70:=Kd.iso (Kd.pair (Kd.int .u8) (Kd.pair Kd.string (Kd.pair (Kd.int .i64) (Kd.int .i64)))) (fun x:S70=>(x.f0,x.f1,x.f2,x.f3))
theorem k70_open {w:World} {x:S70} {cs:List Value} (h:k70.K w x cs):cs=[.int .u8 x.f0,.string x.f1,.int .i64 x.f2,.int .i64 x.f3]:=by
 obtain ⟨_,_,rfl,rfl,⟨_,_,rfl,rfl,⟨_,_,rfl,rfl,rfl⟩⟩⟩:=h
 exact rfl
theorem k70_mkM (w:World) (base:Nat) (ok:Nat → Prop) (x:S70)  : k70.M w base ok x [.int .u8 x.f0,.string x.f1,.int .i64 x.f2,.int .i64 x.f3]:=⟨[.int .u8 x.f0],[.string x.f1,.int .i64 x.f2,.int .i64 x.f3],rfl,rfl,⟨[.string x.f1],[.int .i64 x.f2,.int .i64 x.f3],rfl,rfl,⟨[.int .i64 x.f2],[.int .i64 x.f3],rfl,rfl,rfl⟩⟩⟩
def rd_T70 (xs:List S70) (i:Int):S70:=xs.getD i.toNat z70
theorem at_T70 {w:World} {A:Option Addr} {n:Nat} {xs:List S70} (h:Kd.C k70 w A n xs) (i:Int) (h0:0 ≤ i) (h1:i < n):∃ ad ,A=some ad ∧ w.cell? (ad.add (i.toNat * 4))=some (.int .u8 (rd_T70 xs i).f0) ∧ w.cell? ⟨(ad.add (i.toNat * 4)).block,(ad.add (i.toNat * 4)).off + 1,none⟩=some (.string (rd_T70 xs i).f1) ∧ w.cell? ⟨(ad.add (i.toNat * 4)).block,(ad.add (i.toNat * 4)).off + 2,none⟩=some (.int .i64 (rd_T70 xs i).f2) ∧ w.cell? ⟨(ad.add (i.toNat * 4)).block,(ad.add (i.toNat * 4)).off + 3,none⟩=some (.int .i64 (rd_T70 xs i).f3):=by
 obtain ⟨ad,c,e,_,hK,hc0⟩:=Kd.C_get h z70 i h0 h1
 have hc:∀ j u,c[j]? = some u → w.cell? (ad.add (i.toNat * 4 + j))=some u:=hc0
 obtain rfl:=k70_open hK
 exact ⟨ad,e,hc 0 _ rfl,by rw [← add_field _ _ 1 (by omega)];exact hc 1 _ rfl,by rw [← add_field _ _ 2 (by omega)];exact hc 2 _ rfl,by rw [← add_field _ _ 3 (by omega)];exact hc 3 _ rfl⟩
structure S138 where
 f0:ByteArray
 f1:ByteArray
def z138:S138:=⟨(⟨#[]⟩:ByteArray),(⟨#[]⟩:ByteArray)⟩
def k138:Kd S138:=Kd.iso (Kd.pair Kd.string Kd.string) (fun x:S138=>(x.f0,x.f1))
end Go.Proofs.YtjapfefiaijfcaaGreatDoor.Q
namespace Go.Proofs.YtjapfefiaijfcaaGreatDoor.Q
open Go.RowKit Go.Proofs.YtjapfefiaijfcaaGreatDoorW.PrintWords Go.Proofs.YtjapfefiaijfcaaGreatDoorW.PrintLast Go.Proofs.YtjapfefiaijfcaaGreatDoorW.PrintMore
attribute [local go_sem] max2_int min2_int max_two min_two max_three min_three max_four min_four
set_option linter.unusedVariables false
set_option linter.unusedSimpArgs false
def IsS67 (w0 W:World) (g:Nat) (f0:List (S70)) (f1:List (S138)) (f2:Int) (f3:Int):Prop:=∃ A0 c0,∃ A1 c1,W.heap[g]? = some (.cells #[.slice A0 f0.length c0,.slice A1 f1.length c1,.int .i64 f2,.int .i64 f3] 67 (0,0)) ∧ w0.heap.size ≤ g ∧ Kd.C k70 w0 A0 f0.length f0 ∧ Kd.C k138 w0 A1 f1.length f1
theorem IsS67.grown {w0 W:World} {g:Nat} {f0:List (S70)} {f1:List (S138)} {f2:Int} {f3:Int} {W1:World} {row:Option Nat} (h:IsS67 w0 W g f0 f1 f2 f3) (hw:W.grownBy W1 row) (hne:some g ≠ row):IsS67 w0 W1 g f0 f1 f2 f3:=by
 obtain ⟨A0,c0,A1,c1,hb,hg,hr0,hr1⟩:=h
 exact ⟨A0,c0,A1,c1,blk_grown hb hw hne,hg,hr0,hr1⟩
theorem IsS67.kept {w0 W:World} {g:Nat} {f0:List (S70)} {f1:List (S138)} {f2:Int} {f3:Int} {W1:World} {S:Nat → Prop} (h:IsS67 w0 W g f0 f1 f2 f3) (hk:Kept W W1 S) (hne:¬ S g):IsS67 w0 W1 g f0 f1 f2 f3:=by
 obtain ⟨A0,c0,A1,c1,hb,hg,hr0,hr1⟩:=h
 exact ⟨A0,c0,A1,c1,blk_kept hb hk hne,hg,hr0,hr1⟩
theorem IsS67.below {w0 W:World} {g:Nat} {f0:List (S70)} {f1:List (S138)} {f2:Int} {f3:Int} {W1:World} (h:IsS67 w0 W g f0 f1 f2 f3) (hw:Below W.heap.size W W1):IsS67 w0 W1 g f0 f1 f2 f3:=h.grown (grown_of_below hw none) (by simp)
theorem IsS67.alloc {w0 W:World} {g:Nat} {f0:List (S70)} {f1:List (S138)} {f2:Int} {f3:Int} (h:IsS67 w0 W g f0 f1 f2 f3) (o:Obj):IsS67 w0 (W.alloc o) g f0 f1 f2 f3:=h.below (below_alloc (Below.refl _ _) o)
theorem IsS67.drewN {w0 W:World} {g:Nat} {f0:List (S70)} {f1:List (S138)} {f2:Int} {f3:Int} (h:IsS67 w0 W g f0 f1 f2 f3) (m:Nat):IsS67 w0 (W.drewN m) g f0 f1 f2 f3:=h
theorem IsS67.drew {w0 W:World} {g:Nat} {f0:List (S70)} {f1:List (S138)} {f2:Int} {f3:Int} (h:IsS67 w0 W g f0 f1 f2 f3):IsS67 w0 W.drew g f0 f1 f2 f3:=h
theorem IsS67.at_ {w0 W:World} {g:Nat} {f0:List (S70)} {f1:List (S138)} {f2:Int} {f3:Int} {w':World} {m:Nat} (hq:W.drewN m=w') (h:IsS67 w0 W g f0 f1 f2 f3):IsS67 w0 w' g f0 f1 f2 f3:=by subst hq;exact IsS67.drewN h m
theorem IsS67.apart {w0 W:World} {g:Nat} {f0:List (S70)} {f1:List (S138)} {f2:Int} {f3:Int} {α:Type} {d:Kd α} {e:Nat} {base:Nat} {ok:Nat → Prop} {v:Value} {xs:List α} (h:IsS67 w0 W g f0 f1 f2 f3) (ho:d.R e W base ok v xs) (ht:∀ q,q ∈ e :: d.E → q ≠ 67):d.R e W base (fun k=>ok k ∧ k ≠ g) v xs:=by
 obtain ⟨A0,c0,A1,c1,hb,hg,hr0,hr1⟩:=h
 exact Kd.R_types ho hb ht
theorem IsS67.lt {w0 W:World} {g:Nat} {f0:List (S70)} {f1:List (S138)} {f2:Int} {f3:Int} (h:IsS67 w0 W g f0 f1 f2 f3):g < W.heap.size:=by
 obtain ⟨A0,c0,A1,c1,hb,hg,hr0,hr1⟩:=h
 exact blk_lt hb
theorem IsS67.ge {w0 W:World} {g:Nat} {f0:List (S70)} {f1:List (S138)} {f2:Int} {f3:Int} (h:IsS67 w0 W g f0 f1 f2 f3):w0.heap.size ≤ g:=by
 obtain ⟨A0,c0,A1,c1,hb,hg,hr0,hr1⟩:=h
 exact hg
theorem IsS67.ne_blk {w0 W:World} {g:Nat} {f0:List (S70)} {f1:List (S138)} {f2:Int} {f3:Int} {a:Nat} {cs:Array Value} {t:TypeId} {fr:Nat × Nat} (h:IsS67 w0 W g f0 f1 f2 f3) (hb2:W.heap[a]? = some (.cells cs t fr)) (ht:t ≠ 67):g ≠ a:=by
 obtain ⟨A0,c0,A1,c1,hb,hg,hr0,hr1⟩:=h
 rintro rfl
 rw [hb] at hb2
 injection hb2 with hb2
 injection hb2 with _ ht2
 exact ht ht2.symm
theorem IsS67.far {w0 W:World} {g:Nat} {f0:List (S70)} {f1:List (S138)} {f2:Int} {f3:Int} {p:Addr} (h:IsS67 w0 W g f0 f1 f2 f3) (hne:g ≠ p.block) (u:Value):IsS67 w0 (W.setCell p u) g f0 f1 f2 f3:=by
 obtain ⟨A0,c0,A1,c1,hb,hg,hr0,hr1⟩:=h
 exact ⟨A0,c0,A1,c1,blk_far hb hne u,hg,hr0,hr1⟩
theorem cellS67_0 {W:World} {g:Nat} {A0:Option Addr} {c0:Nat} {A1:Option Addr} {c1:Nat} {f0:List (S70)} {f1:List (S138)} {f2:Int} {f3:Int} (h:W.heap[g]? = some (.cells #[.slice A0 f0.length c0,.slice A1 f1.length c1,.int .i64 f2,.int .i64 f3] 67 (0,0))):W.cell? ⟨g,0,none⟩=some (.slice A0 f0.length c0):=(blk_cell h 0).trans rfl
theorem cellS67_1 {W:World} {g:Nat} {A0:Option Addr} {c0:Nat} {A1:Option Addr} {c1:Nat} {f0:List (S70)} {f1:List (S138)} {f2:Int} {f3:Int} (h:W.heap[g]? = some (.cells #[.slice A0 f0.length c0,.slice A1 f1.length c1,.int .i64 f2,.int .i64 f3] 67 (0,0))):W.cell? ⟨g,1,none⟩=some (.slice A1 f1.length c1):=(blk_cell h 1).trans rfl
theorem cellS67_2 {W:World} {g:Nat} {A0:Option Addr} {c0:Nat} {A1:Option Addr} {c1:Nat} {f0:List (S70)} {f1:List (S138)} {f2:Int} {f3:Int} (h:W.heap[g]? = some (.cells #[.slice A0 f0.length c0,.slice A1 f1.length c1,.int .i64 f2,.int .i64 f3] 67 (0,0))):W.cell? ⟨g,2,none⟩=some (.int .i64 f2):=(blk_cell h 2).trans rfl
theorem IsS67.set_2 {w0 W:World} {g:Nat} {f0:List (S70)} {f1:List (S138)} {f2:Int} {f3:Int} (h:IsS67 w0 W g f0 f1 f2 f3) (x:Int):IsS67 w0 (W.setCell ⟨g,2,none⟩ (.int .i64 x)) g f0 f1 x f3:=by
 obtain ⟨A0,c0,A1,c1,hb,hg,hr0,hr1⟩:=h
 exact ⟨A0,c0,A1,c1,by simpa using blk_set hb 2 (.int .i64 x),hg,hr0,hr1⟩
theorem cellS67_3 {W:World} {g:Nat} {A0:Option Addr} {c0:Nat} {A1:Option Addr} {c1:Nat} {f0:List (S70)} {f1:List (S138)} {f2:Int} {f3:Int} (h:W.heap[g]? = some (.cells #[.slice A0 f0.length c0,.slice A1 f1.length c1,.int .i64 f2,.int .i64 f3] 67 (0,0))):W.cell? ⟨g,3,none⟩=some (.int .i64 f3):=(blk_cell h 3).trans rfl
theorem IsS67.set_3 {w0 W:World} {g:Nat} {f0:List (S70)} {f1:List (S138)} {f2:Int} {f3:Int} (h:IsS67 w0 W g f0 f1 f2 f3) (x:Int):IsS67 w0 (W.setCell ⟨g,3,none⟩ (.int .i64 x)) g f0 f1 f2 x:=by
 obtain ⟨A0,c0,A1,c1,hb,hg,hr0,hr1⟩:=h
 exact ⟨A0,c0,A1,c1,by simpa using blk_set hb 3 (.int .i64 x),hg,hr0,hr1⟩
theorem IsS67.new (w0 W:World) (A0:Option Addr) (c0:Nat) (A1:Option Addr) (c1:Nat) (f0:List (S70)) (f1:List (S138)) (f2:Int) (f3:Int) (hB:Below w0.heap.size w0 W) (hr0:Kd.C k70 w0 A0 f0.length f0) (hr1:Kd.C k138 w0 A1 f1.length f1):IsS67 w0 (W.alloc (.cells #[.slice A0 f0.length c0,.slice A1 f1.length c1,.int .i64 f2,.int .i64 f3] 67)) W.heap.size f0 f1 f2 f3:=⟨A0,c0,A1,c1,by simpa using heap_alloc_new W _,hB.size,hr0,hr1⟩
def lics_reader_sign.f (s0_0:List (S70)) (s0_1:List (S138)) (s0_2:Int) (s0_3:Int) (a1:ByteArray):Option (Bool × Int × Int):=if s0_2 < (s0_0.length:Int) then (if 0 ≤ s0_2 then (if ((rd_T70 s0_0 s0_2).f0)=6 then (some ((((rd_T70 s0_0 s0_2).f1).toList == a1.toList),s0_2,s0_3)) else (some (false,s0_2,s0_3))) else (none)) else (some (false,s0_2,s0_3))
set_option maxHeartbeats 8000000 in
set_option maxRecDepth 100000 in
theorem lics_reader_sign.calls (g:Nat) (s0_0:List (S70)) (s0_1:List (S138)) (s0_2:Int) (s0_3:Int) (a1:ByteArray) (r1:Bool) (r2:Int) (r3:Int) (w0 w:World) (hI:IsS67 w0 w g s0_0 s0_1 s0_2 s0_3) (hB:Below w0.heap.size w0 w) (h:lics_reader_sign.f s0_0 s0_1 s0_2 s0_3 a1=some (r1,r2,r3)) :
  Calls Tryz.prog 80 #[.pointer (some ⟨g,0,none⟩),.string a1] w fun e w'=>e = .returned (.bool r1) ∧ IsS67 w0 w' g s0_0 s0_1 r2 r3 ∧ Below w0.heap.size w0 w' ∧ KeepBut w w' g none:=by
 have HI0:=Aside0.mk hI
 have HK:=Aside0.mk (KeepBut.refl w g none)
 have HL:=Aside0.mk hB.size
 clear hI
 have HW0:=Aside0.mk hB.size
 have HB:=Aside0.mk hB
 clear hB
 have H:(if s0_2 < (s0_0.length:Int) then (if 0 ≤ s0_2 then (if ((rd_T70 s0_0 s0_2).f0)=6 then (some ((((rd_T70 s0_0 s0_2).f1).toList == a1.toList),s0_2,s0_3)) else (some (false,s0_2,s0_3))) else (none)) else (some (false,s0_2,s0_3)))=some (r1,r2,r3):=h
 clear h
 by_cases c3:s0_2 < (s0_0.length:Int)
 ·rw [if_pos c3] at H
  have c3b0:decide (s0_2 < (s0_0.length:Int))=true:=decide_eq_true c3
  clear c3
  by_cases c4:0 ≤ s0_2
  ·rw [if_pos c4] at H
   have c4b0:decide (0 ≤ s0_2)=true:=decide_eq_true c4
   clear c4
   by_cases c5:((rd_T70 s0_0 s0_2).f0)=6
   ·rw [if_pos c5] at H
    have c5b0:(((rd_T70 s0_0 s0_2).f0) == 6)=true:=beq_iff_eq.mpr c5
    have c5b1:(((rd_T70 s0_0 s0_2).f0) != 6)=false:=bne_eq_false_iff_eq.mpr c5
    clear c5
    simp only [Option.some.injEq,Prod.mk.injEq] at H
    obtain ⟨rfl,rfl,rfl⟩:=H
    obtain ⟨ASz6_0,cSz6_0,ASz6_1,cSz6_1,HGz6,hgz6,HSz6_0,HSz6_1⟩:=HI0.out
    have hcz6_0:=cellS67_0 HGz6
    have hcz6_1:=cellS67_1 HGz6
    have hcz6_2:=cellS67_2 HGz6
    have hcz6_3:=cellS67_3 HGz6
    have hfz6_2:=blk_frozen HGz6 2
    have hfz6_3:=blk_frozen HGz6 3
    clear HGz6 hgz6
    have p142:0 ≤ (s0_2:Int):=of_decide_eq_true (by first | (with_reducible assumption) | assumption)
    have q142:s0_2 < (s0_0.length:Int):=of_decide_eq_true (by first | (with_reducible assumption) | assumption)
    obtain ⟨ad142,e142,hx142_0,hx142_1,hx142_2,hx142_3⟩:=at_T70 HSz6_0 s0_2 p142 q142
    cases e142
    replace hx142_0:=pw_cell_below HB.out hx142_0
    replace hx142_1:=pw_cell_below HB.out hx142_1
    replace hx142_2:=pw_cell_below HB.out hx142_2
    replace hx142_3:=pw_cell_below HB.out hx142_3
    replace p142:=eq_true p142
    replace q142:=eq_true q142
    have p143:0 ≤ (s0_2:Int):=of_decide_eq_true (by first | (with_reducible assumption) | assumption)
    have q143:s0_2 < (s0_0.length:Int):=of_decide_eq_true (by first | (with_reducible assumption) | assumption)
    obtain ⟨ad143,e143,hx143_0,hx143_1,hx143_2,hx143_3⟩:=at_T70 HSz6_0 s0_2 p143 q143
    obtain rfl:ad142=ad143:=(by injection e143)
    replace hx143_0:=pw_cell_below HB.out hx143_0
    replace hx143_1:=pw_cell_below HB.out hx143_1
    replace hx143_2:=pw_cell_below HB.out hx143_2
    replace hx143_3:=pw_cell_below HB.out hx143_3
    replace p143:=eq_true p143
    replace q143:=eq_true q143
    go_enter Tryz.func80,Tryz.ntmps80
    go_wp2
    repeat (go_quiet (fail);try go_wp2)
    go_ret
    exact ⟨by first | rfl | (simp [errW_none,errW_some] <;> rfl) | (simp [*,errW_none,errW_some] <;> rfl),by repeat (first | (with_reducible first | exact HI0.out | apply IsS67.alloc | apply IsS67.drewN | apply IsS67.drew | apply IsS67.set_2 | apply IsS67.set_3) | exact HI0.out),by repeat (first | (with_reducible first | exact HB.out | apply below_alloc | apply pw_below_drewN | apply below_drew1 | refine below_set ?_ (IsS67.ge HI0.out)) | exact HB.out),by repeat (first | (with_reducible first | exact HK.out | apply KeepBut.set_ | apply keep_drewN | apply keep_drew | apply keep_alloc) | exact HK.out)⟩
   ·rw [if_neg c5] at H
    have c5b0:(((rd_T70 s0_0 s0_2).f0) == 6)=false:=beq_eq_false_iff_ne.mpr c5
    have c5b1:(((rd_T70 s0_0 s0_2).f0) != 6)=true:=bne_iff_ne.mpr c5
    simp only [Option.some.injEq,Prod.mk.injEq] at H
    obtain ⟨rfl,rfl,rfl⟩:=H
    obtain ⟨ASz7_0,cSz7_0,ASz7_1,cSz7_1,HGz7,hgz7,HSz7_0,HSz7_1⟩:=HI0.out
    have hcz7_0:=cellS67_0 HGz7
    have hcz7_1:=cellS67_1 HGz7
    have hcz7_2:=cellS67_2 HGz7
    have hcz7_3:=cellS67_3 HGz7
    have hfz7_2:=blk_frozen HGz7 2
    have hfz7_3:=blk_frozen HGz7 3
    clear HGz7 hgz7
    have p142:0 ≤ (s0_2:Int):=of_decide_eq_true (by first | (with_reducible assumption) | assumption)
    have q142:s0_2 < (s0_0.length:Int):=of_decide_eq_true (by first | (with_reducible assumption) | assumption)
    obtain ⟨ad142,e142,hx142_0,hx142_1,hx142_2,hx142_3⟩:=at_T70 HSz7_0 s0_2 p142 q142
    cases e142
    replace hx142_0:=pw_cell_below HB.out hx142_0
    replace hx142_1:=pw_cell_below HB.out hx142_1
    replace hx142_2:=pw_cell_below HB.out hx142_2
    replace hx142_3:=pw_cell_below HB.out hx142_3
    replace p142:=eq_true p142
    replace q142:=eq_true q142
    go_enter Tryz.func80,Tryz.ntmps80
    go_wp2
    repeat (go_quiet (fail);try go_wp2)
    go_ret
    exact ⟨by first | rfl | (simp [errW_none,errW_some] <;> rfl) | (simp [*,errW_none,errW_some] <;> rfl),by repeat (first | (with_reducible first | exact HI0.out | apply IsS67.alloc | apply IsS67.drewN | apply IsS67.drew | apply IsS67.set_2 | apply IsS67.set_3) | exact HI0.out),by repeat (first | (with_reducible first | exact HB.out | apply below_alloc | apply pw_below_drewN | apply below_drew1 | refine below_set ?_ (IsS67.ge HI0.out)) | exact HB.out),by repeat (first | (with_reducible first | exact HK.out | apply KeepBut.set_ | apply keep_drewN | apply keep_drew | apply keep_alloc) | exact HK.out)⟩
  ·rw [if_neg c4] at H
   exact absurd H (by simp)
 ·rw [if_neg c3] at H
  have c3b0:decide (s0_2 < (s0_0.length:Int))=false:=decide_eq_false c3
  clear c3
  simp only [Option.some.injEq,Prod.mk.injEq] at H
  obtain ⟨rfl,rfl,rfl⟩:=H
  obtain ⟨ASz8_0,cSz8_0,ASz8_1,cSz8_1,HGz8,hgz8,HSz8_0,HSz8_1⟩:=HI0.out
  have hcz8_0:=cellS67_0 HGz8
  have hcz8_1:=cellS67_1 HGz8
  have hcz8_2:=cellS67_2 HGz8
  have hcz8_3:=cellS67_3 HGz8
  have hfz8_2:=blk_frozen HGz8 2
  have hfz8_3:=blk_frozen HGz8 3
  clear HGz8 hgz8
  go_enter Tryz.func80,Tryz.ntmps80
  go_wp2
  repeat (go_quiet (fail);try go_wp2)
  go_ret
  exact ⟨by first | rfl | (simp [errW_none,errW_some] <;> rfl) | (simp [*,errW_none,errW_some] <;> rfl),by repeat (first | (with_reducible first | exact HI0.out | apply IsS67.alloc | apply IsS67.drewN | apply IsS67.drew | apply IsS67.set_2 | apply IsS67.set_3) | exact HI0.out),by repeat (first | (with_reducible first | exact HB.out | apply below_alloc | apply pw_below_drewN | apply below_drew1 | refine below_set ?_ (IsS67.ge HI0.out)) | exact HB.out),by repeat (first | (with_reducible first | exact HK.out | apply KeepBut.set_ | apply keep_drewN | apply keep_drew | apply keep_alloc) | exact HK.out)⟩
def lics_reader_enter.f (s0_0:List (S70)) (s0_1:List (S138)) (s0_2:Int) (s0_3:Int):Option (Int × Int × Int):=(lics_reader_sign.f s0_0 s0_1 s0_2 s0_3 (⟨#[40]⟩:ByteArray)).bind fun bt144=>(if bt144.1=true then (if bt144.2.2=64 then (some (3,bt144.2.1,bt144.2.2)) else (some (0,wrap64 (bt144.2.1 + 1),wrap64 (bt144.2.2 + 1)))) else (some (150,bt144.2.1,bt144.2.2)))
set_option maxHeartbeats 8000000 in
set_option maxRecDepth 100000 in
theorem lics_reader_enter.calls (g:Nat) (s0_0:List (S70)) (s0_1:List (S138)) (s0_2:Int) (s0_3:Int) (r1:Int) (r2:Int) (r3:Int) (w0 w:World) (hI:IsS67 w0 w g s0_0 s0_1 s0_2 s0_3) (hB:Below w0.heap.size w0 w) (h:lics_reader_enter.f s0_0 s0_1 s0_2 s0_3=some (r1,r2,r3)) :
  Calls Tryz.prog 107 #[.pointer (some ⟨g,0,none⟩)] w fun e w'=>e = .returned (.int .i64 r1) ∧ IsS67 w0 w' g s0_0 s0_1 r2 r3 ∧ Below w0.heap.size w0 w' ∧ KeepBut w w' g none:=by
 have HI0:=Aside0.mk hI
 have HK:=Aside0.mk (KeepBut.refl w g none)
 have HL:=Aside0.mk hB.size
 clear hI
 have HW0:=Aside0.mk hB.size
 have HB:=Aside0.mk hB
 clear hB
 have H:((lics_reader_sign.f s0_0 s0_1 s0_2 s0_3 (⟨#[40]⟩:ByteArray)).bind fun bt144=>(if bt144.1=true then (if bt144.2.2=64 then (some (3,bt144.2.1,bt144.2.2)) else (some (0,wrap64 (bt144.2.1 + 1),wrap64 (bt144.2.2 + 1)))) else (some (150,bt144.2.1,bt144.2.2))))=some (r1,r2,r3):=h
 clear h
 replace H:=Option.bind_eq_some_iff.mp H
 obtain ⟨⟨t144,t145,t146⟩,A20,H⟩:=H
 replace H:(if t144=true then (if t146=64 then (some (3,t145,t146)) else (some (0,wrap64 (t145 + 1),wrap64 (t146 + 1)))) else (some (150,t145,t146)))=some (r1,r2,r3):=H
 have A2:=Aside0.mk A20
 clear A20
 by_cases c3:t144=true
 ·subst c3
  have H1:(if t146=64 then (some (3,t145,t146)) else (some (0,wrap64 (t145 + 1),wrap64 (t146 + 1))))=some (r1,r2,r3):=by rw [if_pos rfl] at H;exact H
  clear H
  have H:=H1
  clear H1
  by_cases c4:t146=64
  ·rw [if_pos c4] at H
   have c4b0:(t146 == 64)=true:=beq_iff_eq.mpr c4
   have c4b1:(t146 != 64)=false:=bne_eq_false_iff_eq.mpr c4
   clear c4
   simp only [Option.some.injEq,Prod.mk.injEq] at H
   obtain ⟨rfl,rfl,rfl⟩:=H
   go_enter Tryz.func107,Tryz.ntmps107
   go_wp2_with (first | ((with_reducible refine gate_callee (f:=80) rfl ?_);refine goesL_ (some 5) rfl rfl Tryz.func80 (by kernel_rfl) rfl #[.pointer (some ⟨g,0,none⟩),.string (⟨#[40]⟩:ByteArray)] rfl (by (try simp only [List.map_toArray,List.map_cons,List.map_nil]);first | done | rfl | (simp only [List.length_drop,List.length_take];rfl)) ?_;(with_reducible refine (lics_reader_sign.calls g s0_0 s0_1 s0_2 s0_3 (⟨#[40]⟩:ByteArray) true t145 t146 w0 _ ?side1 ?side2 A2.out).mono ?_);(case side1=>repeat (first | (with_reducible first | exact HI0.out | apply IsS67.alloc | apply IsS67.drewN | apply IsS67.drew | apply IsS67.set_2 | apply IsS67.set_3) | exact HI0.out));(case side2=>repeat (first | (with_reducible first | exact HB.out | apply below_alloc | apply pw_below_drewN | apply below_drew1 | refine below_set ?_ (IsS67.ge HI0.out)) | exact HB.out));rintro e w5 ⟨rfl,hi,hb,hk⟩;refine ⟨_,rfl,?_⟩;have n0_:=Aside0.mk (KeepBut.trans (by repeat (first | (with_reducible first | exact HK.out | apply KeepBut.set_ | apply keep_drewN | apply keep_drew | apply keep_alloc) | exact HK.out)) hk (.inl rfl));have n1_:=Aside0.mk (hb);have n2_:=Aside0.mk (hi);clear HK;clear HB;clear HI0;have HK:=n0_;have HB:=n1_;have HI0:=n2_;clear n0_ n1_ n2_;(try clear hb);(try clear hb2);(try clear hk);(try clear hi);obtain ⟨ASz6_0,cSz6_0,ASz6_1,cSz6_1,HGz6,hgz6,HSz6_0,HSz6_1⟩:=HI0.out;have hcz6_0:=cellS67_0 HGz6;have hcz6_1:=cellS67_1 HGz6;have hcz6_2:=cellS67_2 HGz6;have hcz6_3:=cellS67_3 HGz6;have hfz6_2:=blk_frozen HGz6 2;have hfz6_3:=blk_frozen HGz6 3;clear HGz6 hgz6))
   go_ret
   exact ⟨by first | rfl | (simp [errW_none,errW_some] <;> rfl) | (simp [*,errW_none,errW_some] <;> rfl),by repeat (first | (with_reducible first | exact HI0.out | apply IsS67.alloc | apply IsS67.drewN | apply IsS67.drew | apply IsS67.set_2 | apply IsS67.set_3) | exact HI0.out),by repeat (first | (with_reducible first | exact HB.out | apply below_alloc | apply pw_below_drewN | apply below_drew1 | refine below_set ?_ (IsS67.ge HI0.out)) | exact HB.out),by repeat (first | (with_reducible first | exact HK.out | apply KeepBut.set_ | apply keep_drewN | apply keep_drew | apply keep_alloc) | exact HK.out)⟩
  ·rw [if_neg c4] at H
   have c4b0:(t146 == 64)=false:=beq_eq_false_iff_ne.mpr c4
   have c4b1:(t146 != 64)=true:=bne_iff_ne.mpr c4
   simp only [Option.some.injEq,Prod.mk.injEq] at H
   obtain ⟨rfl,rfl,rfl⟩:=H
   go_enter Tryz.func107,Tryz.ntmps107
   go_wp2_with (first | ((with_reducible refine gate_callee (f:=80) rfl ?_);refine goesL_ (some 5) rfl rfl Tryz.func80 (by kernel_rfl) rfl #[.pointer (some ⟨g,0,none⟩),.string (⟨#[40]⟩:ByteArray)] rfl (by (try simp only [List.map_toArray,List.map_cons,List.map_nil]);first | done | rfl | (simp only [List.length_drop,List.length_take];rfl)) ?_;(with_reducible refine (lics_reader_sign.calls g s0_0 s0_1 s0_2 s0_3 (⟨#[40]⟩:ByteArray) true t145 t146 w0 _ ?side1 ?side2 A2.out).mono ?_);(case side1=>repeat (first | (with_reducible first | exact HI0.out | apply IsS67.alloc | apply IsS67.drewN | apply IsS67.drew | apply IsS67.set_2 | apply IsS67.set_3) | exact HI0.out));(case side2=>repeat (first | (with_reducible first | exact HB.out | apply below_alloc | apply pw_below_drewN | apply below_drew1 | refine below_set ?_ (IsS67.ge HI0.out)) | exact HB.out));rintro e w7 ⟨rfl,hi,hb,hk⟩;refine ⟨_,rfl,?_⟩;have n0_:=Aside0.mk (KeepBut.trans (by repeat (first | (with_reducible first | exact HK.out | apply KeepBut.set_ | apply keep_drewN | apply keep_drew | apply keep_alloc) | exact HK.out)) hk (.inl rfl));have n1_:=Aside0.mk (hb);have n2_:=Aside0.mk (hi);clear HK;clear HB;clear HI0;have HK:=n0_;have HB:=n1_;have HI0:=n2_;clear n0_ n1_ n2_;(try clear hb);(try clear hb2);(try clear hk);(try clear hi);obtain ⟨ASz8_0,cSz8_0,ASz8_1,cSz8_1,HGz8,hgz8,HSz8_0,HSz8_1⟩:=HI0.out;have hcz8_0:=cellS67_0 HGz8;have hcz8_1:=cellS67_1 HGz8;have hcz8_2:=cellS67_2 HGz8;have hcz8_3:=cellS67_3 HGz8;have hfz8_2:=blk_frozen HGz8 2;have hfz8_3:=blk_frozen HGz8 3;clear HGz8 hgz8))
   go_ret
   exact ⟨by first | rfl | (simp [errW_none,errW_some] <;> rfl) | (simp [*,errW_none,errW_some] <;> rfl),by repeat (first | (with_reducible first | exact HI0.out | apply IsS67.alloc | apply IsS67.drewN | apply IsS67.drew | apply IsS67.set_2 | apply IsS67.set_3) | exact HI0.out),by repeat (first | (with_reducible first | exact HB.out | apply below_alloc | apply pw_below_drewN | apply below_drew1 | refine below_set ?_ (IsS67.ge HI0.out)) | exact HB.out),by repeat (first | (with_reducible first | exact HK.out | apply KeepBut.set_ | apply keep_drewN | apply keep_drew | apply keep_alloc) | exact HK.out)⟩
 ·replace c3:=Bool.eq_false_iff.mpr c3
  subst c3
  have H1:(some (150,t145,t146))=some (r1,r2,r3):=by rw [if_neg (show ¬ (false=true) by decide)] at H;exact H
  clear H
  have H:=H1
  clear H1
  simp only [Option.some.injEq,Prod.mk.injEq] at H
  obtain ⟨rfl,rfl,rfl⟩:=H
  go_enter Tryz.func107,Tryz.ntmps107
  go_wp2_with (first | ((with_reducible refine gate_callee (f:=80) rfl ?_);refine goesL_ (some 5) rfl rfl Tryz.func80 (by kernel_rfl) rfl #[.pointer (some ⟨g,0,none⟩),.string (⟨#[40]⟩:ByteArray)] rfl (by (try simp only [List.map_toArray,List.map_cons,List.map_nil]);first | done | rfl | (simp only [List.length_drop,List.length_take];rfl)) ?_;(with_reducible refine (lics_reader_sign.calls g s0_0 s0_1 s0_2 s0_3 (⟨#[40]⟩:ByteArray) false t145 t146 w0 _ ?side1 ?side2 A2.out).mono ?_);(case side1=>repeat (first | (with_reducible first | exact HI0.out | apply IsS67.alloc | apply IsS67.drewN | apply IsS67.drew | apply IsS67.set_2 | apply IsS67.set_3) | exact HI0.out));(case side2=>repeat (first | (with_reducible first | exact HB.out | apply below_alloc | apply pw_below_drewN | apply below_drew1 | refine below_set ?_ (IsS67.ge HI0.out)) | exact HB.out));rintro e w9 ⟨rfl,hi,hb,hk⟩;refine ⟨_,rfl,?_⟩;have n0_:=Aside0.mk (KeepBut.trans (by repeat (first | (with_reducible first | exact HK.out | apply KeepBut.set_ | apply keep_drewN | apply keep_drew | apply keep_alloc) | exact HK.out)) hk (.inl rfl));have n1_:=Aside0.mk (hb);have n2_:=Aside0.mk (hi);clear HK;clear HB;clear HI0;have HK:=n0_;have HB:=n1_;have HI0:=n2_;clear n0_ n1_ n2_;(try clear hb);(try clear hb2);(try clear hk);(try clear hi)))
  go_ret
  exact ⟨by first | rfl | (simp [errW_none,errW_some] <;> rfl) | (simp [*,errW_none,errW_some] <;> rfl),by repeat (first | (with_reducible first | exact HI0.out | apply IsS67.alloc | apply IsS67.drewN | apply IsS67.drew | apply IsS67.set_2 | apply IsS67.set_3) | exact HI0.out),by repeat (first | (with_reducible first | exact HB.out | apply below_alloc | apply pw_below_drewN | apply below_drew1 | refine below_set ?_ (IsS67.ge HI0.out)) | exact HB.out),by repeat (first | (with_reducible first | exact HK.out | apply KeepBut.set_ | apply keep_drewN | apply keep_drew | apply keep_alloc) | exact HK.out)⟩
def lics_reader_leave.f (s0_0:List (S70)) (s0_1:List (S138)) (s0_2:Int) (s0_3:Int):Option (Int × Int × Int):=(lics_reader_sign.f s0_0 s0_1 s0_2 s0_3 (⟨#[41]⟩:ByteArray)).bind fun bt147=>(if bt147.1=true then (some (0,wrap64 (bt147.2.1 + 1),wrap64 (bt147.2.2 - 1))) else (some (150,bt147.2.1,bt147.2.2)))
set_option maxHeartbeats 8000000 in
set_option maxRecDepth 100000 in
theorem lics_reader_leave.calls (g:Nat) (s0_0:List (S70)) (s0_1:List (S138)) (s0_2:Int) (s0_3:Int) (r1:Int) (r2:Int) (r3:Int) (w0 w:World) (hI:IsS67 w0 w g s0_0 s0_1 s0_2 s0_3) (hB:Below w0.heap.size w0 w) (h:lics_reader_leave.f s0_0 s0_1 s0_2 s0_3=some (r1,r2,r3)) :
  Calls Tryz.prog 108 #[.pointer (some ⟨g,0,none⟩)] w fun e w'=>e = .returned (.int .i64 r1) ∧ IsS67 w0 w' g s0_0 s0_1 r2 r3 ∧ Below w0.heap.size w0 w' ∧ KeepBut w w' g none:=by
 have HI0:=Aside0.mk hI
 have HK:=Aside0.mk (KeepBut.refl w g none)
 have HL:=Aside0.mk hB.size
 clear hI
 have HW0:=Aside0.mk hB.size
 have HB:=Aside0.mk hB
 clear hB
 have H:((lics_reader_sign.f s0_0 s0_1 s0_2 s0_3 (⟨#[41]⟩:ByteArray)).bind fun bt147=>(if bt147.1=true then (some (0,wrap64 (bt147.2.1 + 1),wrap64 (bt147.2.2 - 1))) else (some (150,bt147.2.1,bt147.2.2))))=some (r1,r2,r3):=h
 clear h
 replace H:=Option.bind_eq_some_iff.mp H
 obtain ⟨⟨t147,t148,t149⟩,A20,H⟩:=H
 replace H:(if t147=true then (some (0,wrap64 (t148 + 1),wrap64 (t149 - 1))) else (some (150,t148,t149)))=some (r1,r2,r3):=H
 have A2:=Aside0.mk A20
 clear A20
 by_cases c3:t147=true
 ·subst c3
  have H1:(some (0,wrap64 (t148 + 1),wrap64 (t149 - 1)))=some (r1,r2,r3):=by rw [if_pos rfl] at H;exact H
  clear H
  have H:=H1
  clear H1
  simp only [Option.some.injEq,Prod.mk.injEq] at H
  obtain ⟨rfl,rfl,rfl⟩:=H
  go_enter Tryz.func108,Tryz.ntmps108
  go_wp2_with (first | ((with_reducible refine gate_callee (f:=80) rfl ?_);refine goesL_ (some 4) rfl rfl Tryz.func80 (by kernel_rfl) rfl #[.pointer (some ⟨g,0,none⟩),.string (⟨#[41]⟩:ByteArray)] rfl (by (try simp only [List.map_toArray,List.map_cons,List.map_nil]);first | done | rfl | (simp only [List.length_drop,List.length_take];rfl)) ?_;(with_reducible refine (lics_reader_sign.calls g s0_0 s0_1 s0_2 s0_3 (⟨#[41]⟩:ByteArray) true t148 t149 w0 _ ?side1 ?side2 A2.out).mono ?_);(case side1=>repeat (first | (with_reducible first | exact HI0.out | apply IsS67.alloc | apply IsS67.drewN | apply IsS67.drew | apply IsS67.set_2 | apply IsS67.set_3) | exact HI0.out));(case side2=>repeat (first | (with_reducible first | exact HB.out | apply below_alloc | apply pw_below_drewN | apply below_drew1 | refine below_set ?_ (IsS67.ge HI0.out)) | exact HB.out));rintro e w4 ⟨rfl,hi,hb,hk⟩;refine ⟨_,rfl,?_⟩;have n0_:=Aside0.mk (KeepBut.trans (by repeat (first | (with_reducible first | exact HK.out | apply KeepBut.set_ | apply keep_drewN | apply keep_drew | apply keep_alloc) | exact HK.out)) hk (.inl rfl));have n1_:=Aside0.mk (hb);have n2_:=Aside0.mk (hi);clear HK;clear HB;clear HI0;have HK:=n0_;have HB:=n1_;have HI0:=n2_;clear n0_ n1_ n2_;(try clear hb);(try clear hb2);(try clear hk);(try clear hi);obtain ⟨ASz5_0,cSz5_0,ASz5_1,cSz5_1,HGz5,hgz5,HSz5_0,HSz5_1⟩:=HI0.out;have hcz5_0:=cellS67_0 HGz5;have hcz5_1:=cellS67_1 HGz5;have hcz5_2:=cellS67_2 HGz5;have hcz5_3:=cellS67_3 HGz5;have hfz5_2:=blk_frozen HGz5 2;have hfz5_3:=blk_frozen HGz5 3;clear HGz5 hgz5))
  go_ret
  exact ⟨by first | rfl | (simp [errW_none,errW_some] <;> rfl) | (simp [*,errW_none,errW_some] <;> rfl),by repeat (first | (with_reducible first | exact HI0.out | apply IsS67.alloc | apply IsS67.drewN | apply IsS67.drew | apply IsS67.set_2 | apply IsS67.set_3) | exact HI0.out),by repeat (first | (with_reducible first | exact HB.out | apply below_alloc | apply pw_below_drewN | apply below_drew1 | refine below_set ?_ (IsS67.ge HI0.out)) | exact HB.out),by repeat (first | (with_reducible first | exact HK.out | apply KeepBut.set_ | apply keep_drewN | apply keep_drew | apply keep_alloc) | exact HK.out)⟩
 ·replace c3:=Bool.eq_false_iff.mpr c3
  subst c3
  have H1:(some (150,t148,t149))=some (r1,r2,r3):=by rw [if_neg (show ¬ (false=true) by decide)] at H;exact H
  clear H
  have H:=H1
  clear H1
  simp only [Option.some.injEq,Prod.mk.injEq] at H
  obtain ⟨rfl,rfl,rfl⟩:=H
  go_enter Tryz.func108,Tryz.ntmps108
  go_wp2_with (first | ((with_reducible refine gate_callee (f:=80) rfl ?_);refine goesL_ (some 4) rfl rfl Tryz.func80 (by kernel_rfl) rfl #[.pointer (some ⟨g,0,none⟩),.string (⟨#[41]⟩:ByteArray)] rfl (by (try simp only [List.map_toArray,List.map_cons,List.map_nil]);first | done | rfl | (simp only [List.length_drop,List.length_take];rfl)) ?_;(with_reducible refine (lics_reader_sign.calls g s0_0 s0_1 s0_2 s0_3 (⟨#[41]⟩:ByteArray) false t148 t149 w0 _ ?side1 ?side2 A2.out).mono ?_);(case side1=>repeat (first | (with_reducible first | exact HI0.out | apply IsS67.alloc | apply IsS67.drewN | apply IsS67.drew | apply IsS67.set_2 | apply IsS67.set_3) | exact HI0.out));(case side2=>repeat (first | (with_reducible first | exact HB.out | apply below_alloc | apply pw_below_drewN | apply below_drew1 | refine below_set ?_ (IsS67.ge HI0.out)) | exact HB.out));rintro e w6 ⟨rfl,hi,hb,hk⟩;refine ⟨_,rfl,?_⟩;have n0_:=Aside0.mk (KeepBut.trans (by repeat (first | (with_reducible first | exact HK.out | apply KeepBut.set_ | apply keep_drewN | apply keep_drew | apply keep_alloc) | exact HK.out)) hk (.inl rfl));have n1_:=Aside0.mk (hb);have n2_:=Aside0.mk (hi);clear HK;clear HB;clear HI0;have HK:=n0_;have HB:=n1_;have HI0:=n2_;clear n0_ n1_ n2_;(try clear hb);(try clear hb2);(try clear hk);(try clear hi)))
  go_ret
  exact ⟨by first | rfl | (simp [errW_none,errW_some] <;> rfl) | (simp [*,errW_none,errW_some] <;> rfl),by repeat (first | (with_reducible first | exact HI0.out | apply IsS67.alloc | apply IsS67.drewN | apply IsS67.drew | apply IsS67.set_2 | apply IsS67.set_3) | exact HI0.out),by repeat (first | (with_reducible first | exact HB.out | apply below_alloc | apply pw_below_drewN | apply below_drew1 | refine below_set ?_ (IsS67.ge HI0.out)) | exact HB.out),by repeat (first | (with_reducible first | exact HK.out | apply KeepBut.set_ | apply keep_drewN | apply keep_drew | apply keep_alloc) | exact HK.out)⟩
end Go.Proofs.YtjapfefiaijfcaaGreatDoor.Q
namespace Go.Proofs.YtjapfefiaijfcaaGreatDoor.Q
open Go.RowKit Go.Proofs.YtjapfefiaijfcaaGreatDoorW.PrintWords Go.Proofs.YtjapfefiaijfcaaGreatDoorW.PrintLast Go.Proofs.YtjapfefiaijfcaaGreatDoorW.PrintMore
attribute [local go_sem] max2_int min2_int max_two min_two max_three min_three max_four min_four
set_option linter.unusedVariables false
set_option linter.unusedSimpArgs false
def stringslite_HasPrefix.f (a0:ByteArray) (a1:ByteArray):Option (Bool):=if (a0.size:Int) ≥ (a1.size:Int) then (if 0 ≤ (a1.size:Int) then (if (a1.size:Int) ≤ (a0.size:Int) then (some ((a0.extract 0 ((a1.size:Int):Int).toNat).toList == a1.toList)) else (none)) else (none)) else (some false)
set_option maxHeartbeats 8000000 in
set_option maxRecDepth 100000 in
theorem stringslite_HasPrefix.calls (a0:ByteArray) (a1:ByteArray) (r:Bool) (w:World) (h:stringslite_HasPrefix.f a0 a1=some r) :
  Calls Tryz.prog 133 #[.string a0,.string a1] w fun e w'=>e = .returned (.bool r) ∧ Drawn0 w w':=by
 have H:(if (a0.size:Int) ≥ (a1.size:Int) then (if 0 ≤ (a1.size:Int) then (if (a1.size:Int) ≤ (a0.size:Int) then (some ((a0.extract 0 ((a1.size:Int):Int).toNat).toList == a1.toList)) else (none)) else (none)) else (some false))=some r:=h
 clear h
 by_cases c3:(a0.size:Int) ≥ (a1.size:Int)
 ·rw [if_pos c3] at H
  have c3b0:decide ((a1.size:Int) ≤ (a0.size:Int))=true:=decide_eq_true c3
  have c3b1:decide (a1.size ≤ a0.size)=true:=decide_eq_true (Int.ofNat_le.mp c3)
  clear c3
  by_cases c4:0 ≤ (a1.size:Int)
  ·rw [if_pos c4] at H
   have c4b0:=eq_true c4
   have c4b1:decide (0 ≤ (a1.size:Int))=true:=decide_eq_true c4
   clear c4
   by_cases c5:(a1.size:Int) ≤ (a0.size:Int)
   ·rw [if_pos c5] at H
    have c5b0:=eq_true c5
    have c5b1:decide ((a1.size:Int) ≤ (a0.size:Int))=true:=decide_eq_true c5
    clear c5
    obtain rfl:=Option.some.inj H
    go_enter Tryz.func133,Tryz.ntmps133
    go_wp2
    go_ret
    exact ⟨by first | rfl | (simp;done) | (simp [*];done),by repeat (first | exact Drawn0.refl _ | apply Drawn0.step)⟩
   ·rw [if_neg c5] at H
    exact absurd H (by simp)
  ·rw [if_neg c4] at H
   exact absurd H (by simp)
 ·rw [if_neg c3] at H
  have c3b0:decide ((a1.size:Int) ≤ (a0.size:Int))=false:=decide_eq_false c3
  have c3b1:decide (a1.size ≤ a0.size)=false:=decide_eq_false (fun h=>c3 (Int.ofNat_le.mpr h))
  clear c3
  obtain rfl:=Option.some.inj H
  go_enter Tryz.func133,Tryz.ntmps133
  go_wp2
  go_ret
  exact ⟨by first | rfl | (simp;done) | (simp [*];done),by repeat (first | exact Drawn0.refl _ | apply Drawn0.step)⟩
def stringslite_CutPrefix.f (a0:ByteArray) (a1:ByteArray):Option (ByteArray × Bool):=(stringslite_HasPrefix.f a0 a1).bind fun t101=>(if t101=true then (if 0 ≤ (a1.size:Int) then (if (a1.size:Int) ≤ (a0.size:Int) then (some (a0.extract ((a1.size:Int):Int).toNat a0.size,true)) else (none)) else (none)) else (some (a0,false)))
set_option maxHeartbeats 8000000 in
set_option maxRecDepth 100000 in
theorem stringslite_CutPrefix.calls (a0:ByteArray) (a1:ByteArray) (r1:ByteArray) (r2:Bool) (w:World) (h:stringslite_CutPrefix.f a0 a1=some (r1,r2)) :
  Calls Tryz.prog 132 #[.string a0,.string a1] w fun e w'=>e = .returned (.tuple #[.string r1,.bool r2]) ∧ Drawn0 w w':=by
 have H:((stringslite_HasPrefix.f a0 a1).bind fun t101=>(if t101=true then (if 0 ≤ (a1.size:Int) then (if (a1.size:Int) ≤ (a0.size:Int) then (some (a0.extract ((a1.size:Int):Int).toNat a0.size,true)) else (none)) else (none)) else (some (a0,false))))=some (r1,r2):=h
 clear h
 replace H:=Option.bind_eq_some_iff.mp H
 obtain ⟨t101,A30,H⟩:=H
 replace H:(if t101=true then (if 0 ≤ (a1.size:Int) then (if (a1.size:Int) ≤ (a0.size:Int) then (some (a0.extract ((a1.size:Int):Int).toNat a0.size,true)) else (none)) else (none)) else (some (a0,false)))=some (r1,r2):=H
 have A3:=Aside0.mk A30
 clear A30
 by_cases c4:t101=true
 ·subst c4
  have H1:(if 0 ≤ (a1.size:Int) then (if (a1.size:Int) ≤ (a0.size:Int) then (some (a0.extract ((a1.size:Int):Int).toNat a0.size,true)) else (none)) else (none))=some (r1,r2):=by rw [if_pos rfl] at H;exact H
  clear H
  have H:=H1
  clear H1
  by_cases c5:0 ≤ (a1.size:Int)
  ·rw [if_pos c5] at H
   have c5b0:=eq_true c5
   have c5b1:decide (0 ≤ (a1.size:Int))=true:=decide_eq_true c5
   clear c5
   by_cases c6:(a1.size:Int) ≤ (a0.size:Int)
   ·rw [if_pos c6] at H
    have c6b0:=eq_true c6
    have c6b1:decide ((a1.size:Int) ≤ (a0.size:Int))=true:=decide_eq_true c6
    clear c6
    simp only [Option.some.injEq,Prod.mk.injEq] at H
    obtain ⟨rfl,rfl⟩:=H
    go_enter Tryz.func132,Tryz.ntmps132
    go_wp2_with (first | ((with_reducible refine gate_callee (f:=133) rfl ?_);refine goesL_ (some 8) rfl rfl Tryz.func133 (by kernel_rfl) rfl #[.string a0,.string a1] rfl (by (try simp only [List.map_toArray,List.map_cons,List.map_nil]);first | done | rfl | (simp only [List.length_drop,List.length_take];rfl)) ?_;(with_reducible refine (stringslite_HasPrefix.calls a0 a1 true _ A3.out).mono ?_);rintro e w' ⟨rfl,⟨nd,rfl⟩⟩;refine ⟨_,rfl,?_⟩))
    go_ret2
    exact ⟨by first | rfl | (simp;done) | (simp [*];done),by repeat (first | exact Drawn0.refl _ | apply Drawn0.step)⟩
   ·rw [if_neg c6] at H
    exact absurd H (by simp)
  ·rw [if_neg c5] at H
   exact absurd H (by simp)
 ·replace c4:=Bool.eq_false_iff.mpr c4
  subst c4
  have H1:(some (a0,false))=some (r1,r2):=by rw [if_neg (show ¬ (false=true) by decide)] at H;exact H
  clear H
  have H:=H1
  clear H1
  simp only [Option.some.injEq,Prod.mk.injEq] at H
  obtain ⟨rfl,rfl⟩:=H
  go_enter Tryz.func132,Tryz.ntmps132
  go_wp2_with (first | ((with_reducible refine gate_callee (f:=133) rfl ?_);refine goesL_ (some 8) rfl rfl Tryz.func133 (by kernel_rfl) rfl #[.string a0,.string a1] rfl (by (try simp only [List.map_toArray,List.map_cons,List.map_nil]);first | done | rfl | (simp only [List.length_drop,List.length_take];rfl)) ?_;(with_reducible refine (stringslite_HasPrefix.calls a0 a1 false _ A3.out).mono ?_);rintro e w' ⟨rfl,⟨nd,rfl⟩⟩;refine ⟨_,rfl,?_⟩))
  go_ret2
  exact ⟨by first | rfl | (simp;done) | (simp [*];done),by repeat (first | exact Drawn0.refl _ | apply Drawn0.step)⟩
def strings_CutPrefix.f (a0:ByteArray) (a1:ByteArray):Option (ByteArray × Bool):=(stringslite_CutPrefix.f a0 a1).bind fun bt102=>(some (bt102.1,bt102.2))
set_option maxHeartbeats 8000000 in
set_option maxRecDepth 100000 in
theorem strings_CutPrefix.calls (a0:ByteArray) (a1:ByteArray) (r1:ByteArray) (r2:Bool) (w:World) (h:strings_CutPrefix.f a0 a1=some (r1,r2)) :
  Calls Tryz.prog 121 #[.string a0,.string a1] w fun e w'=>e = .returned (.tuple #[.string r1,.bool r2]) ∧ Drawn0 w w':=by
 have H:((stringslite_CutPrefix.f a0 a1).bind fun bt102=>(some (bt102.1,bt102.2)))=some (r1,r2):=h
 clear h
 replace H:=Option.bind_eq_some_iff.mp H
 obtain ⟨⟨t102,t103⟩,A30,H⟩:=H
 replace H:(some (t102,t103))=some (r1,r2):=H
 have A3:=Aside0.mk A30
 clear A30
 simp only [Option.some.injEq,Prod.mk.injEq] at H
 obtain ⟨rfl,rfl⟩:=H
 go_enter Tryz.func121,Tryz.ntmps121
 go_wp2_with (first | ((with_reducible refine gate_callee (f:=132) rfl ?_);refine goesL_ (some 8) rfl rfl Tryz.func132 (by kernel_rfl) rfl #[.string a0,.string a1] rfl (by (try simp only [List.map_toArray,List.map_cons,List.map_nil]);first | done | rfl | (simp only [List.length_drop,List.length_take];rfl)) ?_;(with_reducible refine (stringslite_CutPrefix.calls a0 a1 t102 t103 _ A3.out).mono ?_);rintro e w' ⟨rfl,⟨nd,rfl⟩⟩;refine ⟨_,rfl,?_⟩))
 go_ret2
 exact ⟨by first | rfl | (simp;done) | (simp [*];done),by repeat (first | exact Drawn0.refl _ | apply Drawn0.step)⟩
def strings_HasPrefix.f (a0:ByteArray) (a1:ByteArray):Option (Bool):=(stringslite_HasPrefix.f a0 a1).bind fun t104=>(some t104)
set_option maxHeartbeats 8000000 in
set_option maxRecDepth 100000 in
theorem strings_HasPrefix.calls (a0:ByteArray) (a1:ByteArray) (r:Bool) (w:World) (h:strings_HasPrefix.f a0 a1=some r) :
  Calls Tryz.prog 122 #[.string a0,.string a1] w fun e w'=>e = .returned (.bool r) ∧ Drawn0 w w':=by
 have H:((stringslite_HasPrefix.f a0 a1).bind fun t104=>(some t104))=some r:=h
 clear h
 replace H:=Option.bind_eq_some_iff.mp H
 obtain ⟨t104,A30,H⟩:=H
 replace H:(some t104)=some r:=H
 have A3:=Aside0.mk A30
 clear A30
 obtain rfl:=Option.some.inj H
 go_enter Tryz.func122,Tryz.ntmps122
 go_wp2_with (first | ((with_reducible refine gate_callee (f:=133) rfl ?_);refine goesL_ (some 7) rfl rfl Tryz.func133 (by kernel_rfl) rfl #[.string a0,.string a1] rfl (by (try simp only [List.map_toArray,List.map_cons,List.map_nil]);first | done | rfl | (simp only [List.length_drop,List.length_take];rfl)) ?_;(with_reducible refine (stringslite_HasPrefix.calls a0 a1 t104 _ A3.out).mono ?_);rintro e w' ⟨rfl,⟨nd,rfl⟩⟩;refine ⟨_,rfl,?_⟩))
 go_ret
 exact ⟨by first | rfl | (simp;done) | (simp [*];done),by repeat (first | exact Drawn0.refl _ | apply Drawn0.step)⟩
def tokens_letter.f (a0:Int):Option (Bool):=if 97 ≤ a0 then (if a0 ≤ 122 then (some true) else (if 65 ≤ a0 then (if a0 ≤ 90 then (some true) else (some (a0 == 95))) else (some (a0 == 95)))) else (if 65 ≤ a0 then (if a0 ≤ 90 then (some true) else (some (a0 == 95))) else (some (a0 == 95)))
set_option maxHeartbeats 8000000 in
set_option maxRecDepth 100000 in
theorem tokens_letter.calls (a0:Int) (r:Bool) (w:World) (h:tokens_letter.f a0=some r) :
  Calls Tryz.prog 97 #[.int .u8 a0] w fun e w'=>e = .returned (.bool r) ∧ Drawn0 w w':=by
 have H:(if 97 ≤ a0 then (if a0 ≤ 122 then (some true) else (if 65 ≤ a0 then (if a0 ≤ 90 then (some true) else (some (a0 == 95))) else (some (a0 == 95)))) else (if 65 ≤ a0 then (if a0 ≤ 90 then (some true) else (some (a0 == 95))) else (some (a0 == 95))))=some r:=h
 clear h
 by_cases c2:97 ≤ a0
 ·rw [if_pos c2] at H
  have c2b0:decide (97 ≤ a0)=true:=decide_eq_true c2
  clear c2
  by_cases c3:a0 ≤ 122
  ·rw [if_pos c3] at H
   have c3b0:decide (a0 ≤ 122)=true:=decide_eq_true c3
   clear c3
   obtain rfl:=Option.some.inj H
   go_enter Tryz.func97,Tryz.ntmps97
   go_wp2
   go_ret
   exact ⟨by first | rfl | (simp;done) | (simp [*];done),by repeat (first | exact Drawn0.refl _ | apply Drawn0.step)⟩
  ·rw [if_neg c3] at H
   have c3b0:decide (a0 ≤ 122)=false:=decide_eq_false c3
   clear c3
   by_cases c4:65 ≤ a0
   ·rw [if_pos c4] at H
    have c4b0:decide (65 ≤ a0)=true:=decide_eq_true c4
    clear c4
    by_cases c5:a0 ≤ 90
    ·rw [if_pos c5] at H
     have c5b0:decide (a0 ≤ 90)=true:=decide_eq_true c5
     clear c5
     obtain rfl:=Option.some.inj H
     go_enter Tryz.func97,Tryz.ntmps97
     go_wp2
     go_ret
     exact ⟨by first | rfl | (simp;done) | (simp [*];done),by repeat (first | exact Drawn0.refl _ | apply Drawn0.step)⟩
    ·rw [if_neg c5] at H
     have c5b0:decide (a0 ≤ 90)=false:=decide_eq_false c5
     clear c5
     obtain rfl:=Option.some.inj H
     go_enter Tryz.func97,Tryz.ntmps97
     go_wp2
     go_ret
     exact ⟨by first | rfl | (simp;done) | (simp [*];done),by repeat (first | exact Drawn0.refl _ | apply Drawn0.step)⟩
   ·rw [if_neg c4] at H
    have c4b0:decide (65 ≤ a0)=false:=decide_eq_false c4
    clear c4
    obtain rfl:=Option.some.inj H
    go_enter Tryz.func97,Tryz.ntmps97
    go_wp2
    go_ret
    exact ⟨by first | rfl | (simp;done) | (simp [*];done),by repeat (first | exact Drawn0.refl _ | apply Drawn0.step)⟩
 ·rw [if_neg c2] at H
  have c2b0:decide (97 ≤ a0)=false:=decide_eq_false c2
  clear c2
  by_cases c6:65 ≤ a0
  ·rw [if_pos c6] at H
   have c6b0:decide (65 ≤ a0)=true:=decide_eq_true c6
   clear c6
   by_cases c7:a0 ≤ 90
   ·rw [if_pos c7] at H
    have c7b0:decide (a0 ≤ 90)=true:=decide_eq_true c7
    clear c7
    obtain rfl:=Option.some.inj H
    go_enter Tryz.func97,Tryz.ntmps97
    go_wp2
    go_ret
    exact ⟨by first | rfl | (simp;done) | (simp [*];done),by repeat (first | exact Drawn0.refl _ | apply Drawn0.step)⟩
   ·rw [if_neg c7] at H
    have c7b0:decide (a0 ≤ 90)=false:=decide_eq_false c7
    clear c7
    obtain rfl:=Option.some.inj H
    go_enter Tryz.func97,Tryz.ntmps97
    go_wp2
    go_ret
    exact ⟨by first | rfl | (simp;done) | (simp [*];done),by repeat (first | exact Drawn0.refl _ | apply Drawn0.step)⟩
  ·rw [if_neg c6] at H
   have c6b0:decide (65 ≤ a0)=false:=decide_eq_false c6
   clear c6
   obtain rfl:=Option.some.inj H
   go_enter Tryz.func97,Tryz.ntmps97
   go_wp2
   go_ret
   exact ⟨by first | rfl | (simp;done) | (simp [*];done),by repeat (first | exact Drawn0.refl _ | apply Drawn0.step)⟩
end Go.Proofs.YtjapfefiaijfcaaGreatDoor.Q
namespace Go.Proofs.YtjapfefiaijfcaaGreatDoor.Q
open Go.RowKit Go.Proofs.YtjapfefiaijfcaaGreatDoorW.PrintWords Go.Proofs.YtjapfefiaijfcaaGreatDoorW.PrintLast Go.Proofs.YtjapfefiaijfcaaGreatDoorW.PrintMore
set_option linter.unusedVariables false
structure Scan (w:World) (g:Nat) (s:ByteArray) (at_:Int):Prop where
 blk:w.heap[g]? = some (.cells #[.string s,.int .i64 at_] 94 (0,0))
theorem Scan.c0 {w:World} {g:Nat} {s:ByteArray} {a:Int} (h:Scan w g s a):w.cell? ⟨g,0,none⟩=some (.string s):=by simp [World.cell?,h.blk]
theorem Scan.c1 {w:World} {g:Nat} {s:ByteArray} {a:Int} (h:Scan w g s a):w.cell? ⟨g,1,none⟩=some (.int .i64 a):=by simp [World.cell?,h.blk]
theorem Scan.f1 {w:World} {g:Nat} {s:ByteArray} {a:Int} (h:Scan w g s a):w.frozen? ⟨g,1,none⟩=false:=by simp [World.frozen?,h.blk]
theorem Scan.lt {w:World} {g:Nat} {s:ByteArray} {a:Int} (h:Scan w g s a):g < w.heap.size:=(Array.getElem?_eq_some_iff.1 h.blk).1
theorem Scan.keep {w w1:World} {g:Nat} {s:ByteArray} {a:Int} (h:Scan w g s a) (hb:Below w.heap.size w w1):Scan w1 g s a:=⟨(hb.block g h.lt).trans h.blk⟩
theorem Scan.drewN {w:World} {g:Nat} {s:ByteArray} {a:Int} (h:Scan w g s a) (n:Nat):Scan (w.drewN n) g s a:=⟨h.blk⟩
theorem Scan.drew {w:World} {g:Nat} {s:ByteArray} {a:Int} (h:Scan w g s a):Scan w.drew g s a:=⟨h.blk⟩
def scanAt (w:World) (g:Nat):Nat:=match w.cell? ⟨g,1,none⟩ with | some (.int _ n)=>n.toNat | _=>0
theorem Scan.at' {w:World} {g:Nat} {s:ByteArray} {a:Int} (h:Scan w g s a):scanAt w g=a.toNat:=by unfold scanAt;rw [h.c1]
theorem Scan.set {w:World} {g:Nat} {s:ByteArray} {a:Int} (h:Scan w g s a) (b:Int):Scan (w.setCell ⟨g,1,none⟩ (.int .i64 b)) g s b:=by
 refine ⟨?_⟩
 simp [World.setCell,Array.getElem?_modify,h.blk]
def isLetter (c:Int):Bool:=(decide (97 ≤ c) && decide (c ≤ 122)) || (decide (65 ≤ c) && decide (c ≤ 90)) || (c == 95)
def isDigit (c:Int):Bool:=decide (48 ≤ c) && decide (c ≤ 57)
set_option maxHeartbeats 1000000 in
theorem digit_same (c:Int) (w:World):Calls Tryz.prog 100 #[.int .u8 c] w fun e w'=>e = .returned (.bool (isDigit c)) ∧ w=w':=by
 unfold isDigit
 by_cases h1:48 ≤ c
 ·have d1:decide (48 ≤ c)=true:=decide_eq_true h1
  rw [d1]
  go_enter Tryz.func100,Tryz.ntmps100
  go_wp2
  go_ret
  exact ⟨by simp,rfl⟩
 ·have d1:decide (48 ≤ c)=false:=decide_eq_false h1
  rw [d1]
  clear h1
  go_enter Tryz.func100,Tryz.ntmps100
  go_wp2
  go_ret
  exact ⟨by simp,rfl⟩
set_option maxHeartbeats 2000000 in
theorem letter_same (c:Int) (w:World):Calls Tryz.prog 97 #[.int .u8 c] w fun e w'=>e = .returned (.bool (isLetter c)) ∧ w=w':=by
 obtain ⟨b,hb⟩:∃ b,b=isLetter c:=⟨_,rfl⟩
 have HB:=Aside0.mk hb
 rw [← hb]
 clear hb
 by_cases h1:97 ≤ c
 ·have d1:decide (97 ≤ c)=true:=decide_eq_true h1
  by_cases h2:c ≤ 122
  ·have d2:decide (c ≤ 122)=true:=decide_eq_true h2
   have hb:b=true:=by rw [HB.out];unfold isLetter;rw [d1,d2];rfl
   subst hb
   clear h1 h2
   go_enter Tryz.func97,Tryz.ntmps97
   go_wp2
   go_ret
   exact ⟨rfl,rfl⟩
  ·have d2:decide (c ≤ 122)=false:=decide_eq_false h2
   have d3:decide (65 ≤ c)=true:=decide_eq_true (by omega)
   have d4:decide (c ≤ 90)=false:=decide_eq_false (by omega)
   have d5:(c == 95)=false:=beq_eq_false_iff_ne.mpr (by omega)
   have hb:b=false:=by rw [HB.out];unfold isLetter;rw [d1,d2,d3,d4,d5];rfl
   subst hb
   clear h1 h2
   go_enter Tryz.func97,Tryz.ntmps97
   go_wp2
   go_ret
   exact ⟨rfl,rfl⟩
 ·have d1:decide (97 ≤ c)=false:=decide_eq_false h1
  by_cases h3:65 ≤ c
  ·have d3:decide (65 ≤ c)=true:=decide_eq_true h3
   by_cases h4:c ≤ 90
   ·have d4:decide (c ≤ 90)=true:=decide_eq_true h4
    have hb:b=true:=by rw [HB.out];unfold isLetter;rw [d1,d3,d4];rfl
    subst hb
    clear h1 h3 h4
    go_enter Tryz.func97,Tryz.ntmps97
    go_wp2
    go_ret
    exact ⟨rfl,rfl⟩
   ·have d4:decide (c ≤ 90)=false:=decide_eq_false h4
    cases h5:(c == 95)
    all_goals
     have hb:b=(c == 95):=by rw [HB.out];unfold isLetter;rw [d1,d3,d4];rfl
     rw [h5] at hb
     subst hb
     clear h1 h3 h4
     go_enter Tryz.func97,Tryz.ntmps97
     go_wp2
     go_ret
     exact ⟨rfl,rfl⟩
  ·have d3:decide (65 ≤ c)=false:=decide_eq_false h3
   have h5:(c == 95)=false:=beq_eq_false_iff_ne.mpr (by omega)
   have hb:b=false:=by rw [HB.out];unfold isLetter;rw [d1,d3,h5];rfl
   subst hb
   clear h1 h3
   go_enter Tryz.func97,Tryz.ntmps97
   go_wp2
   go_ret
   exact ⟨rfl,rfl⟩
def isName (c:Int):Bool:=isLetter c || isDigit c
set_option maxHeartbeats 2000000 in
theorem name_same (c:Int) (w:World):Calls Tryz.prog 99 #[.int .u8 c] w fun e w'=>e = .returned (.bool (isName c)) ∧ w=w':=by
 unfold isName
 have L:=letter_same c
 have D:=digit_same c
 have HL:=Aside0.mk L
 have HD:=Aside0.mk D
 clear L D
 cases hl:isLetter c
 ·rw [hl] at HL
  go_enter Tryz.func99,Tryz.ntmps99
  go_wp2_with (first | (go_at_call 97;(with_reducible refine (HL.out _).mono ?_);rintro e w' ⟨rfl,rfl⟩) | (go_at_call 100;(with_reducible refine (HD.out _).mono ?_);rintro e w' ⟨rfl,rfl⟩))
  go_ret
  exact ⟨by simp,rfl⟩
 ·rw [hl] at HL
  go_enter Tryz.func99,Tryz.ntmps99
  go_wp2_with (first | (go_at_call 97;(with_reducible refine (HL.out _).mono ?_);rintro e w' ⟨rfl,rfl⟩) | (go_at_call 100;(with_reducible refine (HD.out _).mono ?_);rintro e w' ⟨rfl,rfl⟩))
  go_ret
  exact ⟨by simp,rfl⟩
def whileFrom (p:Int → Bool) (s:ByteArray):Nat → Nat → Nat
 | 0,i=>i
 | d + 1,i=>if p (bt s i)=true then whileFrom p s d (i + 1) else i
def whileS (p:Int → Bool) (s:ByteArray) (i:Nat):Nat:=whileFrom p s (s.size - i) i
theorem bt_atN' (s:ByteArray) (k:Nat):∀ h:k < s.size,((s[k]'h).toNat:Int)=bt s (k:Int):=fun h=>by simp [bt,h]
theorem whileS_end (p:Int → Bool) (s:ByteArray) (i:Nat) (h:s.size ≤ i):whileS p s i=i:=by unfold whileS;rw [show s.size - i=0 from by omega];rfl
theorem whileS_step (p:Int → Bool) (s:ByteArray) (i:Nat) (h:i < s.size):whileS p s i=if p (bt s i)=true then whileS p s (i + 1) else i:=by
 unfold whileS
 rw [show s.size - i=(s.size - (i + 1)) + 1 from by omega];rfl
set_option maxHeartbeats 4000000 in
theorem tokens_while_digit.calls (g:Nat) (s:ByteArray) (a0:Int) (at_:Nat) (w:World) (hS:Scan w g s a0) (hs:s.size ≤ 140737488351232) (ha:at_ ≤ s.size) :
  Calls Tryz.prog 98 #[.pointer (some ⟨g,0,none⟩),.int .i64 at_,.func (.func 100) #[] #[]] w fun e w'=>e = .returned (.int .i64 (whileS isDigit s at_:Nat)) ∧ w=w':=by
 obtain ⟨n,hn⟩:∃ n,n=whileS isDigit s at_:=⟨_,rfl⟩
 rw [← hn]
 have HN:=Aside0.mk hn
 have h0:=hS.c0
 clear hn
 go_enter Tryz.func98,Tryz.ntmps98
 go_wp2
 go_loop [1] (fun i=>∃ k:Nat,i = .int .i64 k ∧ k ≤ s.size ∧ n=whileS isDigit s k) (fun i=>s.size - (intOf i).toNat)
 case atStart=>exact ⟨at_,rfl,ha,HN.out⟩
 case round =>
  obtain ⟨k,rfl,hk,hq⟩:=hrel
  have HQ:=Aside0.mk hq
  clear hq
  by_cases hlt:k < s.size
  ·have hlt':decide ((k:Int) < (s.size:Int))=true:=decide_eq_true (by omega)
   have hbt:=bt_atN' s k
   obtain ⟨c,hc⟩:∃ c,c=bt s (k:Int):=⟨_,rfl⟩
   rw [← hc] at hbt
   have HC:=Aside0.mk hc
   have D:=digit_same c
   have HD:=Aside0.mk D
   clear D hc
   cases hd:isDigit c
   ·have hd':(isDigit c)=false:=hd
    rw [hd'] at HD
    have e:n=k:=by rw [HQ.out,whileS_step _ s k hlt,if_neg (by rw [← HC.out,hd];simp)]
    clear hd hd'
    have HE:=Aside0.mk e
    clear e
    go_wp2_with (go_at_call 100;(with_reducible refine (HD.out _).mono ?_);rintro e w' ⟨rfl,rfl⟩)
    go_ret
    exact ⟨by rw [HE.out] <;> rfl,rfl⟩
   ·have hd':(isDigit c)=true:=hd
    rw [hd'] at HD
    have e:n=whileS isDigit s (k + 1):=by rw [HQ.out,whileS_step _ s k hlt,if_pos (by rw [← HC.out,hd])]
    clear hd hd'
    have HE:=Aside0.mk e
    clear e
    go_wp2_with (go_at_call 100;(with_reducible refine (HD.out _).mono ?_);rintro e w' ⟨rfl,rfl⟩)
    go_round
    case rel=>exact ⟨k + 1,by go_num,by omega,HE.out⟩
    case measure=>simp [intOf];omega
  ·obtain rfl:k=s.size:=by omega
   have hlt':decide ((s.size:Int) < (s.size:Int))=false:=decide_eq_false (by omega)
   have e:n=s.size:=by rw [HQ.out,whileS_end _ s _ (Nat.le_refl _)]
   have HE:=Aside0.mk e
   clear e
   go_wp2
   go_ret
   exact ⟨by rw [HE.out] <;> rfl,rfl⟩
set_option maxHeartbeats 4000000 in
theorem tokens_while_name.calls (g:Nat) (s:ByteArray) (a0:Int) (at_:Nat) (w:World) (hS:Scan w g s a0) (hs:s.size ≤ 140737488351232) (ha:at_ ≤ s.size) :
  Calls Tryz.prog 98 #[.pointer (some ⟨g,0,none⟩),.int .i64 at_,.func (.func 99) #[] #[]] w fun e w'=>e = .returned (.int .i64 (whileS isName s at_:Nat)) ∧ w=w':=by
 obtain ⟨n,hn⟩:∃ n,n=whileS isName s at_:=⟨_,rfl⟩
 rw [← hn]
 have HN:=Aside0.mk hn
 have h0:=hS.c0
 clear hn
 go_enter Tryz.func98,Tryz.ntmps98
 go_wp2
 go_loop [1] (fun i=>∃ k:Nat,i = .int .i64 k ∧ k ≤ s.size ∧ n=whileS isName s k) (fun i=>s.size - (intOf i).toNat)
 case atStart=>exact ⟨at_,rfl,ha,HN.out⟩
 case round =>
  obtain ⟨k,rfl,hk,hq⟩:=hrel
  have HQ:=Aside0.mk hq
  clear hq
  by_cases hlt:k < s.size
  ·have hlt':decide ((k:Int) < (s.size:Int))=true:=decide_eq_true (by omega)
   have hbt:=bt_atN' s k
   obtain ⟨c,hc⟩:∃ c,c=bt s (k:Int):=⟨_,rfl⟩
   rw [← hc] at hbt
   have HC:=Aside0.mk hc
   have D:=name_same c
   have HD:=Aside0.mk D
   clear D hc
   cases hd:isName c
   ·have hd':isName c=false:=hd
    rw [hd'] at HD
    have e:n=k:=by rw [HQ.out,whileS_step _ s k hlt,if_neg (by rw [← HC.out,hd];simp)]
    clear hd hd'
    have HE:=Aside0.mk e
    clear e
    go_wp2_with (go_at_call 99;(with_reducible refine (HD.out _).mono ?_);rintro e w' ⟨rfl,rfl⟩)
    go_ret
    exact ⟨by rw [HE.out] <;> rfl,rfl⟩
   ·have hd':isName c=true:=hd
    rw [hd'] at HD
    have e:n=whileS isName s (k + 1):=by rw [HQ.out,whileS_step _ s k hlt,if_pos (by rw [← HC.out,hd])]
    clear hd hd'
    have HE:=Aside0.mk e
    clear e
    go_wp2_with (go_at_call 99;(with_reducible refine (HD.out _).mono ?_);rintro e w' ⟨rfl,rfl⟩)
    go_round
    case rel=>exact ⟨k + 1,by go_num,by omega,HE.out⟩
    case measure=>simp [intOf];omega
  ·obtain rfl:k=s.size:=by omega
   have hlt':decide ((s.size:Int) < (s.size:Int))=false:=decide_eq_false (by omega)
   have e:n=s.size:=by rw [HQ.out,whileS_end _ s _ (Nat.le_refl _)]
   have HE:=Aside0.mk e
   clear e
   go_wp2
   go_ret
   exact ⟨by rw [HE.out] <;> rfl,rfl⟩
structure Only (g:Nat) (w w':World):Prop where
 os:w'.os=w.os
 tape:w'.tape=w.tape
 output:w'.output=w.output
 size:w.heap.size ≤ w'.heap.size
 block:∀ k,k < w.heap.size → k ≠ g → w'.heap[k]? = w.heap[k]?
theorem Only.refl (g:Nat) (w:World):Only g w w:=⟨rfl,rfl,rfl,Nat.le_refl _,fun _ _ _=>rfl⟩
theorem Only.trans {g:Nat} {a b c:World} (h:Only g a b) (k:Only g b c):Only g a c :=
 ⟨k.os.trans h.os,k.tape.trans h.tape,k.output.trans h.output,Nat.le_trans h.size k.size,fun i hi hg=>(k.block i (Nat.lt_of_lt_of_le hi h.size) hg).trans (h.block i hi hg)⟩
theorem Only.of_below {g:Nat} {w w':World} (h:Below w.heap.size w w'):Only g w w':=⟨h.os,h.tape,h.output,h.size,fun k hk _=>h.block k hk⟩
theorem Only.drewN {g:Nat} {w w':World} (h:Only g w w') (n:Nat):Only g w (w'.drewN n):=⟨h.os,h.tape,h.output,h.size,h.block⟩
theorem Only.drew {g:Nat} {w w':World} (h:Only g w w'):Only g w w'.drew:=⟨h.os,h.tape,h.output,h.size,h.block⟩
theorem Only.alloc {g:Nat} {w w':World} (h:Only g w w') (o:Obj):Only g w (w'.alloc o):=h.trans (.of_below ((Below.refl _ _).alloc (Nat.le_refl _) o))
theorem Only.set {g:Nat} {w w':World} (h:Only g w w') (j:Nat) (v:Value):Only g w (w'.setCell ⟨g,j,none⟩ v) :=
 h.trans ⟨rfl,rfl,rfl,by simp [World.setCell],fun k _ hg=>Below.heap_setCell w' ⟨g,j,none⟩ v k hg⟩
theorem Only.far {g:Nat} {w w':World} (h:Only g w w') {p:Addr} (hp:w.heap.size ≤ p.block) (v:Value):Only g w (w'.setCell p v) :=
 ⟨h.os,h.tape,h.output,by simpa [World.setCell] using h.size,fun k hk hg=>(Below.heap_setCell w' p v k (by omega)).trans (h.block k hk hg)⟩
theorem Only.below {g:Nat} {w w':World} (h:Only g w w') {B:Nat} (hg:B ≤ g) (hB:B ≤ w.heap.size):Below B w w':=⟨h.os,h.tape,h.output,h.size,fun k hk=>h.block k (by omega) (by omega)⟩
theorem Only.blk {g:Nat} {w w':World} (h:Only g w w') {b:Nat} {o:Obj} (hb:w.heap[b]? = some o) (hne:b ≠ g):w'.heap[b]? = some o:=(h.block b (blk_lt hb) hne).trans hb
theorem Only.scan {g:Nat} {w w':World} {s:ByteArray} {a:Int} (h:Only g w w') {b:Nat} (hS:Scan w b s a) (hne:b ≠ g):Scan w' b s a:=⟨h.blk hS.blk hne⟩
def isBlk (c:Int):Bool:=c == 32 || c == 9 || c == 13 || c == 10
end Go.Proofs.YtjapfefiaijfcaaGreatDoor.Q
namespace Go.Proofs.YtjapfefiaijfcaaGreatDoor.Q
open Go.RowKit Go.Proofs.YtjapfefiaijfcaaGreatDoorW.PrintWords Go.Proofs.YtjapfefiaijfcaaGreatDoorW.PrintLast Go.Proofs.YtjapfefiaijfcaaGreatDoorW.PrintMore
set_option linter.unusedVariables false
theorem S24.lt_args (x:S24):SizeOf.sizeOf x.f3 < SizeOf.sizeOf x:=by
 cases x;simp only [S24.mk.sizeOf_spec];omega
theorem S24.lt_mem {x y:S24} (h:y ∈ x.f3):SizeOf.sizeOf y < SizeOf.sizeOf x:=by
 have:=List.sizeOf_lt_of_mem h;have:=x.lt_args;omega
def szT (x:S24):Nat:=1 + (x.f3.attach.map (fun ⟨y,hy⟩=>szT y)).sum
termination_by SizeOf.sizeOf x
decreasing_by exact S24.lt_mem hy
theorem szT_eq (x:S24):szT x=1 + (x.f3.map szT).sum:=by
 rw [szT]
 congr 2
 simp
theorem szT_pos (x:S24):1 ≤ szT x:=by rw [szT_eq];omega
theorem sum_mem {l:List Nat} {n:Nat} (h:n ∈ l):n ≤ l.sum:=by
 induction l with
 | nil=>cases h
 | cons a l ih =>
  rw [List.sum_cons]
  rcases List.mem_cons.1 h with rfl | h
  ·omega
  ·have:=ih h;omega
theorem szT_mem {x y:S24} (h:y ∈ x.f3):szT y < szT x:=by
 rw [szT_eq x]
 have:=sum_mem (List.mem_map_of_mem (f:=szT) h)
 omega
theorem szT_len (x:S24):x.f3.length < szT x:=by
 rw [szT_eq]
 have:∀ l:List S24,l.length ≤ (l.map szT).sum:=fun l=>by
  induction l with
  | nil=>simp
  | cons a l ih =>
   rw [List.map_cons,List.sum_cons,List.length_cons]
   have:=szT_pos a
   omega
 have:=this x.f3
 omega
def headT (op:Int) (t:ByteArray) (k:Int) (n:Nat):Bool :=
 if op=1 then k == 0 && decide ((n:Int)=0) else if op=2 ∨ op=3 then t.toList == [] && (k == 0 && decide ((n:Int)=2)) else if op=4 then t.toList == [] && (decide (1 ≤ k) && decide (k ≤ (n:Int))) else false
def okT (x:S24):Bool:=headT x.f0 x.f1 x.f2 x.f3.length && x.f3.attach.all (fun ⟨y,hy⟩=>okT y)
termination_by SizeOf.sizeOf x
decreasing_by exact S24.lt_mem hy
theorem okT_eq (x:S24):okT x=(headT x.f0 x.f1 x.f2 x.f3.length && x.f3.all okT):=by
 rw [okT]
 congr 1
 simp
theorem rd_nat {xs:List S24} {k:Nat} (h:k < xs.length):rd_T24 xs (k:Int)=xs[k]:=by
 simp [rd_T24,h]
def errT (x:S24):Int:=if okT x=true then 0 else 151
end Go.Proofs.YtjapfefiaijfcaaGreatDoor.Q
namespace Go.Proofs.YtjapfefiaijfcaaGreatDoor.Q
open Go.RowKit Go.Proofs.YtjapfefiaijfcaaGreatDoorW.PrintWords Go.Proofs.YtjapfefiaijfcaaGreatDoorW.PrintLast Go.Proofs.YtjapfefiaijfcaaGreatDoorW.PrintMore
attribute [local go_sem] max2_int min2_int max_two min_two max_three min_three max_four min_four
set_option linter.unusedVariables false
set_option linter.unusedSimpArgs false
def vouchref19_number.f:Nat → Int → Option (ByteArray)
 | 0,_=>none
 | k + 1,a0=>if a0 < 10 then (some (strOfNums (([(48 + ((a0) % 256)) % 256]:List Int)))) else ((vouchref19_number.f k (wrap64 (Int.tdiv a0 10))).bind fun t411=>((some (([(48 + ((Int.tmod a0 10) % 256)) % 256]:List Int):List Int)).bind fun y412=>(if t411.size + (strOfNums y412).size ≤ 9223372036854775807 then (some (t411 ++ (strOfNums y412))) else (none))))
def vouchref19_number.T3:Bool × List (List Nat × List Nat):=(true,[([],[]),([0],[0]),([1],[1]),([],[]),([3],[3]),([4],[4]),([5],[5]),([6],[6]),([7],[7]),([2,8],[2,8]),([9,2,0,1,2,3,4,5,6,7,8,9],[9])])
def vouchref19_number.B3:List Nat:=[0,1,3,0,8,24,56,120,248,511,1023]
theorem vouchref19_number.tab3:rtab .any (opsOf Tryz.f40 3)=vouchref19_number.T3:=by kernel_rfl
theorem vouchref19_number.bits3:waitsOk vouchref19_number.T3.2 vouchref19_number.B3=true:=by kernel_rfl
set_option maxHeartbeats 8000000 in
set_option maxRecDepth 100000 in
theorem vouchref19_number.calls (k:Nat):∀ (a0:Int) (r:ByteArray) (w:World) (h:vouchref19_number.f k a0=some r),
  Calls Tryz.prog 40 #[.int .i64 a0] w fun e w'=>e = .returned (.string r) ∧ Below w.heap.size w w':=by
 induction k using Nat.strongRecOn with
 | _ k ih =>
 intro a0 r w h
 cases k with
 | zero=>exact absurd h (by simp [vouchref19_number.f])
 | succ k =>
 simp only [vouchref19_number.f] at h
 have HB:=Aside0.mk (Below.refl w.heap.size w)
 have H:(if a0 < 10 then (some (strOfNums (([(48 + ((a0) % 256)) % 256]:List Int)))) else ((vouchref19_number.f k (wrap64 (Int.tdiv a0 10))).bind fun t411=>((some (([(48 + ((Int.tmod a0 10) % 256)) % 256]:List Int):List Int)).bind fun y412=>(if t411.size + (strOfNums y412).size ≤ 9223372036854775807 then (some (t411 ++ (strOfNums y412))) else (none)))))=some r:=h
 clear h
 by_cases c2:a0 < 10
 ·rw [if_pos c2] at H
  have c2b0:decide (a0 < 10)=true:=decide_eq_true c2
  clear c2
  obtain ⟨y408,hy408⟩:∃ y_:List Int,y_=(([(48 + ((a0) % 256)) % 256]:List Int)):=⟨_,rfl⟩
  replace H:(some (strOfNums y408))=some r:=by first | (rw [hy408];with_reducible exact H) | (have H2_:=(Option.bind_some _ _).symm.trans H;rw [hy408];with_reducible exact H2_) | (have H2_:=(Option.bind_some _ _).symm.trans H;with_reducible exact H2_) | with_reducible exact H | (rw [hy408];exact H) | exact H
  have Ny408:=Aside0.mk hy408
  clear hy408
  obtain rfl:=Option.some.inj H
  go_enter Tryz.func40,Tryz.ntmps40
  go_wp2_with (first | ((with_reducible refine gate_dst (N:=8) rfl ?_);refine Kd.R_lit (Kd.int .u8) _ 5 ?hg (N:=8) ?hd (xs:=([(48 + ((a0) % 256)) % 256]:List Int)) (inner:=[.int .u8 ((48 + ((a0) % 256)) % 256)]) (ok:=fun _=>True) (okp:=fun _=>True) ?hr ?hp (fun _ hk=>hk) trivial (Below.refl _ _) (Nat.le_refl _) (by simp) ?_;(case hd=>rfl);(case hg=>rfl);(case hr=>first | (go_simp;done) | (go_simp;rfl) | (go_simp;simp [IntKind.wrap,IntKind.bits,IntKind.signed]));(case hp=>exact (Reps.one (show Kd.M (Kd.int .u8) _ _ _ ((48 + ((a0) % 256)) % 256) [.int .u8 ((48 + ((a0) % 256)) % 256)] from rfl) (Reps.none _ _)));intro v409 w3 ho4 hb hg_ hnew_;clear hg_ hnew_;(first | rw [← Ny408.out] at ho4 | (simp only [Int.reduceToNat] at ho4;rw [← Ny408.out] at ho4));have n0_:=Aside0.mk (Kd.R_lower ho4 (below_size (by repeat (first | (with_reducible first | exact HB.out | apply below_alloc | apply pw_below_drewN | apply below_drew1) | exact HB.out))));have n1_:=Aside0.mk (below_step (by repeat (first | (with_reducible first | exact HB.out | apply below_alloc | apply pw_below_drewN | apply below_drew1) | exact HB.out)) hb);clear HB;have HO410:=n0_;have HB:=n1_;clear n0_ n1_;clear hb ho4;have hcv5:=own_string (P:=Tryz.prog) Tryz.underlying48 Tryz.underlying5 Tryz.underlying9 (Kd.own_of_R HO410.out)))
  go_ret
  exact ⟨by first | rfl | (simp [errW_none,errW_some] <;> rfl) | (simp [*,errW_none,errW_some] <;> rfl),by repeat (first | (with_reducible first | exact HB.out | apply below_alloc | apply pw_below_drewN | apply below_drew1) | exact HB.out)⟩
 ·rw [if_neg c2] at H
  have c2b0:decide (a0 < 10)=false:=decide_eq_false c2
  clear c2
  replace H:=Option.bind_eq_some_iff.mp H
  obtain ⟨t411,A60,H⟩:=H
  replace H:((some (([(48 + ((Int.tmod a0 10) % 256)) % 256]:List Int):List Int)).bind fun y412=>(if t411.size + (strOfNums y412).size ≤ 9223372036854775807 then (some (t411 ++ (strOfNums y412))) else (none)))=some r:=H
  have A6:=Aside0.mk A60
  clear A60
  obtain ⟨y412,hy412⟩:∃ y_:List Int,y_=(([(48 + ((Int.tmod a0 10) % 256)) % 256]:List Int)):=⟨_,rfl⟩
  replace H:(if t411.size + (strOfNums y412).size ≤ 9223372036854775807 then (some (t411 ++ (strOfNums y412))) else (none))=some r:=by first | (rw [hy412];with_reducible exact H) | (have H2_:=(Option.bind_some _ _).symm.trans H;rw [hy412];with_reducible exact H2_) | (have H2_:=(Option.bind_some _ _).symm.trans H;with_reducible exact H2_) | with_reducible exact H | (rw [hy412];exact H) | exact H
  have Ny412:=Aside0.mk hy412
  clear hy412
  by_cases c7:t411.size + (strOfNums y412).size ≤ 9223372036854775807
  ·rw [if_pos c7] at H
   have c7b0:=eq_true c7
   have c7b1:decide (t411.size + (strOfNums y412).size ≤ 9223372036854775807)=true:=decide_eq_true c7
   try have c7b2:(9223372036854775807 < t411.size + (strOfNums y412).size)=False:=eq_false (Nat.not_lt.2 c7)
   obtain rfl:=Option.some.inj H
   go_enter Tryz.func40,Tryz.ntmps40
   try go_wp2
   have n0_:=Aside0.mk (below_drew1 HB.out)
   clear HB
   have HB:=n0_
   clear n0_
   refine start_ (n:=11) (S:=fun w'=>True) (ds:=[]) #[false,false,false,false,false,false,false,false,false,false,false] (by kernel_rfl) rfl rfl trivial (fun hHeld=>?_);refine with_tabW vouchref19_number.tab3 vouchref19_number.bits3 (fun HT_ HW_=>?_)
   generalize w.drew=w8 at HB hHeld ⊢
   refine pure_ (i:=0) (N:=some 10) (v:=?_) (a':=?_) #[true,false,false,false,false,false,false,false,false,false,false] rfl rfl (any_of HT_.out (by kernel_rfl)) (fun _ _ _ h=>h) (Or.inl ⟨by rfl,?_⟩) ?_ ?_
   rotate_left
   ·intro w'
    go_simp
    with_reducible rfl
   rotate_left
   ·simp only [Act.put,List.setIfInBounds_toArray,List.set_cons_zero,List.set_cons_succ,i64_w,i32_w]
    rfl
   refine pure_ (i:=1) (N:=some 11) (v:=?_) (a':=?_) #[true,true,false,false,false,false,false,false,false,false,false] rfl rfl (any_of HT_.out (by kernel_rfl)) (fun _ _ _ h=>h) (Or.inl ⟨by rfl,?_⟩) ?_ ?_
   rotate_left
   ·intro w'
    go_simp
    with_reducible rfl
   rotate_left
   ·simp only [Act.put,List.setIfInBounds_toArray,List.set_cons_zero,List.set_cons_succ,i64_w,i32_w]
    rfl
   refine pure_ (i:=3) (N:=some 13) (v:=?_) (a':=?_) #[true,true,false,true,false,false,false,false,false,false,false] rfl rfl (any_of HT_.out (by kernel_rfl)) (fun _ _ _ h=>h) (Or.inl ⟨by rfl,?_⟩) ?_ ?_
   rotate_left
   ·intro w'
    go_simp
    with_reducible rfl
   rotate_left
   ·simp only [Act.put,List.setIfInBounds_toArray,List.set_cons_zero,List.set_cons_succ,i64_w,i32_w]
    rfl
   refine pure_ (i:=4) (N:=some 14) (v:=?_) (a':=?_) #[true,true,false,true,true,false,false,false,false,false,false] rfl rfl (any_of HT_.out (by kernel_rfl)) (fun _ _ _ h=>h) (Or.inl ⟨by rfl,?_⟩) ?_ ?_
   rotate_left
   ·intro w'
    go_simp
    with_reducible rfl
   rotate_left
   ·simp only [Act.put,List.setIfInBounds_toArray,List.set_cons_zero,List.set_cons_succ,i64_w,i32_w]
    rfl
   refine pure_ (i:=5) (N:=some 15) (v:=?_) (a':=?_) #[true,true,false,true,true,true,false,false,false,false,false] rfl rfl (any_of HT_.out (by kernel_rfl)) (fun _ _ _ h=>h) (Or.inl ⟨by rfl,?_⟩) ?_ ?_
   rotate_left
   ·intro w'
    go_simp
    with_reducible rfl
   rotate_left
   ·simp only [Act.put,List.setIfInBounds_toArray,List.set_cons_zero,List.set_cons_succ,i64_w,i32_w]
    rfl
   refine pure_ (i:=6) (N:=some 16) (v:=?_) (a':=?_) #[true,true,false,true,true,true,true,false,false,false,false] rfl rfl (any_of HT_.out (by kernel_rfl)) (fun _ _ _ h=>h) (Or.inl ⟨by rfl,?_⟩) ?_ ?_
   rotate_left
   ·intro w'
    go_simp
    with_reducible rfl
   rotate_left
   ·simp only [Act.put,List.setIfInBounds_toArray,List.set_cons_zero,List.set_cons_succ,i64_w,i32_w]
    rfl
   refine join_ (σ:=Value) 2 #[true,true,true,true,true,true,true,true,true,false,false] (fun s_=>[(12,.string t411),(17,s_),(18,.string (strOfNums y412))]) (fun s_ w'=>(Kd.R (Kd.int .u8) 5 w' w.heap.size (fun _=>True) s_ y412) ∧ (Below w.heap.size w w')) ?_ ?_
   rotate_left
   ·intro hCont
    refine two_ (i:=2) (j:=7) (Ni:=some 12) (Nj:=some 17) #[true,true,true,true,true,true,true,false,false,false,false] #[true,true,false,true,true,true,true,true,false,false,false] rfl rfl rfl rfl (two_of HT_.out (by kernel_rfl)) (by decide) (by decide) (fun K hK=>?_) (fun K hK=>?_)
    ·skip
     refine goes_ Tryz.func40 (by kernel_rfl) rfl #[.int .i64 (wrap64 (Int.tdiv a0 10))] (by rfl) rfl rfl (by (try simp only [List.map_toArray,List.map_cons,List.map_nil]);first | done | rfl | (simp only [List.length_drop,List.length_take];rfl)) ?_
     with_reducible refine (ih k (by omega) (wrap64 (Int.tdiv a0 10)) t411 _ A6.out).mono ?_
     rintro e w9 ⟨rfl,hb⟩
     refine ⟨_,rfl,?_⟩
     have n0_:=Aside0.mk (below_step (by repeat (first | (with_reducible first | exact HB.out | apply below_alloc | apply pw_below_drewN | apply below_drew1) | exact HB.out)) hb)
     clear HB
     have HB:=n0_
     clear n0_
     (try clear hb)
     (try clear hb2)
     (try clear hk)
     (try clear hi)
     refine hK.out _ _ trivial (fun hHeld=>?_)
     clear hK K
     refine norm_ (a':=?_) ?_ ?_
     rotate_left
     ·show Act.put _ (some 12) _=_
      simp only [Act.put,List.setIfInBounds_toArray,List.set_cons_zero,List.set_cons_succ,i64_w,i32_w]
      rfl
     refine one_ (i:=7) (N:=some 17) #[true,true,true,true,true,true,true,true,false,false,false] rfl rfl (one_of HT_.out (by kernel_rfl)) (by decide) (fun K hK=>?_)
     refine Kd.R_lit_step (Kd.int .u8) _ 5 ?hg (N:=17) ?hd (xs:=([(48 + ((Int.tmod a0 10) % 256)) % 256]:List Int)) (inner:=[.int .u8 ((48 + ((Int.tmod a0 10) % 256)) % 256)]) (ok:=fun _=>True) (okp:=fun _=>True) ?hr ?hp (fun _ hk=>hk) trivial (Below.refl _ _) (Nat.le_refl _) (by simp) ?_;(case hd=>rfl);(case hg=>rfl);(case hr=>first | (go_simp;done) | (go_simp;rfl) | (go_simp;simp [IntKind.wrap,IntKind.bits,IntKind.signed]));(case hp=>exact (Reps.one (show Kd.M (Kd.int .u8) _ _ _ ((48 + ((Int.tmod a0 10) % 256)) % 256) [.int .u8 ((48 + ((Int.tmod a0 10) % 256)) % 256)] from rfl) (Reps.none _ _)))
     intro v413 w10 ho11 hb hg_ hnew_
     clear hg_ hnew_
     (first | rw [← Ny412.out] at ho11 | (simp only [Int.reduceToNat] at ho11;rw [← Ny412.out] at ho11))
     have n0_:=Aside0.mk (Kd.R_lower ho11 (below_size (by repeat (first | (with_reducible first | exact HB.out | apply below_alloc | apply pw_below_drewN | apply below_drew1) | exact HB.out))))
     have n1_:=Aside0.mk (below_step (by repeat (first | (with_reducible first | exact HB.out | apply below_alloc | apply pw_below_drewN | apply below_drew1) | exact HB.out)) hb)
     clear HB
     have HO414:=n0_
     have HB:=n1_
     clear n0_ n1_
     clear hb ho11
     refine hK.out _ _ trivial (fun hHeld=>?_)
     clear hK K
     refine norm_ (a':=?_) ?_ ?_
     rotate_left
     ·show Act.put _ (some 17) _=_
      simp only [Act.put,List.setIfInBounds_toArray,List.set_cons_zero,List.set_cons_succ,i64_w,i32_w]
      rfl
     refine one_ (i:=8) (N:=some 18) #[true,true,true,true,true,true,true,true,true,false,false] rfl rfl (one_of HT_.out (by kernel_rfl)) (by decide) (fun K hK=>?_)
     have hcv12:=own_string (P:=Tryz.prog) Tryz.underlying48 Tryz.underlying5 Tryz.underlying9 (Kd.own_of_R HO414.out)
     refine value_ (w1:=?_) (v:=?_) (by rfl) rfl ?_ ?_
     rotate_left 2
     ·go_simp
      constructor
      ·rfl
      ·rfl
     clear hcv12
     refine hK.out _ _ trivial (fun hHeld=>?_)
     clear hK K
     refine norm_ (a':=?_) ?_ ?_
     rotate_left
     ·show Act.put _ (some 18) _=_
      simp only [Act.put,List.setIfInBounds_toArray,List.set_cons_zero,List.set_cons_succ,i64_w,i32_w]
      rfl
     exact norm_ (by simp only [putAll,Act.put,List.setIfInBounds_toArray,List.set_cons_zero,List.set_cons_succ]) (hCont (v413) _ ⟨(by (with_reducible repeat (first | apply Kd.R_alloc | apply Kd.R_drewN | apply Kd.R_drew));exact HO414.out),(by repeat (first | (with_reducible first | exact HB.out | apply below_alloc | apply pw_below_drewN | apply below_drew1) | exact HB.out))⟩)
    ·skip
     refine Kd.R_lit_step (Kd.int .u8) _ 5 ?hg (N:=17) ?hd (xs:=([(48 + ((Int.tmod a0 10) % 256)) % 256]:List Int)) (inner:=[.int .u8 ((48 + ((Int.tmod a0 10) % 256)) % 256)]) (ok:=fun _=>True) (okp:=fun _=>True) ?hr ?hp (fun _ hk=>hk) trivial (Below.refl _ _) (Nat.le_refl _) (by simp) ?_;(case hd=>rfl);(case hg=>rfl);(case hr=>first | (go_simp;done) | (go_simp;rfl) | (go_simp;simp [IntKind.wrap,IntKind.bits,IntKind.signed]));(case hp=>exact (Reps.one (show Kd.M (Kd.int .u8) _ _ _ ((48 + ((Int.tmod a0 10) % 256)) % 256) [.int .u8 ((48 + ((Int.tmod a0 10) % 256)) % 256)] from rfl) (Reps.none _ _)))
     intro v413 w9 ho10 hb hg_ hnew_
     clear hg_ hnew_
     (first | rw [← Ny412.out] at ho10 | (simp only [Int.reduceToNat] at ho10;rw [← Ny412.out] at ho10))
     have n0_:=Aside0.mk (Kd.R_lower ho10 (below_size (by repeat (first | (with_reducible first | exact HB.out | apply below_alloc | apply pw_below_drewN | apply below_drew1) | exact HB.out))))
     have n1_:=Aside0.mk (below_step (by repeat (first | (with_reducible first | exact HB.out | apply below_alloc | apply pw_below_drewN | apply below_drew1) | exact HB.out)) hb)
     clear HB
     have HO414:=n0_
     have HB:=n1_
     clear n0_ n1_
     clear hb ho10
     refine hK.out _ _ trivial (fun hHeld=>?_)
     clear hK K
     refine norm_ (a':=?_) ?_ ?_
     rotate_left
     ·show Act.put _ (some 17) _=_
      simp only [Act.put,List.setIfInBounds_toArray,List.set_cons_zero,List.set_cons_succ,i64_w,i32_w]
      rfl
     refine two_ (i:=2) (j:=8) (Ni:=some 12) (Nj:=some 18) #[true,true,true,true,true,true,true,true,false,false,false] #[true,true,false,true,true,true,true,true,true,false,false] rfl rfl rfl rfl (two_of HT_.out (by kernel_rfl)) (by decide) (by decide) (fun K hK=>?_) (fun K hK=>?_)
     ·skip
      refine goes_ Tryz.func40 (by kernel_rfl) rfl #[.int .i64 (wrap64 (Int.tdiv a0 10))] (by rfl) rfl rfl (by (try simp only [List.map_toArray,List.map_cons,List.map_nil]);first | done | rfl | (simp only [List.length_drop,List.length_take];rfl)) ?_
      with_reducible refine (ih k (by omega) (wrap64 (Int.tdiv a0 10)) t411 _ A6.out).mono ?_
      rintro e w11 ⟨rfl,hb⟩
      refine ⟨_,rfl,?_⟩
      have n0_:=Aside0.mk (Kd.R_below (by (with_reducible repeat (first | apply Kd.R_alloc | apply Kd.R_drewN | apply Kd.R_drew));exact HO414.out) hb)
      have n1_:=Aside0.mk (below_step (by repeat (first | (with_reducible first | exact HB.out | apply below_alloc | apply pw_below_drewN | apply below_drew1) | exact HB.out)) hb)
      clear HO414
      clear HB
      have HO414:=n0_
      have HB:=n1_
      clear n0_ n1_
      (try clear hb)
      (try clear hb2)
      (try clear hk)
      (try clear hi)
      refine hK.out _ _ trivial (fun hHeld=>?_)
      clear hK K
      refine norm_ (a':=?_) ?_ ?_
      rotate_left
      ·show Act.put _ (some 12) _=_
       simp only [Act.put,List.setIfInBounds_toArray,List.set_cons_zero,List.set_cons_succ,i64_w,i32_w]
       rfl
      refine one_ (i:=8) (N:=some 18) #[true,true,true,true,true,true,true,true,true,false,false] rfl rfl (one_of HT_.out (by kernel_rfl)) (by decide) (fun K hK=>?_)
      have hcv12:=own_string (P:=Tryz.prog) Tryz.underlying48 Tryz.underlying5 Tryz.underlying9 (Kd.own_of_R HO414.out)
      refine value_ (w1:=?_) (v:=?_) (by rfl) rfl ?_ ?_
      rotate_left 2
      ·go_simp
       constructor
       ·rfl
       ·rfl
      clear hcv12
      refine hK.out _ _ trivial (fun hHeld=>?_)
      clear hK K
      refine norm_ (a':=?_) ?_ ?_
      rotate_left
      ·show Act.put _ (some 18) _=_
       simp only [Act.put,List.setIfInBounds_toArray,List.set_cons_zero,List.set_cons_succ,i64_w,i32_w]
       rfl
      exact norm_ (by simp only [putAll,Act.put,List.setIfInBounds_toArray,List.set_cons_zero,List.set_cons_succ]) (hCont (v413) _ ⟨(by (with_reducible repeat (first | apply Kd.R_alloc | apply Kd.R_drewN | apply Kd.R_drew));exact HO414.out),(by repeat (first | (with_reducible first | exact HB.out | apply below_alloc | apply pw_below_drewN | apply below_drew1) | exact HB.out))⟩)
     ·skip
      have hcv11:=own_string (P:=Tryz.prog) Tryz.underlying48 Tryz.underlying5 Tryz.underlying9 (Kd.own_of_R HO414.out)
      refine value_ (w1:=?_) (v:=?_) (by rfl) rfl ?_ ?_
      rotate_left 2
      ·go_simp
       constructor
       ·rfl
       ·rfl
      clear hcv11
      refine hK.out _ _ trivial (fun hHeld=>?_)
      clear hK K
      refine norm_ (a':=?_) ?_ ?_
      rotate_left
      ·show Act.put _ (some 18) _=_
       simp only [Act.put,List.setIfInBounds_toArray,List.set_cons_zero,List.set_cons_succ,i64_w,i32_w]
       rfl
      refine one_ (i:=2) (N:=some 12) #[true,true,true,true,true,true,true,true,true,false,false] rfl rfl (one_of HT_.out (by kernel_rfl)) (by decide) (fun K hK=>?_)
      refine goes_ Tryz.func40 (by kernel_rfl) rfl #[.int .i64 (wrap64 (Int.tdiv a0 10))] (by rfl) rfl rfl (by (try simp only [List.map_toArray,List.map_cons,List.map_nil]);first | done | rfl | (simp only [List.length_drop,List.length_take];rfl)) ?_
      with_reducible refine (ih k (by omega) (wrap64 (Int.tdiv a0 10)) t411 _ A6.out).mono ?_
      rintro e w12 ⟨rfl,hb⟩
      refine ⟨_,rfl,?_⟩
      have n0_:=Aside0.mk (Kd.R_below (by (with_reducible repeat (first | apply Kd.R_alloc | apply Kd.R_drewN | apply Kd.R_drew));exact HO414.out) hb)
      have n1_:=Aside0.mk (below_step (by repeat (first | (with_reducible first | exact HB.out | apply below_alloc | apply pw_below_drewN | apply below_drew1) | exact HB.out)) hb)
      clear HO414
      clear HB
      have HO414:=n0_
      have HB:=n1_
      clear n0_ n1_
      (try clear hb)
      (try clear hb2)
      (try clear hk)
      (try clear hi)
      refine hK.out _ _ trivial (fun hHeld=>?_)
      clear hK K
      refine norm_ (a':=?_) ?_ ?_
      rotate_left
      ·show Act.put _ (some 12) _=_
       simp only [Act.put,List.setIfInBounds_toArray,List.set_cons_zero,List.set_cons_succ,i64_w,i32_w]
       rfl
      exact norm_ (by simp only [putAll,Act.put,List.setIfInBounds_toArray,List.set_cons_zero,List.set_cons_succ]) (hCont (v413) _ ⟨(by (with_reducible repeat (first | apply Kd.R_alloc | apply Kd.R_drewN | apply Kd.R_drew));exact HO414.out),(by repeat (first | (with_reducible first | exact HB.out | apply below_alloc | apply pw_below_drewN | apply below_drew1) | exact HB.out))⟩)
   rintro v413 w13 ⟨h0_,h1_⟩
   have n0_:Aside0 (Kd.R (Kd.int .u8) 5 w13 w.heap.size (fun _=>True) v413 y412):=⟨h0_⟩
   have n1_:Aside0 (Below w.heap.size w w13):=⟨h1_⟩
   clear HB
   clear h0_ h1_
   have HO414:=n0_
   have HB:=n1_
   clear n0_ n1_
   have hHeld:=trivial
   refine norm_ (a':=?_) ?_ ?_
   rotate_left
   ·simp only [putAll,Act.put,List.setIfInBounds_toArray,List.set_cons_zero,List.set_cons_succ]
    rfl
   refine pure_ (i:=9) (N:=some 19) (v:=?_) (a':=?_) #[true,true,true,true,true,true,true,true,true,true,false] rfl rfl (any_of HT_.out (by kernel_rfl)) (fun _ _ _ h=>h) (Or.inl ⟨by rfl,?_⟩) ?_ ?_
   rotate_left
   ·intro w'
    go_simp
    with_reducible rfl
   rotate_left
   ·simp only [Act.put,List.setIfInBounds_toArray,List.set_cons_zero,List.set_cons_succ,i64_w,i32_w]
    rfl
   refine pure_ (i:=10) (N:=some 2) (v:=?_) (a':=?_) #[true,true,true,true,true,true,true,true,true,true,true] rfl rfl (any_of HT_.out (by kernel_rfl)) (fun _ _ _ h=>h) (Or.inl ⟨by rfl,?_⟩) ?_ ?_
   rotate_left
   ·intro w'
    go_simp
    with_reducible rfl
   rotate_left
   ·simp only [Act.put,List.setIfInBounds_toArray,List.set_cons_zero,List.set_cons_succ,i64_w,i32_w]
    rfl
   refine done_ (done_of HT_.out (by kernel_rfl)) ?_
   try go_wp2
   go_ret
   exact ⟨by first | rfl | (simp [errW_none,errW_some] <;> rfl) | (simp [*,errW_none,errW_some] <;> rfl),by repeat (first | (with_reducible first | exact HB.out | apply below_alloc | apply pw_below_drewN | apply below_drew1) | exact HB.out)⟩
  ·rw [if_neg c7] at H
   exact absurd H (by simp)
end Go.Proofs.YtjapfefiaijfcaaGreatDoor.Q
namespace Go.Proofs.YtjapfefiaijfcaaGreatDoor.Q
open Go.RowKit Go.Proofs.YtjapfefiaijfcaaGreatDoorW.PrintWords Go.Proofs.YtjapfefiaijfcaaGreatDoorW.PrintLast Go.Proofs.YtjapfefiaijfcaaGreatDoorW.PrintMore
attribute [local go_sem] max2_int min2_int max_two min_two max_three min_three max_four min_four
set_option linter.unusedVariables false
set_option linter.unusedSimpArgs false
def vouchref14_octal.f (a0:Int):Option (Bool):=if a0 ≥ 48 then (some (decide (a0 ≤ 55))) else (some false)
set_option maxHeartbeats 8000000 in
set_option maxRecDepth 100000 in
theorem vouchref14_octal.calls (a0:Int) (r:Bool) (w:World) (h:vouchref14_octal.f a0=some r) :
  Calls Tryz.prog 125 #[.int .u8 a0] w fun e w'=>e = .returned (.bool r) ∧ Drawn0 w w':=by
 have H:(if a0 ≥ 48 then (some (decide (a0 ≤ 55))) else (some false))=some r:=h
 clear h
 by_cases c2:a0 ≥ 48
 ·rw [if_pos c2] at H
  have c2b0:decide (48 ≤ a0)=true:=decide_eq_true c2
  clear c2
  obtain rfl:=Option.some.inj H
  go_enter Tryz.func125,Tryz.ntmps125
  go_wp2
  go_ret
  exact ⟨by first | rfl | (simp;done) | (simp [*];done),by repeat (first | exact Drawn0.refl _ | apply Drawn0.step)⟩
 ·rw [if_neg c2] at H
  have c2b0:decide (48 ≤ a0)=false:=decide_eq_false c2
  clear c2
  obtain rfl:=Option.some.inj H
  go_enter Tryz.func125,Tryz.ntmps125
  go_wp2
  go_ret
  exact ⟨by first | rfl | (simp;done) | (simp [*];done),by repeat (first | exact Drawn0.refl _ | apply Drawn0.step)⟩
end Go.Proofs.YtjapfefiaijfcaaGreatDoor.Q
namespace Go.Proofs.YtjapfefiaijfcaaGreatDoor.Q
open Go.RowKit Go.Proofs.YtjapfefiaijfcaaGreatDoorW.PrintWords Go.Proofs.YtjapfefiaijfcaaGreatDoorW.PrintLast Go.Proofs.YtjapfefiaijfcaaGreatDoorW.PrintMore
attribute [local go_sem] max2_int min2_int max_two min_two max_three min_three max_four min_four
set_option linter.unusedVariables false
set_option linter.unusedSimpArgs false
mutual
def vouchref16_count.j1:Nat → ByteArray → Option (Int)
 | 0,_=>none
 | k + 1,x0=>if (x0.size:Int) > 4 then (some 0) else (vouchref16_count.l1 k x0 0 0)
def vouchref16_count.l1:Nat → ByteArray → Int → Int → Option (Int)
 | 0,_,_,_=>none
 | k + 1,x0,x3,x4=>if x4 < (x0.size:Int) then (if 0 ≤ x4 then (vouchref16_count.l1 k x0 (wrap64 ((wrap64 (x3 * 10)) + (((bt x0 x4) - 48) % 256))) (wrap64 (x4 + 1))) else (none)) else (some x3)
def vouchref16_count.l0:Nat → ByteArray → Option (Int)
 | 0,_=>none
 | k + 1,x0=>if (x0.size:Int) > 1 then (if 0 < (x0.size:Int) then (if (bt x0 0)=48 then (if 1 ≤ (x0.size:Int) then (vouchref16_count.l0 k (x0.extract 1 x0.size)) else (none)) else (vouchref16_count.j1 k x0)) else (none)) else (vouchref16_count.j1 k x0)
end
def vouchref16_count.f (k:Nat) (a0:ByteArray):Option (Int):=vouchref16_count.l0 k a0
set_option maxHeartbeats 8000000 in
set_option maxRecDepth 100000 in
theorem vouchref16_count.calls (k:Nat) (a0:ByteArray) (r:Int) (w:World) (h:vouchref16_count.f k a0=some r) :
  Calls Tryz.prog 126 #[.string a0] w fun e w'=>e = .returned (.int .i64 r) ∧ Drawn0 w w':=by
 have H:(vouchref16_count.l0 k a0)=some r:=h
 clear h
 have HC2:=Aside0.mk H
 clear H
 go_enter Tryz.func126,Tryz.ntmps126
 go_upto_block 0 with (fail)
 go_cut [0] (fun v0 wc=>∃ (kq:Nat) (x0_1:ByteArray),v0 = .string x0_1 ∧ Aside0 (vouchref16_count.j1 kq x0_1=some r) ∧ Aside0 (kq ≤ k) ∧ Drawn0 w wc)
 case first =>
  have H:=HC2.out
  clear HC2
  have H':=Aside0.mk H
  clear H
  go_wp2
  go_loopg [0] k (fun kq v0 w'=>∃ (x0_1:ByteArray),v0 = .string x0_1 ∧ Aside0 (vouchref16_count.l0 kq x0_1=some r) ∧ Aside0 (kq ≤ k) ∧ Drawn0 w w')
  case atStart=>exact ⟨(a0),(by first | rfl | (simp;done) | (simp [*];done) | (repeat (first | rfl | (unfold wrap64;omega) | congr 1))),H',⟨Nat.le_refl _⟩,by repeat (first | exact Drawn0.refl _ | apply Drawn0.step)⟩
  case round =>
   clear H'
   try clear c1
   try clear p2
   obtain ⟨x0_1,rfl,HA,HK1,⟨m1,rfl⟩⟩:=hrel
   cases gk with
   | zero=>exact absurd HA.out (by simp [vouchref16_count.l0])
   | succ k1 =>
    have H:=HA.out
    clear HA
    simp only [vouchref16_count.l0] at H
    by_cases c3:(x0_1.size:Int) > 1
    ·rw [if_pos c3] at H
     have c3b0:decide (1 < (x0_1.size:Int))=true:=decide_eq_true c3
     have c3b1:decide (1 < x0_1.size)=true:=decide_eq_true (by omega)
     clear c3
     (first | rw [c3b0] | (simp only [i64_w,i32_w];rw [c3b0]) | skip)
     by_cases c4:0 < (x0_1.size:Int)
     ·rw [if_pos c4] at H
      have c4b0:decide (0 < (x0_1.size:Int))=true:=decide_eq_true c4
      have c4b1:decide (0 < x0_1.size)=true:=decide_eq_true (by omega)
      clear c4
      by_cases c6:(bt x0_1 0)=48
      ·rw [if_pos c6] at H
       have c6b0:((bt x0_1 0) == 48)=true:=beq_iff_eq.mpr c6
       have c6b1:((bt x0_1 0) != 48)=false:=bne_eq_false_iff_eq.mpr c6
       clear c6
       by_cases c7:1 ≤ (x0_1.size:Int)
       ·rw [if_pos c7] at H
        have c7b0:=eq_true c7
        have c7b1:decide (1 ≤ (x0_1.size:Int))=true:=decide_eq_true c7
        clear c7
        have H':=Aside0.mk H
        clear H
        have p5:0 ≤ (0:Int):=(by omega)
        have q5:0 < x0_1.size:=(by have:(0:Int) < (x0_1.size:Int):=of_decide_eq_true (by first | (with_reducible assumption) | assumption);omega)
        have hx5:∀ h:0 < x0_1.size,((x0_1[0]'h).toNat:Int)=bt x0_1 0:=bt_at x0_1 0
        clear p5
        have qi5:(0 < (x0_1.size:Int))=True:=eq_true (of_decide_eq_true (by first | (with_reducible assumption) | assumption))
        replace q5:=eq_true q5
        go_wp2
        go_roundg k1
        case measure=>have:=HK1.out;omega
        case rel=>exact ⟨(x0_1.extract 1 x0_1.size),(by first | rfl | (simp;done) | (simp [*];done) | (repeat (first | rfl | (unfold wrap64;omega) | congr 1))),H',⟨by have:=HK1.out;omega⟩,by repeat (first | exact Drawn0.refl _ | apply Drawn0.step)⟩
       ·rw [if_neg c7] at H
        exact absurd H (by simp)
      ·rw [if_neg c6] at H
       have c6b0:((bt x0_1 0) == 48)=false:=beq_eq_false_iff_ne.mpr c6
       have c6b1:((bt x0_1 0) != 48)=true:=bne_iff_ne.mpr c6
       have H':=Aside0.mk H
       clear H
       have p5:0 ≤ (0:Int):=(by omega)
       have q5:0 < x0_1.size:=(by have:(0:Int) < (x0_1.size:Int):=of_decide_eq_true (by first | (with_reducible assumption) | assumption);omega)
       have hx5:∀ h:0 < x0_1.size,((x0_1[0]'h).toNat:Int)=bt x0_1 0:=bt_at x0_1 0
       clear p5
       have qi5:(0 < (x0_1.size:Int))=True:=eq_true (of_decide_eq_true (by first | (with_reducible assumption) | assumption))
       replace q5:=eq_true q5
       go_wp2
       go_meet
       case rel=>exact ⟨_,(x0_1),(by first | rfl | (simp;done) | (simp [*];done) | (repeat (first | rfl | (unfold wrap64;omega) | congr 1))),H',⟨by have:=HK1.out;first | omega | exact Nat.le_refl _⟩,by repeat (first | exact Drawn0.refl _ | apply Drawn0.step)⟩
     ·rw [if_neg c4] at H
      exact absurd H (by simp)
    ·rw [if_neg c3] at H
     have c3b0:decide (1 < (x0_1.size:Int))=false:=decide_eq_false c3
     have c3b1:decide (1 < x0_1.size)=false:=decide_eq_false (by omega)
     clear c3
     (first | rw [c3b0] | (simp only [i64_w,i32_w];rw [c3b0]) | skip)
     have H':=Aside0.mk H
     clear H
     go_wp2
     go_meet
     case rel=>exact ⟨_,(x0_1),(by first | rfl | (simp;done) | (simp [*];done) | (repeat (first | rfl | (unfold wrap64;omega) | congr 1))),H',⟨by have:=HK1.out;first | omega | exact Nat.le_refl _⟩,by repeat (first | exact Drawn0.refl _ | apply Drawn0.step)⟩
 case rest =>
  clear HC2
  try clear c1
  try clear p2
  try clear c3
  try clear c3b0
  try clear c3b1
  try clear c4
  try clear c4b0
  try clear c4b1
  try clear p5
  try clear q5
  try clear hx5
  try clear qi5
  try clear c6
  try clear c6b0
  try clear c6b1
  try clear c7
  try clear c7b0
  try clear c7b1
  try clear p2
  try clear p5
  try clear q5
  obtain ⟨kq,x0_1,rfl,HA,HJ1,⟨mc1,rfl⟩⟩:=hcut
  cases kq with
  | zero=>exact absurd HA.out (by simp [vouchref16_count.j1])
  | succ kj1 =>
   have H:=HA.out
   clear HA
   simp only [vouchref16_count.j1] at H
   by_cases c8:(x0_1.size:Int) > 4
   ·rw [if_pos c8] at H
    have c8b0:decide (4 < (x0_1.size:Int))=true:=decide_eq_true c8
    have c8b1:decide (4 < x0_1.size)=true:=decide_eq_true (by omega)
    clear c8
    obtain rfl:=Option.some.inj H
    go_wp2
    go_ret
    exact ⟨by first | rfl | (simp;done) | (simp [*];done),by repeat (first | exact Drawn0.refl _ | apply Drawn0.step)⟩
   ·rw [if_neg c8] at H
    have c8b0:decide (4 < (x0_1.size:Int))=false:=decide_eq_false c8
    have c8b1:decide (4 < x0_1.size)=false:=decide_eq_false (by omega)
    clear c8
    have H':=Aside0.mk H
    clear H
    go_wp2
    go_loopg [3,4] kj1 (fun kq v3 v4 w'=>∃ (x3_2:Int) (x4_2:Int),v3 = .int .i64 x3_2 ∧ v4 = .int .i64 x4_2 ∧ Aside0 (vouchref16_count.l1 kq x0_1 x3_2 x4_2=some r) ∧ Aside0 (kq ≤ kj1) ∧ Drawn0 w w')
    case atStart=>exact ⟨(0),(0),(by first | rfl | (simp;done) | (simp [*];done) | (repeat (first | rfl | (unfold wrap64;omega) | congr 1))),(by first | rfl | (simp;done) | (simp [*];done) | (repeat (first | rfl | (unfold wrap64;omega) | congr 1))),H',⟨Nat.le_refl _⟩,by repeat (first | exact Drawn0.refl _ | apply Drawn0.step)⟩
    case round =>
     clear H'
     try clear c1
     try clear p2
     try clear c3
     try clear c3b0
     try clear c3b1
     try clear c4
     try clear c4b0
     try clear c4b1
     try clear p5
     try clear q5
     try clear hx5
     try clear qi5
     try clear c6
     try clear c6b0
     try clear c6b1
     try clear c7
     try clear c7b0
     try clear c7b1
     try clear c8
     try clear c8b0
     try clear c8b1
     try clear p2
     try clear p5
     try clear q5
     obtain ⟨x3_2,x4_2,rfl,rfl,HA,HK2,⟨m2,rfl⟩⟩:=hrel
     cases gk with
     | zero=>exact absurd HA.out (by simp [vouchref16_count.l1])
     | succ k2 =>
      have H:=HA.out
      clear HA
      simp only [vouchref16_count.l1] at H
      by_cases c9:x4_2 < (x0_1.size:Int)
      ·rw [if_pos c9] at H
       have c9b0:decide (x4_2 < (x0_1.size:Int))=true:=decide_eq_true c9
       clear c9
       by_cases c10:0 ≤ x4_2
       ·rw [if_pos c10] at H
        have c10b0:decide (0 ≤ x4_2)=true:=decide_eq_true c10
        clear c10
        have H':=Aside0.mk H
        clear H
        have p11:0 ≤ (x4_2:Int):=of_decide_eq_true (by first | (with_reducible assumption) | assumption)
        have q11:x4_2 < (x0_1.size:Int):=of_decide_eq_true (by first | (with_reducible assumption) | assumption)
        have hx11:=bt_at x0_1 x4_2
        replace p11:=eq_true p11
        replace q11:=eq_true q11
        go_wp2
        go_roundg k2
        case measure=>have:=HJ1.out;have:=HK2.out;omega
        case rel=>exact ⟨(wrap64 ((wrap64 (x3_2 * 10)) + (((bt x0_1 x4_2) - 48) % 256))),(wrap64 (x4_2 + 1)),(by first | rfl | (simp;done) | (simp [*];done) | (repeat (first | rfl | (unfold wrap64;omega) | congr 1))),(by first | rfl | (simp;done) | (simp [*];done) | (repeat (first | rfl | (unfold wrap64;omega) | congr 1))),H',⟨by have:=HJ1.out;have:=HK2.out;omega⟩,by repeat (first | exact Drawn0.refl _ | apply Drawn0.step)⟩
       ·rw [if_neg c10] at H
        exact absurd H (by simp)
      ·rw [if_neg c9] at H
       have c9b0:decide (x4_2 < (x0_1.size:Int))=false:=decide_eq_false c9
       clear c9
       obtain rfl:=Option.some.inj H
       go_wp2
       go_ret
       exact ⟨by first | rfl | (simp;done) | (simp [*];done),by repeat (first | exact Drawn0.refl _ | apply Drawn0.step)⟩
end Go.Proofs.YtjapfefiaijfcaaGreatDoor.Q
namespace Go.Proofs.YtjapfefiaijfcaaGreatDoor.Q
open Go.RowKit Go.Proofs.YtjapfefiaijfcaaGreatDoorW.PrintWords Go.Proofs.YtjapfefiaijfcaaGreatDoorW.PrintLast Go.Proofs.YtjapfefiaijfcaaGreatDoorW.PrintMore
attribute [local go_sem] max2_int min2_int max_two min_two max_three min_three max_four min_four
set_option linter.unusedVariables false
set_option linter.unusedSimpArgs false
def vouchkit_LentLic.T5:Bool × List (List Nat × List Nat):=(true,[([],[]),([0],[0]),([],[]),([2],[2]),([],[]),([3,4],[3,4]),([5],[5]),([6],[6]),([7],[7]),([1,8,7],[1,8]),([0,1,2,3,4,5,6,7,8,9],[]),([10,9,9,0,1,2,3,4,5,6,7,8,9],[9,10])])
def vouchkit_LentLic.B5:List Nat:=[0,1,0,4,0,28,60,124,252,511,1023,2047]
theorem vouchkit_LentLic.tab5:rtab .any (opsOf Tryz.f8 5)=vouchkit_LentLic.T5:=by kernel_rfl
theorem vouchkit_LentLic.bits5:waitsOk vouchkit_LentLic.T5.2 vouchkit_LentLic.B5=true:=by kernel_rfl
end Go.Proofs.YtjapfefiaijfcaaGreatDoor.Q
