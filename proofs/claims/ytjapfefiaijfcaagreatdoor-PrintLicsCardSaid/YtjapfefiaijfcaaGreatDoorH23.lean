/- The parser: a string stands for itself; chains of parts. The parser: so many of some parts. The parser: one part that is such a count. The contract of Parse at the closed body; the short call answers: works is true. A text of the contracts of the printer of licensees. The parser: parentheses, and the end. -/
import Derived.BigRegion
import Derived.Deep.RegionHeld3
import Derived.Shelf.Strings.Builder1
import Derived.Test.YtjapfefiaijfcaaGreatDoorH2
import Derived.Test.YtjapfefiaijfcaaGreatDoorH5
import Derived.Test.YtjapfefiaijfcaaGreatDoorH21
namespace Go.Proofs.YtjapfefiaijfcaaGreatDoor.Q
open Go.RowKit Go.Proofs.YtjapfefiaijfcaaGreatDoorW.PrintWords Go.Proofs.YtjapfefiaijfcaaGreatDoorW.PrintLast Go.Proofs.YtjapfefiaijfcaaGreatDoorW.PrintMore
set_option linter.unusedVariables false
def LicOut (g:Nat) (w0 w:World) (toks:List S70) (cs:List S138) (l:S24) (j dp:Int) (e:Ending) (w':World):Prop :=
 ∃ v,e = .returned (.tuple #[.agg #[.int .u8 l.f0,.string l.f1,.int .i64 l.f2,v],.int .i64 0]) ∧ IsS67 w0 w' g toks cs j dp ∧ Below w0.heap.size w0 w' ∧ KeepBut w w' g none ∧ Kd.R k24 24 w' w.heap.size (fun _=>True) v l.f3
def PartOK (toks:List S70) (cs:List S138) (fn:Nat) (i dp:Int) (l:S24) (j:Int):Prop:=∀ (g:Nat) (w0 w:World),IsS67 w0 w g toks cs i dp → Below w0.heap.size w0 w → Calls Tryz.prog fn #[.pointer (some ⟨g,0,none⟩)] w (LicOut g w0 w toks cs l j dp)
theorem b3t (t:TypeId) (W:World) (a b c d:Value):(W.alloc (.cells #[a,b,c,d] t)).heap[W.heap.size]? = some (.cells #[a,b,c,d] t (0,0)):=blk_new W _
set_option maxHeartbeats 8000000 in
set_option maxRecDepth 100000 in
theorem lics_one_str.calls (toks:List S70) (cs:List S138) (i:Nat) (dp:Int) (x:S70) (hi:i < toks.length) (hm:toks.length ≤ 8192) (hx:x=rd_T70 toks i) (hk:x.f0=4):PartOK toks cs 81 i dp ⟨1,x.f1,0,[]⟩ ((i + 1:Nat):Int):=by
 intro g w0 w hI hB
 have HI:=Aside0.mk hI
 have HB:=Aside0.mk hB
 have HX:=Aside0.mk hx
 have q1:decide ((i:Int) < (toks.length:Int))=true:=decide_eq_true (by omega)
 have q2:((i:Int) == (toks.length:Int))=false:=beq_eq_false_iff_ne.mpr (by omega)
 have q3:(i == toks.length)=false:=beq_eq_false_iff_ne.mpr (by omega)
 have q4:IntKind.i64.wrap ((i:Int) + 1)=(i:Int) + 1:=IntWalk.i64_in _ (by omega)
 obtain ⟨A0,c0,A1,c1,hG,hge,hS0,hS1⟩:=hI
 obtain ⟨ad,e0,x0,x1,x2,x3⟩:=at_T70 hS0 (i:Int) (by omega) (by omega)
 subst e0
 rw [← hx] at x0 x1 x2 x3
 rw [hk] at x0
 replace x0:=pw_cell_below hB x0
 replace x1:=pw_cell_below hB x1
 replace x2:=pw_cell_below hB x2
 replace x3:=pw_cell_below hB x3
 have p1:(0 ≤ (i:Int))=True:=eq_true (by omega)
 have p2:((i:Int) < (toks.length:Int))=True:=eq_true (by omega)
 have p3:(i < toks.length)=True:=eq_true hi
 have g0:=cellS67_0 hG
 have g1:=cellS67_1 hG
 have g2:=cellS67_2 hG
 have g3:=cellS67_3 hG
 have gf:=blk_frozen hG 2
 have HG:=Aside0.mk hG
 clear hG hge hS0 hS1 hB hx hi
 have up:∀ (o:Obj) {a:Addr} {v:Value},w.cell? a=some v → (w.alloc o).cell? a=some v:=fun o {a} {v} h=>pw_cell_below ((Below.refl _ w).alloc (Nat.le_refl _) o) h
 have m0:=fun o=>up o g0
 have m2:=fun o=>up o g2
 have y0:=fun o=>up o x0
 have y1:=fun o=>up o x1
 have y2:=fun o=>up o x2
 have y3:=fun o=>up o x3
 clear up
 go_enter Tryz.func81,Tryz.ntmps81
 go_wp2_with (fail)
 go_quiet (fail)
 go_wp2_with (fail)
 generalize hW:(w.alloc (.cells #[.int .u8 0,.string ⟨#[]⟩,.int .i64 0,.slice none 0 0] 24)).drewN _=W
 have m0':W.cell? ⟨g,0,none⟩=some (.slice (some ad) toks.length c0):=by rw [← hW];exact m0 _
 have m2':W.cell? ⟨g,2,none⟩=some (.int .i64 i):=by rw [← hW];exact m2 _
 have y0':W.cell? (ad.add (i * 4))=some (.int .u8 4):=by rw [← hW];exact y0 _
 have y1':W.cell? ⟨(ad.add (i * 4)).block,(ad.add (i * 4)).off + 1,none⟩=some (.string x.f1):=by rw [← hW];exact y1 _
 have y2':W.cell? ⟨(ad.add (i * 4)).block,(ad.add (i * 4)).off + 2,none⟩=some (.int .i64 x.f2):=by rw [← hW];exact y2 _
 have y3':W.cell? ⟨(ad.add (i * 4)).block,(ad.add (i * 4)).off + 3,none⟩=some (.int .i64 x.f3):=by rw [← hW];exact y3 _
 have HW:=Aside0.mk hW
 have up2:∀ (o:Obj) {a:Addr} {v:Value},W.cell? a=some v → (W.alloc o).cell? a=some v:=fun o {a} {v} h=>pw_cell_below ((Below.refl _ W).alloc (Nat.le_refl _) o) h
 have m0'':=fun o=>up2 o m0'
 have m2'':=fun o=>up2 o m2'
 have y0'':=fun o=>up2 o y0'
 have y1'':=fun o=>up2 o y1'
 have y2'':=fun o=>up2 o y2'
 have y3'':=fun o=>up2 o y3'
 clear hW m0 m2 y0 y1 y2 y3 up2
 go_region
 generalize hW2:(W.alloc (.cells #[.int .u8 4,.string x.f1,.int .i64 x.f2,.int .i64 x.f3] 70)).drew=W2
 have b1:W2.heap[W.heap.size]? = some (.cells #[.int .u8 4,.string x.f1,.int .i64 x.f2,.int .i64 x.f3] 70 (0,0)):=by rw [← hW2];exact blk_new W _
 have B1:Below w.heap.size w W:=by rw [← HW.out];exact pw_below_drewN ((Below.refl _ w).alloc (Nat.le_refl _) _) _
 have s1:W.heap.size=w.heap.size + 1:=by rw [← HW.out];simp
 have HS1:=Aside0.mk s1
 have B2:Below w.heap.size w W2:=by rw [← hW2];exact below_drew1 (B1.alloc B1.size _)
 have b2:W2.heap[w.heap.size]? = some (.cells #[.int .u8 0,.string ⟨#[]⟩,.int .i64 0,.slice none 0 0] 24 (0,0)):=by
  rw [← hW2]
  refine blk_drew (blk_alloc ?_ _)
  rw [← HW.out];exact blk_drewN (blk_new w _) _
 have IW2:IsS67 w0 W2 g toks cs i dp:=HI.out.below B2
 have hG:=(B2.block g HI.out.lt).trans HG.out
 have c1:=blk_cell b1 0
 have c2:=blk_cell b1 1
 have c3:=cellS67_2 hG
 have c4:=blk_frozen hG 2
 have gl:=HI.out.lt
 have n1:g ≠ W.heap.size:=by omega
 have HI2:=Aside0.mk IW2
 have Hb1:=Aside0.mk b1
 have Hb2:=Aside0.mk b2
 have HB2:=Aside0.mk B2
 have c5:(W2.setCell ⟨g,2,none⟩ (.int .i64 ((i:Int) + 1))).cell? ⟨W.heap.size,1,none⟩=some (.string x.f1):=(blk_cell (blk_far b1 (by simp only;omega) _) 1).trans rfl
 have b3:(W2.setCell ⟨g,2,none⟩ (.int .i64 ((i:Int) + 1))).heap[w.heap.size]? = _:=blk_far b2 (by simp only;omega) _
 have r0:=blk_cell b3 0
 have r1:=blk_cell b3 1
 have r2:=blk_cell b3 2
 have r3:=blk_cell b3 3
 have k0:=blk_frozen b3 0
 have k1:=blk_frozen b3 1
 have k2:=blk_frozen b3 2
 have k3:=blk_frozen b3 3
 have Hb3:=Aside0.mk b3
 clear s1 hG b1 b2 B1 B2 IW2 b3 m0' m2' y0' y1' y2' y3' m0'' m2'' y0'' y1'' y2'' y3'' g0 g1 g2 g3 x0 x1 x2 x3 hW2
 go_wp2_with (fail)
 have R:=blk_set (blk_set (blk_set (blk_set Hb3.out 0 (.int .u8 1)) 1 (.string x.f1)) 2 (.int .i64 0)) 3 (.slice none 0 0)
 have e0:=blk_cell R 0
 have e1:=blk_cell R 1
 have e2:=blk_cell R 2
 have e3:=blk_cell R 3
 have hgw:w.heap.size ≠ g:=by omega
 refine bodyPost_ret (v:=.tuple #[.agg #[.int .u8 1,.string x.f1,.int .i64 0,.slice none 0 0],.int .i64 0]) ?_ rfl ⟨.slice none 0 0,rfl,?_,?_,?_,Kd.R_nil _ _ _ _ _⟩
 ·simp [results,Tryz.results81,go_sem,e0,e1,e2,e3]
 ·refine IsS67.far (IsS67.far (IsS67.far (IsS67.far ?_ (Ne.symm hgw) _) (Ne.symm hgw) _) (Ne.symm hgw) _) (Ne.symm hgw) _
  exact HI2.out.set_2 _
 ·exact (((((HB.out.trans (HB2.out.mono HB.out.size)).setCell HI.out.ge _).setCell HB.out.size _).setCell HB.out.size _).setCell HB.out.size _).setCell HB.out.size _
 ·exact keep_far (keep_far (keep_far (keep_far ((KeepBut.of_below HB2.out g none).set_ _ _) (Nat.le_refl _) _) (Nat.le_refl _) _) (Nat.le_refl _) _) (Nat.le_refl _) _
theorem lic_out {g:Nat} {w0 w w3:World} {toks:List S70} {cs:List S138} {j dp:Int} {r:S24} {v c0 c1 c2 c3:Value} (hI:IsS67 w0 w3 g toks cs j dp) (hB:Below w0.heap.size w0 w3) (hK:KeepBut w w3 g none)
  (hb:w3.heap[w.heap.size]? = some (.cells #[c0,c1,c2,c3] 24 (0,0))) (hR:Kd.R k24 24 w3 w.heap.size (fun k=>k ≠ w.heap.size) v r.f3) (hw:w0.heap.size ≤ w.heap.size) (hg:g < w.heap.size) :
  IsS67 w0 ((((w3.setCell ⟨w.heap.size,0,none⟩ (.int .u8 r.f0)).setCell ⟨w.heap.size,1,none⟩ (.string r.f1)).setCell ⟨w.heap.size,2,none⟩ (.int .i64 r.f2)).setCell ⟨w.heap.size,3,none⟩ v) g toks cs j dp ∧
  Below w0.heap.size w0 ((((w3.setCell ⟨w.heap.size,0,none⟩ (.int .u8 r.f0)).setCell ⟨w.heap.size,1,none⟩ (.string r.f1)).setCell ⟨w.heap.size,2,none⟩ (.int .i64 r.f2)).setCell ⟨w.heap.size,3,none⟩ v) ∧
  KeepBut w ((((w3.setCell ⟨w.heap.size,0,none⟩ (.int .u8 r.f0)).setCell ⟨w.heap.size,1,none⟩ (.string r.f1)).setCell ⟨w.heap.size,2,none⟩ (.int .i64 r.f2)).setCell ⟨w.heap.size,3,none⟩ v) g none ∧
  Kd.R k24 24 ((((w3.setCell ⟨w.heap.size,0,none⟩ (.int .u8 r.f0)).setCell ⟨w.heap.size,1,none⟩ (.string r.f1)).setCell ⟨w.heap.size,2,none⟩ (.int .i64 r.f2)).setCell ⟨w.heap.size,3,none⟩ v) w.heap.size (fun _=>True) v r.f3 ∧
  ((((w3.setCell ⟨w.heap.size,0,none⟩ (.int .u8 r.f0)).setCell ⟨w.heap.size,1,none⟩ (.string r.f1)).setCell ⟨w.heap.size,2,none⟩ (.int .i64 r.f2)).setCell ⟨w.heap.size,3,none⟩ v).heap[w.heap.size]? = some (.cells #[.int .u8 r.f0,.string r.f1,.int .i64 r.f2,v] 24 (0,0)):=by
 have hgw:g ≠ w.heap.size:=by omega
 refine ⟨(((hI.far hgw _).far hgw _).far hgw _).far hgw _,(((hB.setCell hw _).setCell hw _).setCell hw _).setCell hw _,keep_far (keep_far (keep_far (keep_far hK (Nat.le_refl _) _) (Nat.le_refl _) _) (Nat.le_refl _) _) (Nat.le_refl _) _,?_,?_⟩
 ·exact Kd.R_mono (Kd.R_far (Kd.R_far (Kd.R_far (Kd.R_far hR (fun k hk=>hk) _) (fun k hk=>hk) _) (fun k hk=>hk) _) (fun k hk=>hk) _) (fun _ _=>trivial)
 ·have R:=blk_set (blk_set (blk_set (blk_set hb 0 (.int .u8 r.f0)) 1 (.string r.f1)) 2 (.int .i64 r.f2)) 3 v
  simpa using R
theorem pair_row {W:World} {base:Nat} {ok:Nat → Prop} {l m:S24} {va vm:Value} (hl:Kd.R k24 24 W base ok va l.f3) (hm:Kd.R k24 24 W base ok vm m.f3) (hb:base ≤ W.heap.size) (hf:ok W.heap.size) :
  Kd.R k24 24 (W.alloc (.cells #[.int .u8 l.f0,.string l.f1,.int .i64 l.f2,va,.int .u8 m.f0,.string m.f1,.int .i64 m.f2,vm] 24)) base ok (.slice (some ⟨W.heap.size,0,none⟩) 2 2) [l,m]:=by
 have hrep:Reps (k24.M W base ok) 4 [l,m] [.int .u8 l.f0,.string l.f1,.int .i64 l.f2,va,.int .u8 m.f0,.string m.f1,.int .i64 m.f2,vm]:=by
  refine ⟨by simp,fun j p hj=>?_⟩
  rcases j with _ | _ | j
  ·simp at hj;subst hj
   exact k24_mkM _ _ _ _ hl
  ·simp at hj;subst hj
   exact k24_mkM _ _ _ _ hm
  ·simp at hj
 refine ⟨fun k hk=>?_,_,?_,hrep.imp_ (fun p c hp=>k24.M_mono (fun k hk=>⟨hk.1,fun he=>?_⟩) (Kd.M_below (k24.M_bound hp) (below_alloc (Below.refl _ _) _)))⟩
 ·have:W.heap.size=k:=by simpa [Value.ownBlock] using hk
  subst this
  exact hf
 ·have h2:=World.ownsRow_lit (base:=base) (e:=24) (size:=4) W #[.int .u8 l.f0,.string l.f1,.int .i64 l.f2,va,.int .u8 m.f0,.string m.f1,.int .i64 m.f2,vm] 2 hb (by simp [maxLen]) (by simp)
  exact h2
 ·have h3:k=W.heap.size:=by simpa [Value.ownBlock] using he
  have:=hk.2.2.1
  omega
def four (W:World) (b:Nat) (v0 v1 v2 v3:Value):World:=(((W.setCell ⟨b,0,none⟩ v0).setCell ⟨b,1,none⟩ v1).setCell ⟨b,2,none⟩ v2).setCell ⟨b,3,none⟩ v3
theorem four_at {W:World} {b:Nat} {c0 c1 c2 c3:Value} {t:TypeId} (h:W.heap[b]? = some (.cells #[c0,c1,c2,c3] t (0,0))) (v0 v1 v2 v3:Value):(four W b v0 v1 v2 v3).heap[b]? = some (.cells #[v0,v1,v2,v3] t (0,0)):=by
 have R:=blk_set (blk_set (blk_set (blk_set h 0 v0) 1 v1) 2 v2) 3 v3
 simpa [four] using R
theorem four_far {W:World} {b k:Nat} {cs:Array Value} {t:TypeId} (h:W.heap[k]? = some (.cells cs t (0,0))) (hne:k ≠ b) (v0 v1 v2 v3:Value):(four W b v0 v1 v2 v3).heap[k]? = some (.cells cs t (0,0)) :=
 blk_far (blk_far (blk_far (blk_far h hne _) hne _) hne _) hne _
theorem four_size (W:World) (b:Nat) (v0 v1 v2 v3:Value):(four W b v0 v1 v2 v3).heap.size=W.heap.size:=by simp [four]
theorem chain_w4 {w wr w3 w4:World} {g N:Nat} {u:Value} {cs0 cs1 zs:Array Value} (hg:g < w.heap.size) (hN:w.heap.size + 1 ≤ N) (hK:KeepBut w wr g none) (hK3:KeepBut wr w3 g none) (F1:w3.heap[N]? = some (.cells cs1 24 (0,0))) (F0:w3.heap[w.heap.size]? = some (.cells cs0 24 (0,0)))
  (hK4:KeepBut ((w3.setCell ⟨g,2,none⟩ u).alloc (.cells zs 24)) w4 g none):w4.heap[N]? = some (.cells cs1 24 (0,0)) ∧ w4.heap[w.heap.size]? = some (.cells cs0 24 (0,0)) ∧ w4.heap[w3.heap.size]? = some (.cells zs 24 (0,0)) ∧ N < w3.heap.size:=by
 have hz:(w3.setCell ⟨g,2,none⟩ u).heap.size=w3.heap.size:=by simp
 refine ⟨hK4.blk (blk_alloc (blk_far F1 (by simp only;omega) _) _) (by omega) (by simp),hK4.blk (blk_alloc (blk_far F0 (by simp only;omega) _) _) (by omega) (by simp),hK4.blk (blk_new' _ hz) (by have:=blk_lt F0;omega) (by simp),blk_lt F1⟩
theorem IsS67.four {w0 W:World} {g:Nat} {f0:List S70} {f1:List S138} {f2 f3:Int} (h:IsS67 w0 W g f0 f1 f2 f3) {b:Nat} (hne:g ≠ b) (v0 v1 v2 v3:Value):IsS67 w0 (Q.four W b v0 v1 v2 v3) g f0 f1 f2 f3:=(((h.far hne _).far hne _).far hne _).far hne _
theorem below_four {B:Nat} {w0 W:World} (h:Below B w0 W) {b:Nat} (hb:B ≤ b) (v0 v1 v2 v3:Value):Below B w0 (four W b v0 v1 v2 v3):=(((h.setCell hb _).setCell hb _).setCell hb _).setCell hb _
theorem keep_four {w W:World} {g:Nat} (h:KeepBut w W g none) {b:Nat} (hb:w.heap.size ≤ b) (v0 v1 v2 v3:Value):KeepBut w (four W b v0 v1 v2 v3) g none:=keep_far (keep_far (keep_far (keep_far h hb _) hb _) hb _) hb _
theorem R_four {W:World} {base:Nat} {ok:Nat → Prop} {v:Value} {xs:List S24} (h:Kd.R k24 24 W base ok v xs) {b:Nat} (hok:∀ k,ok k → k ≠ b) (v0 v1 v2 v3:Value):Kd.R k24 24 (four W b v0 v1 v2 v3) base ok v xs:=Kd.R_far (Kd.R_far (Kd.R_far (Kd.R_far h hok _) hok _) hok _) hok _
inductive Chain (toks:List S70) (cs:List S138) (pf:Nat) (s:ByteArray) (op dp:Int):S24 → Int → S24 → Int → Prop
 | stop (l:S24) (j:Int):lics_reader_sign.f toks cs j dp s=some (false,j,dp) → Chain toks cs pf s op dp l j l j
 | more (l:S24) (j:Nat) (m:S24) (k:Int) (r:S24) (n:Int):j < toks.length → lics_reader_sign.f toks cs j dp s=some (true,(j:Int),dp) → PartOK toks cs pf ((j:Int) + 1) dp m k → (j:Int) < k → Chain toks cs pf s op dp ⟨op,⟨#[]⟩,0,[l,m]⟩ k r n → Chain toks cs pf s op dp l j r n
def rdAt (w:World) (g:Nat):Int:=match w.cell? ⟨g,2,none⟩ with | some (.int _ n)=>n | _=>0
theorem IsS67.at_eq {w0 W:World} {g:Nat} {f0:List S70} {f1:List S138} {f2 f3:Int} (h:IsS67 w0 W g f0 f1 f2 f3):rdAt W g=f2:=by
 obtain ⟨A0,c0,A1,c1,hG,_⟩:=h
 unfold rdAt;rw [cellS67_2 hG]
set_option maxHeartbeats 8000000 in
set_option maxRecDepth 100000 in
theorem lics_chain_one.calls (toks:List S70) (cs:List S138) (hm:toks.length ≤ 8192) (s:ByteArray) (op:Int) (i dp:Int) (l:S24) (j:Int) (r:S24) (n:Int) (hP:PartOK toks cs 81 i dp l j) (hC:Chain toks cs 81 s op dp l j r n)
  (g:Nat) (w0 w:World) (hI:IsS67 w0 w g toks cs i dp) (hB:Below w0.heap.size w0 w) :
  Calls Tryz.prog 58 #[.pointer (some ⟨g,0,none⟩),.string s,.int .u8 op,.func (.func 81) #[.pointer (some ⟨g,0,none⟩)] #[]] w (LicOut g w0 w toks cs r n dp):=by
 have HI:=Aside0.mk hI
 have HB:=Aside0.mk hB
 have HP:=Aside0.mk hP
 have HC:=Aside0.mk hC
 clear hI hB hP hC
 go_enter Tryz.func58,Tryz.ntmps58
 have a1:∀ o:Obj,IsS67 w0 (w.alloc o) g toks cs i dp:=fun o=>HI.out.alloc o
 have a2:∀ o:Obj,Below w0.heap.size w0 (w.alloc o):=fun o=>HB.out.alloc HB.out.size o
 have HA1:=Aside0.mk a1
 have HA2:=Aside0.mk a2
 clear a1 a2
 go_wp2_with (first | (go_at_call 81;(refine (HP.out g w0 _ (HA1.out _) (HA2.out _)).mono ?_);rintro e_ w1 ⟨v1,rfl,hi,hb,hk,hr⟩;obtain ⟨A1,cp1,rfl⟩:=Kd.R_slice hr;have HI1:=Aside0.mk hi;have HB1:=Aside0.mk hb;have HK1:=Aside0.mk hk;have HR1:=Aside0.mk hr;clear hi hb hk hr))
 have hz1:w.heap.size + 1 ≤ w1.heap.size:=by have:=HK1.out.1;simpa using this
 have HZ1:=Aside0.mk hz1
 have hr0:w1.heap[w.heap.size]? = some (.cells #[.int .u8 0,.string ⟨#[]⟩,.int .i64 0,.slice none 0 0] 24 (0,0)):=HK1.out.blk (blk_new w _) (by have:=HI.out.lt;omega) (by simp)
 have HR0:=Aside0.mk hr0
 clear hz1 hr0
 go_loopw [11] (fun u wr=>u = .int .i64 0 ∧ ∃ (l:S24) (j:Int) (v:Value),Chain toks cs 81 s op dp l j r n ∧ IsS67 w0 wr g toks cs j dp ∧ Below w0.heap.size w0 wr ∧ KeepBut w wr g none ∧ wr.heap[w1.heap.size]? = some (.cells #[.int .u8 l.f0,.string l.f1,.int .i64 l.f2,v] 24 (0,0)) ∧ wr.heap[w.heap.size]? = some (.cells #[.int .u8 0,.string ⟨#[]⟩,.int .i64 0,.slice none 0 0] 24 (0,0)) ∧ Kd.R k24 24 wr w.heap.size (fun k=>k ≠ w.heap.size ∧ k ≠ w1.heap.size) v l.f3) (fun _ wr=>(8192 - rdAt wr g).toNat)
 case atStart =>
  refine ⟨rfl,l,j,.slice A1 l.f3.length cp1,HC.out,HI1.out.alloc _,HB1.out.alloc HB1.out.size _,?_,blk_new _ _,blk_alloc HR0.out _,?_⟩
  ·exact keep_alloc ((keep_alloc (KeepBut.refl w g none) _).trans HK1.out (.inl rfl)) _
  ·refine Kd.R_mono (Kd.R_alloc (Kd.R_lower (Kd.R_bound HR1.out) (by simp)) _) (fun k hk=>?_)
   have q1:=hk.2.1
   have q2:=hk.2.2.1
   have q3:(w.alloc (.cells #[.int .u8 0,.string ⟨#[]⟩,.int .i64 0,.slice none 0 0] 24)).heap.size=w.heap.size + 1:=by simp
   rw [q3] at q1
   exact ⟨by omega,by omega⟩
 case round =>
  obtain ⟨rfl,l,j,v,hC,hI,hB,hK,hb1,hb0,hR⟩:=hrel
  obtain ⟨A2,cp2,rfl⟩:=Kd.R_slice hR
  have HIr:=Aside0.mk hI
  have HBr:=Aside0.mk hB
  have HKr:=Aside0.mk hK
  have HR:=Aside0.mk hR
  have Hb1:=Aside0.mk hb1
  have Hb0:=Aside0.mk hb0
  cases hC with
  | stop _ _ hs =>
   have HS:=Aside0.mk hs
   clear hI hB hK hR hb1 hb0 hs
   go_wp2_with (first | (go_at_call 80;(refine (lics_reader_sign.calls g toks cs _ dp s false _ dp w0 _ HIr.out HBr.out HS.out).mono ?_);rintro e_ w3 ⟨rfl,hi,hb,hk⟩;have f1:=hk.blk Hb1.out (by have:=HIr.out.ne_blk Hb1.out (by decide);omega) (by simp);have f0:=hk.blk Hb0.out (by have:=HIr.out.ne_blk Hb0.out (by decide);omega) (by simp);have c0:=blk_cell f1 0;have c1:=blk_cell f1 1;have c2:=blk_cell f1 2;have c3:=blk_cell f1 3;have d0:=blk_cell f0 0;have d1:=blk_cell f0 1;have d2:=blk_cell f0 2;have d3:=blk_cell f0 3;have k0:=blk_frozen f0 0;have k1:=blk_frozen f0 1;have k2:=blk_frozen f0 2;have k3:=blk_frozen f0 3;have F0:=Aside0.mk f0;have HI3:=Aside0.mk hi;have HB3:=Aside0.mk hb;have HK3:=Aside0.mk hk;clear f0 f1 hi hb hk))
   have hkw:=HKr.out.trans HK3.out (.inl rfl)
   have hR3:=Kd.R_keep (Kd.R_mono (Kd.R_bound HR.out) (fun k hk=>(⟨hk.1,hk.2.1⟩:(k ≠ w.heap.size ∧ k ≠ w1.heap.size) ∧ w.heap.size ≤ k))) HK3.out (fun k hk=>by have:=HI.out.lt;omega)
   obtain ⟨o1,o2,o3,o4,o5⟩:=lic_out (r:=r) HI3.out HB3.out hkw F0.out (Kd.R_mono hR3 (fun k hk=>hk.1.1)) HB.out.size HI.out.lt
   have e0:=blk_cell o5 0
   have e1:=blk_cell o5 1
   have e2:=blk_cell o5 2
   have e3:=blk_cell o5 3
   refine bodyPost_ret (v:=.tuple #[.agg #[.int .u8 r.f0,.string r.f1,.int .i64 r.f2,.slice A2 r.f3.length cp2],.int .i64 0]) ?_ rfl ⟨_,rfl,o1,o2,o3,o4⟩
   simp [results,Tryz.results58,go_sem,e0,e1,e2,e3]
  | more _ j m k _ _ hj hs hp hk hr =>
   have HS:=Aside0.mk hs
   have HP2:=Aside0.mk hp
   have HJ:=Aside0.mk hj
   have HKj:=Aside0.mk hk
   have HRr:=Aside0.mk hr
   have q4:IntKind.i64.wrap ((j:Int) + 1)=(j:Int) + 1:=IntWalk.i64_in _ (by omega)
   clear hI hB hK hR hb1 hb0 hs hp hj hk hr
   go_wp2_with (first | (go_at_call 80;(refine (lics_reader_sign.calls g toks cs _ dp s true _ dp w0 _ HIr.out HBr.out HS.out).mono ?_);rintro e_ w3 ⟨rfl,hi,hb,hk⟩;have f1:=hk.blk Hb1.out (by have:=HIr.out.ne_blk Hb1.out (by decide);omega) (by simp);have f0:=hk.blk Hb0.out (by have:=HIr.out.ne_blk Hb0.out (by decide);omega) (by simp);have F0:=Aside0.mk f0;have F1:=Aside0.mk f1;have HI3:=Aside0.mk hi;have HB3:=Aside0.mk hb;have HK3:=Aside0.mk hk;obtain ⟨A0',c0',A1',c1',hG,-,-,-⟩:=hi;have g2:=cellS67_2 hG;have gf:=blk_frozen hG 2;clear f0 f1 hG hb hk) | (go_at_call 81;(refine (HP2.out g w0 _ ((HI3.out.set_2 _).alloc _) ((HB3.out.setCell HI.out.ge _).alloc (by have:=HB3.out.size;simpa using this) _)).mono ?_);rintro e_ w4 ⟨v2,rfl,hi,hb,hk,hr⟩;obtain ⟨A3,cp3,rfl⟩:=Kd.R_slice hr;have HI4:=Aside0.mk hi;have HB4:=Aside0.mk hb;have HK4:=Aside0.mk hk;have HR4:=Aside0.mk hr;obtain ⟨g10,g0,g12,hn⟩:=chain_w4 HI.out.lt HZ1.out HKr.out HK3.out F1.out F0.out HK4.out;have x10:=four_far g10 (by omega:w1.heap.size ≠ w3.heap.size) (.int .u8 m.f0) (.string m.f1) (.int .i64 m.f2) (.slice A3 m.f3.length cp3);have x0:=four_far g0 (by have:=HZ1.out;omega:w.heap.size ≠ w3.heap.size) (.int .u8 m.f0) (.string m.f1) (.int .i64 m.f2) (.slice A3 m.f3.length cp3);have x12:=four_at g12 (.int .u8 m.f0) (.string m.f1) (.int .i64 m.f2) (.slice A3 m.f3.length cp3);have t0:=blk_cell g12 0;have t1:=blk_cell g12 1;have t2:=blk_cell g12 2;have t3:=blk_cell g12 3;have z0:=blk_frozen g12 0;have z1:=blk_frozen g12 1;have z2:=blk_frozen g12 2;have z3:=blk_frozen g12 3;have p0:World.cell? (four _ _ _ _ _ _) _=_:=blk_cell x10 0;have p1:World.cell? (four _ _ _ _ _ _) _=_:=blk_cell x10 1;have p2:World.cell? (four _ _ _ _ _ _) _=_:=blk_cell x10 2;have p3:World.cell? (four _ _ _ _ _ _) _=_:=blk_cell x10 3;have r0:World.cell? (four _ _ _ _ _ _) _=_:=blk_cell x12 0;have r1:World.cell? (four _ _ _ _ _ _) _=_:=blk_cell x12 1;have r2:World.cell? (four _ _ _ _ _ _) _=_:=blk_cell x12 2;have r3:World.cell? (four _ _ _ _ _ _) _=_:=blk_cell x12 3;unfold four at p0 p1 p2 p3 r0 r1 r2 r3;have y0:=fun o=>blk_cell (blk_alloc x10 o) 0;have y1:=fun o=>blk_cell (blk_alloc x10 o) 1;have y2:=fun o=>blk_cell (blk_alloc x10 o) 2;have y3:=fun o=>blk_cell (blk_alloc x10 o) 3;have h0:=fun o=>blk_frozen (blk_alloc x10 o) 0;have h1:=fun o=>blk_frozen (blk_alloc x10 o) 1;have h2:=fun o=>blk_frozen (blk_alloc x10 o) 2;have h3:=fun o=>blk_frozen (blk_alloc x10 o) 3;unfold four at y0 y1 y2 y3 h0 h1 h2 h3;have X10:=Aside0.mk x10;have X0:=Aside0.mk x0;have X12:=Aside0.mk x12;have HN:=Aside0.mk hn;clear hi hb hk hr g10 g0 g12 x10 x0 x12 hn))
   have z3:w.heap.size ≤ w3.heap.size:=(HKr.out.trans HK3.out (.inl rfl)).1
   have zc:((w3.setCell ⟨g,2,none⟩ (.int .i64 ((j:Int) + 1))).alloc (.cells #[.int .u8 0,.string ⟨#[]⟩,.int .i64 0,.slice none 0 0] 24)).heap.size=w3.heap.size + 1:=by simp
   have z4:w3.heap.size + 1 ≤ w4.heap.size:=by have:=HK4.out.1;rw [zc] at this;exact this
   have gl:=HI.out.lt
   have hn:=HN.out
   have hz1:=HZ1.out
   have zr:wr.heap.size ≤ w3.heap.size:=HK3.out.1
   have hl:Kd.R k24 24 (four w4 w3.heap.size (.int .u8 m.f0) (.string m.f1) (.int .i64 m.f2) (.slice A3 m.f3.length cp3)) w.heap.size (fun k=>k ≠ w.heap.size ∧ k ≠ w1.heap.size) (.slice A2 l.f3.length cp2) l.f3:=by
    have q:=Kd.R_mono (Kd.R_bound HR.out) (fun k hk=>(⟨hk.1,hk.2.1,hk.2.2.1⟩:(k ≠ w.heap.size ∧ k ≠ w1.heap.size) ∧ w.heap.size ≤ k ∧ k < wr.heap.size))
    have q2:=Kd.R_keep q HK3.out (fun k hk=>by omega)
    have q3:=Kd.R_keep (Kd.R_alloc (Kd.R_far (p:=⟨g,2,none⟩) q2 (fun k hk=>by simp only;omega) (.int .i64 ((j:Int) + 1))) (.cells #[.int .u8 0,.string ⟨#[]⟩,.int .i64 0,.slice none 0 0] 24)) HK4.out (fun k hk=>by omega)
    exact Kd.R_mono (R_four q3 (fun k hk=>by omega) _ _ _ _) (fun k hk=>hk.1)
   have hm':Kd.R k24 24 (four w4 w3.heap.size (.int .u8 m.f0) (.string m.f1) (.int .i64 m.f2) (.slice A3 m.f3.length cp3)) w.heap.size (fun k=>k ≠ w.heap.size ∧ k ≠ w1.heap.size) (.slice A3 m.f3.length cp3) m.f3:=by
    have q:=HR4.out
    rw [zc] at q
    have q2:=Kd.R_mono (Kd.R_bound q) (fun k hk=>(hk.2.1:w3.heap.size + 1 ≤ k))
    exact Kd.R_mono (Kd.R_lower (R_four q2 (fun k hk=>by omega) _ _ _ _) (by omega)) (fun k hk=>by omega)
   have hp:=pair_row hl hm' (by rw [four_size];omega) (by rw [four_size];omega)
   rw [four_size] at hp
   have hI7:=((HI4.out.four (by omega:g ≠ w3.heap.size) (.int .u8 m.f0) (.string m.f1) (.int .i64 m.f2) (.slice A3 m.f3.length cp3)).alloc (.cells #[.int .u8 l.f0,.string l.f1,.int .i64 l.f2,.slice A2 l.f3.length cp2,.int .u8 m.f0,.string m.f1,.int .i64 m.f2,.slice A3 m.f3.length cp3] 24)).four (by omega:g ≠ w1.heap.size) (.int .u8 op) (.string ⟨#[]⟩) (.int .i64 0) (.slice (some ⟨w4.heap.size,0,none⟩) 2 2)
   refine ⟨⟨rfl,⟨op,⟨#[]⟩,0,[l,m]⟩,k,.slice (some ⟨w4.heap.size,0,none⟩) 2 2,HRr.out,hI7,?_,?_,four_at (blk_alloc X10.out _) _ _ _ _,four_far (blk_alloc X0.out _) (by omega) _ _ _ _,R_four hp (fun k hk=>hk.2) _ _ _ _⟩,?_⟩
   ·exact below_four ((below_four HB4.out (by have:=HB3.out.size;omega) _ _ _ _).alloc (by rw [four_size];exact HB4.out.size) _) (by have:=HB.out.size;omega) _ _ _ _
   ·refine keep_four (keep_alloc (keep_four (KeepBut.trans ?_ HK4.out (.inl rfl)) (by omega) _ _ _ _) _) (by omega) _ _ _ _
    exact keep_alloc ((HKr.out.trans HK3.out (.inl rfl)).set_ _ _) _
   ·have e1:=hI7.at_eq
    unfold four at e1
    rw [e1,HIr.out.at_eq]
    have:=HKj.out
    have:=HJ.out
    omega
set_option maxHeartbeats 8000000 in
set_option maxRecDepth 100000 in
theorem lics_chain_all.calls (toks:List S70) (cs:List S138) (hm:toks.length ≤ 8192) (s:ByteArray) (op:Int) (i dp:Int) (l:S24) (j:Int) (r:S24) (n:Int) (hP:PartOK toks cs 59 i dp l j) (hC:Chain toks cs 59 s op dp l j r n)
  (g:Nat) (w0 w:World) (hI:IsS67 w0 w g toks cs i dp) (hB:Below w0.heap.size w0 w) :
  Calls Tryz.prog 58 #[.pointer (some ⟨g,0,none⟩),.string s,.int .u8 op,.func (.func 59) #[.pointer (some ⟨g,0,none⟩)] #[]] w (LicOut g w0 w toks cs r n dp):=by
 have HI:=Aside0.mk hI
 have HB:=Aside0.mk hB
 have HP:=Aside0.mk hP
 have HC:=Aside0.mk hC
 clear hI hB hP hC
 go_enter Tryz.func58,Tryz.ntmps58
 have a1:∀ o:Obj,IsS67 w0 (w.alloc o) g toks cs i dp:=fun o=>HI.out.alloc o
 have a2:∀ o:Obj,Below w0.heap.size w0 (w.alloc o):=fun o=>HB.out.alloc HB.out.size o
 have HA1:=Aside0.mk a1
 have HA2:=Aside0.mk a2
 clear a1 a2
 go_wp2_with (first | (go_at_call 59;(refine (HP.out g w0 _ (HA1.out _) (HA2.out _)).mono ?_);rintro e_ w1 ⟨v1,rfl,hi,hb,hk,hr⟩;obtain ⟨A1,cp1,rfl⟩:=Kd.R_slice hr;have HI1:=Aside0.mk hi;have HB1:=Aside0.mk hb;have HK1:=Aside0.mk hk;have HR1:=Aside0.mk hr;clear hi hb hk hr))
 have hz1:w.heap.size + 1 ≤ w1.heap.size:=by have:=HK1.out.1;simpa using this
 have HZ1:=Aside0.mk hz1
 have hr0:w1.heap[w.heap.size]? = some (.cells #[.int .u8 0,.string ⟨#[]⟩,.int .i64 0,.slice none 0 0] 24 (0,0)):=HK1.out.blk (blk_new w _) (by have:=HI.out.lt;omega) (by simp)
 have HR0:=Aside0.mk hr0
 clear hz1 hr0
 go_loopw [11] (fun u wr=>u = .int .i64 0 ∧ ∃ (l:S24) (j:Int) (v:Value),Chain toks cs 59 s op dp l j r n ∧ IsS67 w0 wr g toks cs j dp ∧ Below w0.heap.size w0 wr ∧ KeepBut w wr g none ∧ wr.heap[w1.heap.size]? = some (.cells #[.int .u8 l.f0,.string l.f1,.int .i64 l.f2,v] 24 (0,0)) ∧ wr.heap[w.heap.size]? = some (.cells #[.int .u8 0,.string ⟨#[]⟩,.int .i64 0,.slice none 0 0] 24 (0,0)) ∧ Kd.R k24 24 wr w.heap.size (fun k=>k ≠ w.heap.size ∧ k ≠ w1.heap.size) v l.f3) (fun _ wr=>(8192 - rdAt wr g).toNat)
 case atStart =>
  refine ⟨rfl,l,j,.slice A1 l.f3.length cp1,HC.out,HI1.out.alloc _,HB1.out.alloc HB1.out.size _,?_,blk_new _ _,blk_alloc HR0.out _,?_⟩
  ·exact keep_alloc ((keep_alloc (KeepBut.refl w g none) _).trans HK1.out (.inl rfl)) _
  ·refine Kd.R_mono (Kd.R_alloc (Kd.R_lower (Kd.R_bound HR1.out) (by simp)) _) (fun k hk=>?_)
   have q1:=hk.2.1
   have q2:=hk.2.2.1
   have q3:(w.alloc (.cells #[.int .u8 0,.string ⟨#[]⟩,.int .i64 0,.slice none 0 0] 24)).heap.size=w.heap.size + 1:=by simp
   rw [q3] at q1
   exact ⟨by omega,by omega⟩
 case round =>
  obtain ⟨rfl,l,j,v,hC,hI,hB,hK,hb1,hb0,hR⟩:=hrel
  obtain ⟨A2,cp2,rfl⟩:=Kd.R_slice hR
  have HIr:=Aside0.mk hI
  have HBr:=Aside0.mk hB
  have HKr:=Aside0.mk hK
  have HR:=Aside0.mk hR
  have Hb1:=Aside0.mk hb1
  have Hb0:=Aside0.mk hb0
  cases hC with
  | stop _ _ hs =>
   have HS:=Aside0.mk hs
   clear hI hB hK hR hb1 hb0 hs
   go_wp2_with (first | (go_at_call 80;(refine (lics_reader_sign.calls g toks cs _ dp s false _ dp w0 _ HIr.out HBr.out HS.out).mono ?_);rintro e_ w3 ⟨rfl,hi,hb,hk⟩;have f1:=hk.blk Hb1.out (by have:=HIr.out.ne_blk Hb1.out (by decide);omega) (by simp);have f0:=hk.blk Hb0.out (by have:=HIr.out.ne_blk Hb0.out (by decide);omega) (by simp);have c0:=blk_cell f1 0;have c1:=blk_cell f1 1;have c2:=blk_cell f1 2;have c3:=blk_cell f1 3;have d0:=blk_cell f0 0;have d1:=blk_cell f0 1;have d2:=blk_cell f0 2;have d3:=blk_cell f0 3;have k0:=blk_frozen f0 0;have k1:=blk_frozen f0 1;have k2:=blk_frozen f0 2;have k3:=blk_frozen f0 3;have F0:=Aside0.mk f0;have HI3:=Aside0.mk hi;have HB3:=Aside0.mk hb;have HK3:=Aside0.mk hk;clear f0 f1 hi hb hk))
   have hkw:=HKr.out.trans HK3.out (.inl rfl)
   have hR3:=Kd.R_keep (Kd.R_mono (Kd.R_bound HR.out) (fun k hk=>(⟨hk.1,hk.2.1⟩:(k ≠ w.heap.size ∧ k ≠ w1.heap.size) ∧ w.heap.size ≤ k))) HK3.out (fun k hk=>by have:=HI.out.lt;omega)
   obtain ⟨o1,o2,o3,o4,o5⟩:=lic_out (r:=r) HI3.out HB3.out hkw F0.out (Kd.R_mono hR3 (fun k hk=>hk.1.1)) HB.out.size HI.out.lt
   have e0:=blk_cell o5 0
   have e1:=blk_cell o5 1
   have e2:=blk_cell o5 2
   have e3:=blk_cell o5 3
   refine bodyPost_ret (v:=.tuple #[.agg #[.int .u8 r.f0,.string r.f1,.int .i64 r.f2,.slice A2 r.f3.length cp2],.int .i64 0]) ?_ rfl ⟨_,rfl,o1,o2,o3,o4⟩
   simp [results,Tryz.results58,go_sem,e0,e1,e2,e3]
  | more _ j m k _ _ hj hs hp hk hr =>
   have HS:=Aside0.mk hs
   have HP2:=Aside0.mk hp
   have HJ:=Aside0.mk hj
   have HKj:=Aside0.mk hk
   have HRr:=Aside0.mk hr
   have q4:IntKind.i64.wrap ((j:Int) + 1)=(j:Int) + 1:=IntWalk.i64_in _ (by omega)
   clear hI hB hK hR hb1 hb0 hs hp hj hk hr
   go_wp2_with (first | (go_at_call 80;(refine (lics_reader_sign.calls g toks cs _ dp s true _ dp w0 _ HIr.out HBr.out HS.out).mono ?_);rintro e_ w3 ⟨rfl,hi,hb,hk⟩;have f1:=hk.blk Hb1.out (by have:=HIr.out.ne_blk Hb1.out (by decide);omega) (by simp);have f0:=hk.blk Hb0.out (by have:=HIr.out.ne_blk Hb0.out (by decide);omega) (by simp);have F0:=Aside0.mk f0;have F1:=Aside0.mk f1;have HI3:=Aside0.mk hi;have HB3:=Aside0.mk hb;have HK3:=Aside0.mk hk;obtain ⟨A0',c0',A1',c1',hG,-,-,-⟩:=hi;have g2:=cellS67_2 hG;have gf:=blk_frozen hG 2;clear f0 f1 hG hb hk) | (go_at_call 59;(refine (HP2.out g w0 _ ((HI3.out.set_2 _).alloc _) ((HB3.out.setCell HI.out.ge _).alloc (by have:=HB3.out.size;simpa using this) _)).mono ?_);rintro e_ w4 ⟨v2,rfl,hi,hb,hk,hr⟩;obtain ⟨A3,cp3,rfl⟩:=Kd.R_slice hr;have HI4:=Aside0.mk hi;have HB4:=Aside0.mk hb;have HK4:=Aside0.mk hk;have HR4:=Aside0.mk hr;obtain ⟨g10,g0,g12,hn⟩:=chain_w4 HI.out.lt HZ1.out HKr.out HK3.out F1.out F0.out HK4.out;have x10:=four_far g10 (by omega:w1.heap.size ≠ w3.heap.size) (.int .u8 m.f0) (.string m.f1) (.int .i64 m.f2) (.slice A3 m.f3.length cp3);have x0:=four_far g0 (by have:=HZ1.out;omega:w.heap.size ≠ w3.heap.size) (.int .u8 m.f0) (.string m.f1) (.int .i64 m.f2) (.slice A3 m.f3.length cp3);have x12:=four_at g12 (.int .u8 m.f0) (.string m.f1) (.int .i64 m.f2) (.slice A3 m.f3.length cp3);have t0:=blk_cell g12 0;have t1:=blk_cell g12 1;have t2:=blk_cell g12 2;have t3:=blk_cell g12 3;have z0:=blk_frozen g12 0;have z1:=blk_frozen g12 1;have z2:=blk_frozen g12 2;have z3:=blk_frozen g12 3;have p0:World.cell? (four _ _ _ _ _ _) _=_:=blk_cell x10 0;have p1:World.cell? (four _ _ _ _ _ _) _=_:=blk_cell x10 1;have p2:World.cell? (four _ _ _ _ _ _) _=_:=blk_cell x10 2;have p3:World.cell? (four _ _ _ _ _ _) _=_:=blk_cell x10 3;have r0:World.cell? (four _ _ _ _ _ _) _=_:=blk_cell x12 0;have r1:World.cell? (four _ _ _ _ _ _) _=_:=blk_cell x12 1;have r2:World.cell? (four _ _ _ _ _ _) _=_:=blk_cell x12 2;have r3:World.cell? (four _ _ _ _ _ _) _=_:=blk_cell x12 3;unfold four at p0 p1 p2 p3 r0 r1 r2 r3;have y0:=fun o=>blk_cell (blk_alloc x10 o) 0;have y1:=fun o=>blk_cell (blk_alloc x10 o) 1;have y2:=fun o=>blk_cell (blk_alloc x10 o) 2;have y3:=fun o=>blk_cell (blk_alloc x10 o) 3;have h0:=fun o=>blk_frozen (blk_alloc x10 o) 0;have h1:=fun o=>blk_frozen (blk_alloc x10 o) 1;have h2:=fun o=>blk_frozen (blk_alloc x10 o) 2;have h3:=fun o=>blk_frozen (blk_alloc x10 o) 3;unfold four at y0 y1 y2 y3 h0 h1 h2 h3;have X10:=Aside0.mk x10;have X0:=Aside0.mk x0;have X12:=Aside0.mk x12;have HN:=Aside0.mk hn;clear hi hb hk hr g10 g0 g12 x10 x0 x12 hn))
   have z3:w.heap.size ≤ w3.heap.size:=(HKr.out.trans HK3.out (.inl rfl)).1
   have zc:((w3.setCell ⟨g,2,none⟩ (.int .i64 ((j:Int) + 1))).alloc (.cells #[.int .u8 0,.string ⟨#[]⟩,.int .i64 0,.slice none 0 0] 24)).heap.size=w3.heap.size + 1:=by simp
   have z4:w3.heap.size + 1 ≤ w4.heap.size:=by have:=HK4.out.1;rw [zc] at this;exact this
   have gl:=HI.out.lt
   have hn:=HN.out
   have hz1:=HZ1.out
   have zr:wr.heap.size ≤ w3.heap.size:=HK3.out.1
   have hl:Kd.R k24 24 (four w4 w3.heap.size (.int .u8 m.f0) (.string m.f1) (.int .i64 m.f2) (.slice A3 m.f3.length cp3)) w.heap.size (fun k=>k ≠ w.heap.size ∧ k ≠ w1.heap.size) (.slice A2 l.f3.length cp2) l.f3:=by
    have q:=Kd.R_mono (Kd.R_bound HR.out) (fun k hk=>(⟨hk.1,hk.2.1,hk.2.2.1⟩:(k ≠ w.heap.size ∧ k ≠ w1.heap.size) ∧ w.heap.size ≤ k ∧ k < wr.heap.size))
    have q2:=Kd.R_keep q HK3.out (fun k hk=>by omega)
    have q3:=Kd.R_keep (Kd.R_alloc (Kd.R_far (p:=⟨g,2,none⟩) q2 (fun k hk=>by simp only;omega) (.int .i64 ((j:Int) + 1))) (.cells #[.int .u8 0,.string ⟨#[]⟩,.int .i64 0,.slice none 0 0] 24)) HK4.out (fun k hk=>by omega)
    exact Kd.R_mono (R_four q3 (fun k hk=>by omega) _ _ _ _) (fun k hk=>hk.1)
   have hm':Kd.R k24 24 (four w4 w3.heap.size (.int .u8 m.f0) (.string m.f1) (.int .i64 m.f2) (.slice A3 m.f3.length cp3)) w.heap.size (fun k=>k ≠ w.heap.size ∧ k ≠ w1.heap.size) (.slice A3 m.f3.length cp3) m.f3:=by
    have q:=HR4.out
    rw [zc] at q
    have q2:=Kd.R_mono (Kd.R_bound q) (fun k hk=>(hk.2.1:w3.heap.size + 1 ≤ k))
    exact Kd.R_mono (Kd.R_lower (R_four q2 (fun k hk=>by omega) _ _ _ _) (by omega)) (fun k hk=>by omega)
   have hp:=pair_row hl hm' (by rw [four_size];omega) (by rw [four_size];omega)
   rw [four_size] at hp
   have hI7:=((HI4.out.four (by omega:g ≠ w3.heap.size) (.int .u8 m.f0) (.string m.f1) (.int .i64 m.f2) (.slice A3 m.f3.length cp3)).alloc (.cells #[.int .u8 l.f0,.string l.f1,.int .i64 l.f2,.slice A2 l.f3.length cp2,.int .u8 m.f0,.string m.f1,.int .i64 m.f2,.slice A3 m.f3.length cp3] 24)).four (by omega:g ≠ w1.heap.size) (.int .u8 op) (.string ⟨#[]⟩) (.int .i64 0) (.slice (some ⟨w4.heap.size,0,none⟩) 2 2)
   refine ⟨⟨rfl,⟨op,⟨#[]⟩,0,[l,m]⟩,k,.slice (some ⟨w4.heap.size,0,none⟩) 2 2,HRr.out,hI7,?_,?_,four_at (blk_alloc X10.out _) _ _ _ _,four_far (blk_alloc X0.out _) (by omega) _ _ _ _,R_four hp (fun k hk=>hk.2) _ _ _ _⟩,?_⟩
   ·exact below_four ((below_four HB4.out (by have:=HB3.out.size;omega) _ _ _ _).alloc (by rw [four_size];exact HB4.out.size) _) (by have:=HB.out.size;omega) _ _ _ _
   ·refine keep_four (keep_alloc (keep_four (KeepBut.trans ?_ HK4.out (.inl rfl)) (by omega) _ _ _ _) _) (by omega) _ _ _ _
    exact keep_alloc ((HKr.out.trans HK3.out (.inl rfl)).set_ _ _) _
   ·have e1:=hI7.at_eq
    unfold four at e1
    rw [e1,HIr.out.at_eq]
    have:=HKj.out
    have:=HJ.out
    omega
set_option maxHeartbeats 8000000 in
set_option maxRecDepth 100000 in
theorem lics_all.calls (toks:List S70) (cs:List S138) (hm:toks.length ≤ 8192) (i dp:Int) (l:S24) (j:Int) (r:S24) (n:Int) (hP:PartOK toks cs 81 i dp l j) (hC:Chain toks cs 81 ⟨#[38,38]⟩ 2 dp l j r n):PartOK toks cs 59 i dp r n:=by
 intro g w0 w hI hB
 have HI:=Aside0.mk hI
 have HB:=Aside0.mk hB
 have HP:=Aside0.mk hP
 have HC:=Aside0.mk hC
 clear hI hB hP hC
 go_enter Tryz.func59,Tryz.ntmps59
 go_wp2_with (first | (go_at_call 58;(refine (lics_chain_one.calls toks cs hm ⟨#[38,38]⟩ 2 i dp l j r n HP.out HC.out g w0 _ (HI.out.alloc _) (HB.out.alloc HB.out.size _)).mono ?_);rintro e_ w1 ⟨v1,rfl,hi,hb,hk,hr⟩;obtain ⟨A1,cp1,rfl⟩:=Kd.R_slice hr;have HI1:=Aside0.mk hi;have HB1:=Aside0.mk hb;have HK1:=Aside0.mk hk;have HR1:=Aside0.mk hr;have hr0:w1.heap[w.heap.size]? = some (.cells #[.int .u8 0,.string ⟨#[]⟩,.int .i64 0,.slice none 0 0] 24 (0,0)):=HK1.out.blk (blk_new w _) (by have:=HI.out.lt;omega) (by simp);have HR0:=Aside0.mk hr0;have d0:=blk_cell hr0 0;have d1:=blk_cell hr0 1;have d2:=blk_cell hr0 2;have d3:=blk_cell hr0 3;have k0:=blk_frozen hr0 0;have k1:=blk_frozen hr0 1;have k2:=blk_frozen hr0 2;have k3:=blk_frozen hr0 3;clear hi hb hk hr hr0))
 have hkw:=(keep_alloc (KeepBut.refl w g none) (.cells #[.int .u8 0,.string ⟨#[]⟩,.int .i64 0,.slice none 0 0] 24)).trans HK1.out (.inl rfl)
 have zc:(w.alloc (.cells #[.int .u8 0,.string ⟨#[]⟩,.int .i64 0,.slice none 0 0] 24)).heap.size=w.heap.size + 1:=by simp
 have hr:=HR1.out
 rw [zc] at hr
 have hr2:=Kd.R_lower (Kd.R_mono (Kd.R_bound hr) (fun k hk=>(by have:=hk.2.1;omega:k ≠ w.heap.size))) (Nat.le_succ w.heap.size)
 obtain ⟨o1,o2,o3,o4,o5⟩:=lic_out (r:=r) HI1.out HB1.out hkw HR0.out hr2 HB.out.size HI.out.lt
 have e0:=blk_cell o5 0
 have e1:=blk_cell o5 1
 have e2:=blk_cell o5 2
 have e3:=blk_cell o5 3
 refine bodyPost_ret (v:=.tuple #[.agg #[.int .u8 r.f0,.string r.f1,.int .i64 r.f2,.slice A1 r.f3.length cp1],.int .i64 0]) ?_ rfl ⟨_,rfl,o1,o2,o3,o4⟩
 simp [results,Tryz.results59,go_sem,e0,e1,e2,e3]
set_option maxHeartbeats 8000000 in
set_option maxRecDepth 100000 in
theorem lics_some.calls (toks:List S70) (cs:List S138) (hm:toks.length ≤ 8192) (i dp:Int) (l:S24) (j:Int) (r:S24) (n:Int) (hP:PartOK toks cs 59 i dp l j) (hC:Chain toks cs 59 ⟨#[124,124]⟩ 3 dp l j r n):PartOK toks cs 36 i dp r n:=by
 intro g w0 w hI hB
 have HI:=Aside0.mk hI
 have HB:=Aside0.mk hB
 have HP:=Aside0.mk hP
 have HC:=Aside0.mk hC
 clear hI hB hP hC
 go_enter Tryz.func36,Tryz.ntmps36
 go_wp2_with (first | (go_at_call 58;(refine (lics_chain_all.calls toks cs hm ⟨#[124,124]⟩ 3 i dp l j r n HP.out HC.out g w0 _ (HI.out.alloc _) (HB.out.alloc HB.out.size _)).mono ?_);rintro e_ w1 ⟨v1,rfl,hi,hb,hk,hr⟩;obtain ⟨A1,cp1,rfl⟩:=Kd.R_slice hr;have HI1:=Aside0.mk hi;have HB1:=Aside0.mk hb;have HK1:=Aside0.mk hk;have HR1:=Aside0.mk hr;have hr0:w1.heap[w.heap.size]? = some (.cells #[.int .u8 0,.string ⟨#[]⟩,.int .i64 0,.slice none 0 0] 24 (0,0)):=HK1.out.blk (blk_new w _) (by have:=HI.out.lt;omega) (by simp);have HR0:=Aside0.mk hr0;have d0:=blk_cell hr0 0;have d1:=blk_cell hr0 1;have d2:=blk_cell hr0 2;have d3:=blk_cell hr0 3;have k0:=blk_frozen hr0 0;have k1:=blk_frozen hr0 1;have k2:=blk_frozen hr0 2;have k3:=blk_frozen hr0 3;clear hi hb hk hr hr0))
 have hkw:=(keep_alloc (KeepBut.refl w g none) (.cells #[.int .u8 0,.string ⟨#[]⟩,.int .i64 0,.slice none 0 0] 24)).trans HK1.out (.inl rfl)
 have zc:(w.alloc (.cells #[.int .u8 0,.string ⟨#[]⟩,.int .i64 0,.slice none 0 0] 24)).heap.size=w.heap.size + 1:=by simp
 have hr:=HR1.out
 rw [zc] at hr
 have hr2:=Kd.R_lower (Kd.R_mono (Kd.R_bound hr) (fun k hk=>(by have:=hk.2.1;omega:k ≠ w.heap.size))) (Nat.le_succ w.heap.size)
 obtain ⟨o1,o2,o3,o4,o5⟩:=lic_out (r:=r) HI1.out HB1.out hkw HR0.out hr2 HB.out.size HI.out.lt
 have e0:=blk_cell o5 0
 have e1:=blk_cell o5 1
 have e2:=blk_cell o5 2
 have e3:=blk_cell o5 3
 refine bodyPost_ret (v:=.tuple #[.agg #[.int .u8 r.f0,.string r.f1,.int .i64 r.f2,.slice A1 r.f3.length cp1],.int .i64 0]) ?_ rfl ⟨_,rfl,o1,o2,o3,o4⟩
 simp [results,Tryz.results36,go_sem,e0,e1,e2,e3]
end Go.Proofs.YtjapfefiaijfcaaGreatDoor.Q
namespace Go.Proofs.YtjapfefiaijfcaaGreatDoor.Q
open Go.RowKit Go.Proofs.YtjapfefiaijfcaaGreatDoorW.PrintWords Go.Proofs.YtjapfefiaijfcaaGreatDoorW.PrintLast Go.Proofs.YtjapfefiaijfcaaGreatDoorW.PrintMore
set_option linter.unusedVariables false
theorem blk_below {w W:World} {b:Nat} {o:Obj} (h:w.heap[b]? = some o) (hb:Below w.heap.size w W):W.heap[b]? = some o:=(hb.block b (blk_lt h)).trans h
theorem of_aP {w5:World} {m:S24} {b B:Nat} {v:Value} (h:Kd.R k24 24 w5 B (fun _=>True) v m.f3) (hB:b ≤ B) (o:Obj):Kd.M k24 (w5.alloc o) b (fun k=>B ≤ k ∧ k < w5.heap.size) m [.int .u8 m.f0,.string m.f1,.int .i64 m.f2,v]:=k24_mkM _ _ _ _ (Kd.R_alloc (Kd.R_lower (Kd.R_mono (Kd.R_bound h) (fun k hk=>⟨hk.2.1,hk.2.2.1⟩)) hB) o)
inductive OfArgs (toks:List S70) (cs:List S138) (dp:Int):List S24 → Int → List S24 → Int → Prop
 | last (acc:List S24) (i:Nat) (m:S24) (j:Int):i < toks.length → PartOK toks cs 36 i dp m j → lics_reader_sign.f toks cs j dp ⟨#[44]⟩=some (false,j,dp) → OfArgs toks cs dp acc i (acc ++ [m]) j
 | more (acc:List S24) (i:Nat) (m:S24) (j:Nat) (res:List S24) (n:Int):i < toks.length → j < toks.length → i ≤ j → PartOK toks cs 36 i dp m j → lics_reader_sign.f toks cs j dp ⟨#[44]⟩=some (true,(j:Int),dp) → OfArgs toks cs dp (acc ++ [m]) ((j:Int) + 1) res n → OfArgs toks cs dp acc i res n
set_option maxHeartbeats 8000000 in
set_option maxRecDepth 100000 in
theorem lics_of.calls (toks:List S70) (cs:List S138) (hm:toks.length ≤ 8192) (i:Nat) (dp:Int) (x:S70) (d:ByteArray) (kk:Int) (res:List S24) (n n2:Int) (hi:i + 2 < toks.length) (hx:x=rd_T70 toks i) (hd:d=⟨(Lib.trimLeftB x.f1.data.toList 48).toArray⟩) (hd0:d.toList ≠ []) (hd4:d.size ≤ 4)
  (ha:Lib.atoi d.data.toList=some kk) (hE:lics_reader_enter.f toks cs ((i:Int) + 1) dp=some (0,(i:Int) + 2,dp + 1)) (hA:OfArgs toks cs (dp + 1) [] ((i:Int) + 2) res n) (hk:kk ≤ res.length) (hL:lics_reader_leave.f toks cs n (dp + 1)=some (0,n2,dp)) :
  PartOK toks cs 104 i dp ⟨4,⟨#[]⟩,kk,res⟩ n2:=by
 intro g w0 w hI hB
 have HI:=Aside0.mk hI
 have HB:=Aside0.mk hB
 have HX:=Aside0.mk hx
 have HD:=Aside0.mk hd
 have HD4:=Aside0.mk hd4
 have HA:=Aside0.mk ha
 have HE:=Aside0.mk hE
 have HAr:=Aside0.mk hA
 have HKk:=Aside0.mk hk
 have HLv:=Aside0.mk hL
 have q4:IntKind.i64.wrap ((i:Int) + 1)=(i:Int) + 1:=IntWalk.i64_in _ (by omega)
 obtain ⟨A0,c0,A1,c1,hG,hge,hS0,hS1⟩:=hI
 obtain ⟨ad,e0,x0,x1,x2,x3⟩:=at_T70 hS0 (i:Int) (by omega) (by omega)
 subst e0
 rw [← hx] at x1
 replace x1:=pw_cell_below hB x1
 rw [Int.toNat_natCast] at x1
 have p1:(0 ≤ (i:Int))=True:=eq_true (by omega)
 have p2:((i:Int) < (toks.length:Int))=True:=eq_true (by omega)
 have p3:(i < toks.length)=True:=eq_true (by omega)
 have g0:=cellS67_0 hG
 have g2:=cellS67_2 hG
 have gf:=blk_frozen hG 2
 have up:∀ (o:Obj) {a:Addr} {v:Value},w.cell? a=some v → (w.alloc o).cell? a=some v:=fun o {a} {v} h=>pw_cell_below ((Below.refl _ w).alloc (Nat.le_refl _) o) h
 have m0:=fun o=>up o g0
 have m2:=fun o=>up o g2
 have y1:=fun o=>up o x1
 have t1:(d.toList=[])=False:=eq_false hd0
 have t2:(d.toList == [])=false:=beq_eq_false_iff_ne.mpr hd0
 have b2:decide ((4:Int) < (d.size:Int))=false:=decide_eq_false (by omega)
 have b3:decide (4 < d.size)=false:=decide_eq_false (by omega)
 have HG:=Aside0.mk hG
 clear hd0 up hG hge hS0 hS1 hB hx x0 x1 x2 x3 g0 g2 hd hd4 ha hE hA hk hL hi
 go_enter Tryz.func104,Tryz.ntmps104
 go_wp2_with (fail)
 go_quiet ((refine (Tryz.strings_TrimLeft_one _ 48 (by decide) _).mono ?_;rintro e_ w_ ⟨rfl,rfl⟩;exact ⟨by rw [← HD.out],_,rfl⟩))
 generalize hW2:(w.alloc (.cells #[.int .u8 0,.string ⟨#[]⟩,.int .i64 0,.slice none 0 0] 24)).drewN _=W2
 have B2:Below w.heap.size w W2:=by rw [← hW2];exact pw_below_drewN ((Below.refl _ w).alloc (Nat.le_refl _) _) _
 have s2:W2.heap.size=w.heap.size + 1:=by rw [← hW2];simp
 have b2:W2.heap[w.heap.size]? = some (.cells #[.int .u8 0,.string ⟨#[]⟩,.int .i64 0,.slice none 0 0] 24 (0,0)):=by rw [← hW2];exact blk_drewN (blk_new w _) _
 have HS2:=Aside0.mk s2
 have HB2:=Aside0.mk B2
 have Hb2:=Aside0.mk b2
 clear s2 B2 b2 hW2 m0 m2 y1 gf
 go_wp2_with (first | (go_at_call 124;refine (Tryz.strconv_Atoi d kk (by have:=HD4.out;omega) HA.out _).mono ?_;rintro e_ w3 ⟨rfl,t,hw3⟩;have hb3:Below W2.heap.size W2 w3:=(by rw [hw3];exact bytes_below (Below.refl _ _) (Nat.le_refl _) 5 t);have bw3:=HB2.out.trans (hb3.mono (by have:=HS2.out;omega));have Hb3:=Aside0.mk (blk_below Hb2.out hb3);have HI3:=Aside0.mk (HI.out.below bw3);have HBw3:=Aside0.mk bw3;have g2:=cellS67_2 ((bw3.block g HI.out.lt).trans HG.out);have gf:=blk_frozen ((bw3.block g HI.out.lt).trans HG.out) 2;clear hw3 hb3 bw3) | (go_at_call 107;(refine (lics_reader_enter.calls g toks cs ((i:Int) + 1) dp 0 ((i:Int) + 2) (dp + 1) w0 _ (HI3.out.set_2 _) ((HB.out.trans (HBw3.out.mono HB.out.size)).setCell HI.out.ge _) HE.out).mono ?_);rintro e_ w4 ⟨rfl,hi,hb,hk⟩;have b4:=hk.blk (blk_far Hb3.out (p:=⟨g,2,none⟩) (by have:=HI.out.lt;simp only;omega) (.int .i64 ((i:Int) + 1))) (by have:=HI.out.lt;omega) (by simp);have Hb4:=Aside0.mk b4;have HI4:=Aside0.mk hi;have HB4:=Aside0.mk hb;have HK4:=Aside0.mk (((KeepBut.of_below HBw3.out g none).set_ _ _).trans hk (.inl rfl));clear b4 hi hb hk g2 gf))
 have hz4:w.heap.size + 1 ≤ w4.heap.size:=by have q:=blk_lt Hb4.out;omega
 have HN8:=Aside0.mk hz4
 clear hz4
 go_loopw [] (fun wr=>∃ (acc:List S24) (j:Int) (v:Value),OfArgs toks cs (dp + 1) acc j res n ∧ (acc.length:Int) ≤ j ∧ IsS67 w0 wr g toks cs j (dp + 1) ∧ Below w0.heap.size w0 wr ∧ KeepBut w wr g none ∧ wr.heap[w4.heap.size]? = some (.cells #[.int .u8 4,.string ⟨#[]⟩,.int .i64 kk,v] 24 (0,0)) ∧ wr.heap[w.heap.size]? = some (.cells #[.int .u8 0,.string ⟨#[]⟩,.int .i64 0,.slice none 0 0] 24 (0,0)) ∧ Kd.R k24 24 wr w.heap.size (fun k=>k ≠ w.heap.size ∧ k ≠ w4.heap.size) v acc) (fun wr=>(8192 - rdAt wr g).toNat)
 case atStart =>
  exact ⟨[],(i:Int) + 2,.slice none 0 0,HAr.out,by simp;omega,HI4.out.alloc _,HB4.out.alloc HB4.out.size _,keep_alloc HK4.out _,blk_new _ _,blk_alloc Hb4.out _,Kd.R_nil _ _ _ _ _⟩
 case round =>
  obtain ⟨acc,j,v,hA,hac,hI,hB,hK,hb8,hb0,hR⟩:=hrel
  obtain ⟨A2,cp2,rfl⟩:=Kd.R_slice hR
  have HIr:=Aside0.mk hI
  have HBr:=Aside0.mk hB
  have HKr:=Aside0.mk hK
  have HR:=Aside0.mk hR
  have Hb8:=Aside0.mk hb8
  have Hb0:=Aside0.mk hb0
  have HAc:=Aside0.mk hac
  have HZw:=Aside0.mk hK.1
  have HN8w:=Aside0.mk (blk_lt hb8)
  cases hA with
  | last _ j m n hj hp hs =>
   have HP2:=Aside0.mk hp
   have HS:=Aside0.mk hs
   have HJ:=Aside0.mk hj
   have hlen:((acc ++ [m]).length:Int)=(acc.length:Int) + 1:=by simp
   have hkk:=HKk.out
   rw [hlen] at hkk
   have u1:decide ((acc.length:Int) + 1 < kk)=false:=decide_eq_false (by omega)
   clear hlen hkk
   clear hI hB hK hR hb8 hb0 hp hs hj hac
   go_wp2_with (first | (go_at_call 36;(refine (HP2.out g w0 _ HIr.out HBr.out).mono ?_);rintro e_ w5 ⟨v2,rfl,hi,hb,hk,hr⟩;obtain ⟨A3,cp3,rfl⟩:=Kd.R_slice hr;have HI5:=Aside0.mk hi;have HB5:=Aside0.mk hb;have HK5:=Aside0.mk hk;have HR5:=Aside0.mk hr;have f8:=hk.blk Hb8.out (by have:=HI.out.lt;have:=HN8.out;omega) (by simp);have f0:=hk.blk Hb0.out (by have:=HI.out.lt;omega) (by simp);have a3:=fun o=>blk_cell (blk_alloc f8 o) 3;have F8:=Aside0.mk f8;have F0:=Aside0.mk f0;have hR5:=Kd.R_keep (Kd.R_mono (Kd.R_bound HR.out) (fun k hk=>(⟨hk.1,hk.2.1,hk.2.2.1⟩:(k ≠ w.heap.size ∧ k ≠ w4.heap.size) ∧ w.heap.size ≤ k ∧ k < wr.heap.size))) hk (fun k hk=>by have:=HI.out.lt;omega);have HRr5:=Aside0.mk hR5;have hN9:wr.heap.size ≤ w5.heap.size:=hk.1;have HN9:=Aside0.mk hN9;clear hi hb hk hr f8 f0 hR5 hN9) | ((with_reducible refine gate_builtin (b:=.append) (xs:=#[.tmp 61,.tmp 63]) rfl ?_);at_builtin;refine Kd.R_append k24 (w0:=w5.alloc (.cells #[.int .u8 m.f0,.string m.f1,.int .i64 m.f2,.slice A3 m.f3.length cp3] 24)) w.heap.size rfl (.tmp 61) (.tmp 63) 22 24 (.agg #[(.int .u8 0),(.string ⟨#[]⟩),(.int .i64 0),(.slice none 0 0)]) 56 rfl Tryz.underlying22 info24 rfl (by decide) (by omega) (.slice A2 acc.length cp2) acc m [.int .u8 m.f0,.string m.f1,.int .i64 m.f2,.slice A3 m.f3.length cp3] (fun k=>k ≠ w.heap.size ∧ k ≠ w4.heap.size ∧ k ≠ w5.heap.size) (fun k=>wr.heap.size ≤ k ∧ k < w5.heap.size) rfl ?aX ?aP ?aK ?aF ?aO ?aB ?aS ?aL ?_;(case aX=>simp [Act.eval]);(case aP=>exact of_aP HR5.out HZw.out _);(case aK=>exact fun k hk=>⟨⟨by have:=HN8.out;have:=HN8w.out;omega,by have:=HN8w.out;omega,by omega⟩,fun e=>by have:=HRr5.out.1 k e.symm;omega⟩);(case aF=>intro k hk;have hk2:w5.heap.size + 1 ≤ k:=(by simpa using hk);have:=HZw.out;have:=HN9.out;have:=HN8w.out;exact ⟨by omega,by omega,by omega⟩);(case aO=>exact Kd.R_mono (Kd.R_alloc HRr5.out _) (fun k hk=>⟨hk.1.1,hk.1.2,by have:=HN9.out;omega⟩));(case aB=>exact Below.refl _ _);(case aS=>have:=HZw.out;have:=HN9.out;simp;omega);(case aL=>have:=HAc.out;have:=HJ.out;omega);intro v1 w6 ho hb hg hat;obtain ⟨A4,cp4,rfl⟩:=Kd.R_slice ho;have f8:=blk_grown (blk_alloc F8.out (.cells #[.int .u8 m.f0,.string m.f1,.int .i64 m.f2,.slice A3 m.f3.length cp3] 24)) hg (Kd.R_away HRr5.out (fun k hk=>hk.1.2));have f0:=blk_grown (blk_alloc F0.out (.cells #[.int .u8 m.f0,.string m.f1,.int .i64 m.f2,.slice A3 m.f3.length cp3] 24)) hg (Kd.R_away HRr5.out (fun k hk=>hk.1.1));rw [List.length_append,List.length_singleton] at ho;have hI6:=(HI5.out.alloc (.cells #[.int .u8 m.f0,.string m.f1,.int .i64 m.f2,.slice A3 m.f3.length cp3] 24)).grown hg (Kd.R_away HRr5.out (fun k hk=>by have:=HI.out.lt;omega));have hB6:=(HB5.out.alloc HB5.out.size (.cells #[.int .u8 m.f0,.string m.f1,.int .i64 m.f2,.slice A3 m.f3.length cp3] 24)).trans (hb.mono HB.out.size);have hK6:=((keep_alloc (HKr.out.trans HK5.out (.inl rfl)) (.cells #[.int .u8 m.f0,.string m.f1,.int .i64 m.f2,.slice A3 m.f3.length cp3] 24)).trans (KeepBut.of_grown hg g) (Kd.R_base2 HRr5.out));have HI7:=Aside0.mk (hI6.far (p:=⟨w4.heap.size,3,none⟩) (by have:=HI.out.lt;have:=HN8.out;simp only;omega) (.slice A4 (acc.length + 1) cp4));have HB7:=Aside0.mk (hB6.setCell (p:=⟨w4.heap.size,3,none⟩) (by have:=HB.out.size;have:=HN8.out;simp only;omega) (.slice A4 (acc.length + 1) cp4));have HK7:=Aside0.mk (keep_far hK6 (p:=⟨w4.heap.size,3,none⟩) (by have:=HN8.out;simp only;omega) (.slice A4 (acc.length + 1) cp4));have HO7:=Aside0.mk (Kd.R_far ho (p:=⟨w4.heap.size,3,none⟩) (fun k hk=>hk.2.1) (.slice A4 (acc.length + 1) cp4));have G8:=Aside0.mk (blk_put f8 3 (.slice A4 (acc.length + 1) cp4) rfl);have G0:=Aside0.mk (blk_far f0 (p:=⟨w4.heap.size,3,none⟩) (by have:=HN8.out;simp only;omega) (.slice A4 (acc.length + 1) cp4));have c3:=blk_cell f8 3;have d3:=blk_frozen f8 3;clear ho hb hg hat f8 f0 hI6 hB6 hK6) | (go_at_call 80;(refine (lics_reader_sign.calls g toks cs _ (dp + 1) ⟨#[44]⟩ false _ (dp + 1) w0 _ HI7.out HB7.out HS.out).mono ?_);rintro e_ w8 ⟨rfl,hi,hb,hk⟩;have f8:=hk.blk G8.out (by have:=HI.out.lt;have:=HN8.out;omega) (by simp);have f0:=hk.blk G0.out (by have:=HI.out.lt;omega) (by simp);have hr8:=Kd.R_keep (Kd.R_mono (Kd.R_bound HO7.out) (fun k hk=>(⟨⟨hk.1.1,hk.1.2.1⟩,hk.2.1⟩:(k ≠ w.heap.size ∧ k ≠ w4.heap.size) ∧ w.heap.size ≤ k))) hk (fun k hk=>by have:=HI.out.lt;omega);have HI8:=Aside0.mk hi;have HB8:=Aside0.mk hb;have HK8:=Aside0.mk (HK7.out.trans hk (.inl rfl));have HR8:=Aside0.mk (Kd.R_mono hr8 (fun k hk=>hk.1));have g8:=blk_cell f8 3;have J8:=Aside0.mk f8;have J0:=Aside0.mk f0;obtain ⟨A0',c0',A1',c1',hG,-,-,-⟩:=hi;have gg2:=cellS67_2 hG;have ggf:=blk_frozen hG 2;clear f8 f0 hb hk hr8 hG))
   have ge0:=blk_cell J8.out 0
   have ge1:=blk_cell J8.out 1
   have ge2:=blk_cell J8.out 2
   clear gg2 ggf
   go_region_with (first | (go_at_call 108;(refine (lics_reader_leave.calls g toks cs _ (dp + 1) 0 n2 dp w0 _ (IsS67.drew HI8.out) (below_drew1 HB8.out) HLv.out).mono ?_);rintro e_ w9 ⟨rfl,hi,hb,hk⟩;have f8:=hk.blk (blk_drew J8.out) (by have:=HI.out.lt;have:=HN8.out;omega) (by simp);have f0:=hk.blk (blk_drew J0.out) (by have:=HI.out.lt;omega) (by simp);have hr9:=Kd.R_keep (Kd.R_drew (Kd.R_mono (Kd.R_bound HR8.out) (fun k hk=>(⟨hk.1,hk.2.1⟩:(k ≠ w.heap.size ∧ k ≠ w4.heap.size) ∧ w.heap.size ≤ k)))) hk (fun k hk=>by have:=HI.out.lt;omega);have HI9:=Aside0.mk hi;have HB9:=Aside0.mk hb;have HK9:=Aside0.mk ((keep_drew HK8.out).trans hk (.inl rfl));have HR9:=Aside0.mk (Kd.R_mono hr9 (fun k hk=>hk.1.1));have ga0:=blk_cell f8 0;have ga1:=blk_cell f8 1;have ga2:=blk_cell f8 2;have ga3:=blk_cell f8 3;have gb0:=blk_cell f0 0;have gb1:=blk_cell f0 1;have gb2:=blk_cell f0 2;have gb3:=blk_cell f0 3;have gc0:=blk_frozen f0 0;have gc1:=blk_frozen f0 1;have gc2:=blk_frozen f0 2;have gc3:=blk_frozen f0 3;have J9:=Aside0.mk f0;clear f8 f0 hi hb hk hr9))
   all_goals go_wp2_with (fail)
   all_goals (obtain ⟨o1,o2,o3,o4,o5⟩:=lic_out (r:=⟨4,⟨#[]⟩,kk,acc ++ [m]⟩) HI9.out HB9.out HK9.out J9.out HR9.out HB.out.size HI.out.lt;have e0:=blk_cell o5 0;have e1:=blk_cell o5 1;have e2:=blk_cell o5 2;have e3:=blk_cell o5 3;refine bodyPost_ret (v:=.tuple #[.agg #[.int .u8 4,.string ⟨#[]⟩,.int .i64 kk,.slice A4 (acc.length + 1) cp4],.int .i64 0]) ?_ rfl ⟨_,rfl,o1,o2,o3,o4⟩;simp [results,Tryz.results104,go_sem,e0,e1,e2,e3])
  | more _ j m k _ _ hj hk hjk hp hs hr =>
   have HP2:=Aside0.mk hp
   have HS:=Aside0.mk hs
   have HJ:=Aside0.mk hj
   have HKlt:=Aside0.mk hk
   have HJk:=Aside0.mk hjk
   have HRr:=Aside0.mk hr
   have q5:IntKind.i64.wrap ((k:Int) + 1)=(k:Int) + 1:=IntWalk.i64_in _ (by omega)
   clear hI hB hK hR hb8 hb0 hp hs hj hac hk hjk hr
   go_wp2_with (first | (go_at_call 36;(refine (HP2.out g w0 _ HIr.out HBr.out).mono ?_);rintro e_ w5 ⟨v2,rfl,hi,hb,hk,hr⟩;obtain ⟨A3,cp3,rfl⟩:=Kd.R_slice hr;have HI5:=Aside0.mk hi;have HB5:=Aside0.mk hb;have HK5:=Aside0.mk hk;have HR5:=Aside0.mk hr;have f8:=hk.blk Hb8.out (by have:=HI.out.lt;have:=HN8.out;omega) (by simp);have f0:=hk.blk Hb0.out (by have:=HI.out.lt;omega) (by simp);have a3:=fun o=>blk_cell (blk_alloc f8 o) 3;have F8:=Aside0.mk f8;have F0:=Aside0.mk f0;have hR5:=Kd.R_keep (Kd.R_mono (Kd.R_bound HR.out) (fun k hk=>(⟨hk.1,hk.2.1,hk.2.2.1⟩:(k ≠ w.heap.size ∧ k ≠ w4.heap.size) ∧ w.heap.size ≤ k ∧ k < wr.heap.size))) hk (fun k hk=>by have:=HI.out.lt;omega);have HRr5:=Aside0.mk hR5;have hN9:wr.heap.size ≤ w5.heap.size:=hk.1;have HN9:=Aside0.mk hN9;clear hi hb hk hr f8 f0 hR5 hN9) | ((with_reducible refine gate_builtin (b:=.append) (xs:=#[.tmp 61,.tmp 63]) rfl ?_);at_builtin;refine Kd.R_append k24 (w0:=w5.alloc (.cells #[.int .u8 m.f0,.string m.f1,.int .i64 m.f2,.slice A3 m.f3.length cp3] 24)) w.heap.size rfl (.tmp 61) (.tmp 63) 22 24 (.agg #[(.int .u8 0),(.string ⟨#[]⟩),(.int .i64 0),(.slice none 0 0)]) 56 rfl Tryz.underlying22 info24 rfl (by decide) (by omega) (.slice A2 acc.length cp2) acc m [.int .u8 m.f0,.string m.f1,.int .i64 m.f2,.slice A3 m.f3.length cp3] (fun k=>k ≠ w.heap.size ∧ k ≠ w4.heap.size ∧ k ≠ w5.heap.size) (fun k=>wr.heap.size ≤ k ∧ k < w5.heap.size) rfl ?aX ?aP ?aK ?aF ?aO ?aB ?aS ?aL ?_;(case aX=>simp [Act.eval]);(case aP=>exact of_aP HR5.out HZw.out _);(case aK=>exact fun k hk=>⟨⟨by have:=HN8.out;have:=HN8w.out;omega,by have:=HN8w.out;omega,by omega⟩,fun e=>by have:=HRr5.out.1 k e.symm;omega⟩);(case aF=>intro k hk;have hk2:w5.heap.size + 1 ≤ k:=(by simpa using hk);have:=HZw.out;have:=HN9.out;have:=HN8w.out;exact ⟨by omega,by omega,by omega⟩);(case aO=>exact Kd.R_mono (Kd.R_alloc HRr5.out _) (fun k hk=>⟨hk.1.1,hk.1.2,by have:=HN9.out;omega⟩));(case aB=>exact Below.refl _ _);(case aS=>have:=HZw.out;have:=HN9.out;simp;omega);(case aL=>have:=HAc.out;have:=HJ.out;omega);intro v1 w6 ho hb hg hat;obtain ⟨A4,cp4,rfl⟩:=Kd.R_slice ho;have f8:=blk_grown (blk_alloc F8.out (.cells #[.int .u8 m.f0,.string m.f1,.int .i64 m.f2,.slice A3 m.f3.length cp3] 24)) hg (Kd.R_away HRr5.out (fun k hk=>hk.1.2));have f0:=blk_grown (blk_alloc F0.out (.cells #[.int .u8 m.f0,.string m.f1,.int .i64 m.f2,.slice A3 m.f3.length cp3] 24)) hg (Kd.R_away HRr5.out (fun k hk=>hk.1.1));rw [List.length_append,List.length_singleton] at ho;have hI6:=(HI5.out.alloc (.cells #[.int .u8 m.f0,.string m.f1,.int .i64 m.f2,.slice A3 m.f3.length cp3] 24)).grown hg (Kd.R_away HRr5.out (fun k hk=>by have:=HI.out.lt;omega));have hB6:=(HB5.out.alloc HB5.out.size (.cells #[.int .u8 m.f0,.string m.f1,.int .i64 m.f2,.slice A3 m.f3.length cp3] 24)).trans (hb.mono HB.out.size);have hK6:=((keep_alloc (HKr.out.trans HK5.out (.inl rfl)) (.cells #[.int .u8 m.f0,.string m.f1,.int .i64 m.f2,.slice A3 m.f3.length cp3] 24)).trans (KeepBut.of_grown hg g) (Kd.R_base2 HRr5.out));have HI7:=Aside0.mk (hI6.far (p:=⟨w4.heap.size,3,none⟩) (by have:=HI.out.lt;have:=HN8.out;simp only;omega) (.slice A4 (acc.length + 1) cp4));have HB7:=Aside0.mk (hB6.setCell (p:=⟨w4.heap.size,3,none⟩) (by have:=HB.out.size;have:=HN8.out;simp only;omega) (.slice A4 (acc.length + 1) cp4));have HK7:=Aside0.mk (keep_far hK6 (p:=⟨w4.heap.size,3,none⟩) (by have:=HN8.out;simp only;omega) (.slice A4 (acc.length + 1) cp4));have HO7:=Aside0.mk (Kd.R_far ho (p:=⟨w4.heap.size,3,none⟩) (fun k hk=>hk.2.1) (.slice A4 (acc.length + 1) cp4));have G8:=Aside0.mk (blk_put f8 3 (.slice A4 (acc.length + 1) cp4) rfl);have G0:=Aside0.mk (blk_far f0 (p:=⟨w4.heap.size,3,none⟩) (by have:=HN8.out;simp only;omega) (.slice A4 (acc.length + 1) cp4));have c3:=blk_cell f8 3;have d3:=blk_frozen f8 3;clear ho hb hg hat f8 f0 hI6 hB6 hK6) | (go_at_call 80;(refine (lics_reader_sign.calls g toks cs _ (dp + 1) ⟨#[44]⟩ true _ (dp + 1) w0 _ HI7.out HB7.out HS.out).mono ?_);rintro e_ w8 ⟨rfl,hi,hb,hk⟩;have f8:=hk.blk G8.out (by have:=HI.out.lt;have:=HN8.out;omega) (by simp);have f0:=hk.blk G0.out (by have:=HI.out.lt;omega) (by simp);have hr8:=Kd.R_keep (Kd.R_mono (Kd.R_bound HO7.out) (fun k hk=>(⟨⟨hk.1.1,hk.1.2.1⟩,hk.2.1⟩:(k ≠ w.heap.size ∧ k ≠ w4.heap.size) ∧ w.heap.size ≤ k))) hk (fun k hk=>by have:=HI.out.lt;omega);have HI8:=Aside0.mk hi;have HB8:=Aside0.mk hb;have HK8:=Aside0.mk (HK7.out.trans hk (.inl rfl));have HR8:=Aside0.mk (Kd.R_mono hr8 (fun k hk=>hk.1));have g8:=blk_cell f8 3;have J8:=Aside0.mk f8;have J0:=Aside0.mk f0;obtain ⟨A0',c0',A1',c1',hG,-,-,-⟩:=hi;have gg2:=cellS67_2 hG;have ggf:=blk_frozen hG 2;clear f8 f0 hb hk hr8 hG))
   have hI9:=HI8.out.set_2 ((k:Int) + 1)
   refine ⟨⟨acc ++ [m],(k:Int) + 1,.slice A4 (acc.length + 1) cp4,HRr.out,?_,hI9,HB8.out.setCell HI.out.ge _,HK8.out.set_ _ _,blk_far J8.out (by have:=HI.out.lt;have:=HN8.out;simp only;omega) _,blk_far J0.out (by have:=HI.out.lt;simp only;omega) _,?_⟩,?_⟩
   ·have:=HAc.out;have:=HJk.out;simp;omega
   ·exact Kd.R_mono (Kd.R_far (Kd.R_mono (Kd.R_bound HR8.out) (fun k hk=>(⟨hk.1,hk.2.1⟩:(k ≠ w.heap.size ∧ k ≠ w4.heap.size) ∧ w.heap.size ≤ k))) (fun k hk=>by have:=HI.out.lt;simp only;omega) _) (fun k hk=>hk.1)
   ·rw [hI9.at_eq,HIr.out.at_eq]
    have:=HJk.out
    have:=HKlt.out
    omega
end Go.Proofs.YtjapfefiaijfcaaGreatDoor.Q
namespace Go.Proofs.YtjapfefiaijfcaaGreatDoor.Q
open Go.RowKit Go.Proofs.YtjapfefiaijfcaaGreatDoorW.PrintWords Go.Proofs.YtjapfefiaijfcaaGreatDoorW.PrintLast Go.Proofs.YtjapfefiaijfcaaGreatDoorW.PrintMore
set_option linter.unusedVariables false
set_option maxHeartbeats 8000000 in
set_option maxRecDepth 100000 in
theorem lics_one_of.calls (toks:List S70) (cs:List S138) (i:Nat) (dp:Int) (x:S70) (r:S24) (n:Int) (hi:i < toks.length) (hm:toks.length ≤ 8192) (hx:x=rd_T70 toks i) (hk:x.f0=5) (hP:PartOK toks cs 104 i dp r n):PartOK toks cs 81 i dp r n:=by
 intro g w0 w hI hB
 have HI:=Aside0.mk hI
 have HB:=Aside0.mk hB
 have HX:=Aside0.mk hx
 have HP:=Aside0.mk hP
 clear hP
 have q1:decide ((i:Int) < (toks.length:Int))=true:=decide_eq_true (by omega)
 have q2:((i:Int) == (toks.length:Int))=false:=beq_eq_false_iff_ne.mpr (by omega)
 have q3:(i == toks.length)=false:=beq_eq_false_iff_ne.mpr (by omega)
 have q4:IntKind.i64.wrap ((i:Int) + 1)=(i:Int) + 1:=IntWalk.i64_in _ (by omega)
 obtain ⟨A0,c0,A1,c1,hG,hge,hS0,hS1⟩:=hI
 obtain ⟨ad,e0,x0,x1,x2,x3⟩:=at_T70 hS0 (i:Int) (by omega) (by omega)
 subst e0
 rw [← hx] at x0 x1 x2 x3
 rw [hk] at x0
 replace x0:=pw_cell_below hB x0
 replace x1:=pw_cell_below hB x1
 replace x2:=pw_cell_below hB x2
 replace x3:=pw_cell_below hB x3
 have p1:(0 ≤ (i:Int))=True:=eq_true (by omega)
 have p2:((i:Int) < (toks.length:Int))=True:=eq_true (by omega)
 have p3:(i < toks.length)=True:=eq_true hi
 have g0:=cellS67_0 hG
 have g1:=cellS67_1 hG
 have g2:=cellS67_2 hG
 have g3:=cellS67_3 hG
 have gf:=blk_frozen hG 2
 have HG:=Aside0.mk hG
 clear hG hge hS0 hS1 hB hx hi
 have up:∀ (o:Obj) {a:Addr} {v:Value},w.cell? a=some v → (w.alloc o).cell? a=some v:=fun o {a} {v} h=>pw_cell_below ((Below.refl _ w).alloc (Nat.le_refl _) o) h
 have m0:=fun o=>up o g0
 have m2:=fun o=>up o g2
 have y0:=fun o=>up o x0
 have y1:=fun o=>up o x1
 have y2:=fun o=>up o x2
 have y3:=fun o=>up o x3
 clear up
 go_enter Tryz.func81,Tryz.ntmps81
 go_wp2_with (fail)
 go_quiet (fail)
 go_wp2_with (fail)
 generalize hW:(w.alloc (.cells #[.int .u8 0,.string ⟨#[]⟩,.int .i64 0,.slice none 0 0] 24)).drewN _=W
 have m0':W.cell? ⟨g,0,none⟩=some (.slice (some ad) toks.length c0):=by rw [← hW];exact m0 _
 have m2':W.cell? ⟨g,2,none⟩=some (.int .i64 i):=by rw [← hW];exact m2 _
 have y0':W.cell? (ad.add (i * 4))=some (.int .u8 5):=by rw [← hW];exact y0 _
 have y1':W.cell? ⟨(ad.add (i * 4)).block,(ad.add (i * 4)).off + 1,none⟩=some (.string x.f1):=by rw [← hW];exact y1 _
 have y2':W.cell? ⟨(ad.add (i * 4)).block,(ad.add (i * 4)).off + 2,none⟩=some (.int .i64 x.f2):=by rw [← hW];exact y2 _
 have y3':W.cell? ⟨(ad.add (i * 4)).block,(ad.add (i * 4)).off + 3,none⟩=some (.int .i64 x.f3):=by rw [← hW];exact y3 _
 have HW:=Aside0.mk hW
 have up2:∀ (o:Obj) {a:Addr} {v:Value},W.cell? a=some v → (W.alloc o).cell? a=some v:=fun o {a} {v} h=>pw_cell_below ((Below.refl _ W).alloc (Nat.le_refl _) o) h
 have m0'':=fun o=>up2 o m0'
 have m2'':=fun o=>up2 o m2'
 have y0'':=fun o=>up2 o y0'
 have y1'':=fun o=>up2 o y1'
 have y2'':=fun o=>up2 o y2'
 have y3'':=fun o=>up2 o y3'
 clear hW m0 m2 y0 y1 y2 y3 up2
 go_region
 generalize hW2:(W.alloc (.cells #[.int .u8 5,.string x.f1,.int .i64 x.f2,.int .i64 x.f3] 70)).drew=W2
 have b1:W2.heap[W.heap.size]? = some (.cells #[.int .u8 5,.string x.f1,.int .i64 x.f2,.int .i64 x.f3] 70 (0,0)):=by rw [← hW2];exact blk_new W _
 have B1:Below w.heap.size w W:=by rw [← HW.out];exact pw_below_drewN ((Below.refl _ w).alloc (Nat.le_refl _) _) _
 have s1:W.heap.size=w.heap.size + 1:=by rw [← HW.out];simp
 have HS1:=Aside0.mk s1
 have B2:Below w.heap.size w W2:=by rw [← hW2];exact below_drew1 (B1.alloc B1.size _)
 have b2:W2.heap[w.heap.size]? = some (.cells #[.int .u8 0,.string ⟨#[]⟩,.int .i64 0,.slice none 0 0] 24 (0,0)):=by
  rw [← hW2]
  refine blk_drew (blk_alloc ?_ _)
  rw [← HW.out];exact blk_drewN (blk_new w _) _
 have IW2:IsS67 w0 W2 g toks cs i dp:=HI.out.below B2
 have hG:=(B2.block g HI.out.lt).trans HG.out
 have c1:=blk_cell b1 0
 have c2:=blk_cell b1 1
 have c3:=cellS67_2 hG
 have c4:=blk_frozen hG 2
 have gl:=HI.out.lt
 have n1:g ≠ W.heap.size:=by omega
 have HI2:=Aside0.mk IW2
 have Hb1:=Aside0.mk b1
 have Hb2:=Aside0.mk b2
 have HB2:=Aside0.mk B2
 clear s1 c2 c3 c4 hG b1 b2 B1 B2 IW2 m0' m2' y0' y1' y2' y3' m0'' m2'' y0'' y1'' y2'' y3'' g0 g1 g2 g3 x0 x1 x2 x3 hW2
 go_wp2_with (first | (go_at_call 104;(refine (HP.out g w0 _ HI2.out (HB.out.trans (HB2.out.mono HB.out.size))).mono ?_);rintro e_ w3 ⟨v1,rfl,hi,hb,hk,hr⟩;obtain ⟨A3,cp3,rfl⟩:=Kd.R_slice hr;have HI3:=Aside0.mk hi;have HB3:=Aside0.mk hb;have HK3:=Aside0.mk ((KeepBut.of_below HB2.out g none).trans hk (.inl rfl));have HR3:=Aside0.mk hr;have hr0:=hk.blk Hb2.out (by have:=HI.out.lt;omega) (by simp);have HR0:=Aside0.mk hr0;have HZ:=Aside0.mk (blk_lt Hb2.out);have d0:=blk_cell hr0 0;have d1:=blk_cell hr0 1;have d2:=blk_cell hr0 2;have d3:=blk_cell hr0 3;have k0:=blk_frozen hr0 0;have k1:=blk_frozen hr0 1;have k2:=blk_frozen hr0 2;have k3:=blk_frozen hr0 3;clear hi hb hk hr hr0))
 have hr2:=Kd.R_lower (Kd.R_mono (Kd.R_bound HR3.out) (fun k hk=>(by have:=hk.2.1;have:=HZ.out;omega:k ≠ w.heap.size))) (Nat.le_of_lt HZ.out)
 obtain ⟨o1,o2,o3,o4,o5⟩:=lic_out (r:=r) HI3.out HB3.out HK3.out HR0.out hr2 HB.out.size HI.out.lt
 have e0:=blk_cell o5 0
 have e1:=blk_cell o5 1
 have e2:=blk_cell o5 2
 have e3:=blk_cell o5 3
 refine bodyPost_ret (v:=.tuple #[.agg #[.int .u8 r.f0,.string r.f1,.int .i64 r.f2,.slice A3 r.f3.length cp3],.int .i64 0]) ?_ rfl ⟨_,rfl,o1,o2,o3,o4⟩
 simp [results,Tryz.results81,go_sem,e0,e1,e2,e3]
end Go.Proofs.YtjapfefiaijfcaaGreatDoor.Q
namespace Go.Proofs.YtjapfefiaijfcaaGreatDoor.Q
open Go.RowKit Go.Proofs.YtjapfefiaijfcaaGreatDoorW.PrintWords Go.Proofs.YtjapfefiaijfcaaGreatDoorW.PrintLast Go.Proofs.YtjapfefiaijfcaaGreatDoorW.PrintMore
set_option linter.unusedVariables false
theorem one_row {W:World} {base:Nat} {ok:Nat → Prop} {l:S24} {va:Value} (hl:Kd.R k24 24 W base ok va l.f3) (hb:base ≤ W.heap.size) (hf:ok W.heap.size) :
  Kd.R k24 24 (W.alloc (.cells #[.int .u8 l.f0,.string l.f1,.int .i64 l.f2,va] 24)) base ok (.slice (some ⟨W.heap.size,0,none⟩) 1 1) [l]:=by
 have hrep:Reps (k24.M W base ok) 4 [l] [.int .u8 l.f0,.string l.f1,.int .i64 l.f2,va]:=by
  refine ⟨by simp,fun j p hj=>?_⟩
  rcases j with _ | j
  ·simp at hj;subst hj
   exact k24_mkM _ _ _ _ hl
  ·simp at hj
 refine ⟨fun k hk=>?_,_,?_,hrep.imp_ (fun p c hp=>k24.M_mono (fun k hk=>⟨hk.1,fun he=>?_⟩) (Kd.M_below (k24.M_bound hp) (below_alloc (Below.refl _ _) _)))⟩
 ·have:W.heap.size=k:=by simpa [Value.ownBlock] using hk
  subst this
  exact hf
 ·have h2:=World.ownsRow_lit (base:=base) (e:=24) (size:=4) W #[.int .u8 l.f0,.string l.f1,.int .i64 l.f2,va] 1 hb (by simp [maxLen]) (by simp)
  exact h2
 ·have h3:k=W.heap.size:=by simpa [Value.ownBlock] using he
  have:=hk.2.2.1
  omega
end Go.Proofs.YtjapfefiaijfcaaGreatDoor.Q
namespace Go.Proofs.YtjapfefiaijfcaaGreatDoor.Q
open Go.RowKit Go.Proofs.YtjapfefiaijfcaaGreatDoorW.PrintWords Go.Proofs.YtjapfefiaijfcaaGreatDoorW.PrintLast Go.Proofs.YtjapfefiaijfcaaGreatDoorW.PrintMore
set_option linter.unusedVariables false
def HoldP (p:Prop):Prop:=p
theorem HoldP.out {p:Prop} (h:HoldP p):p:=h
def HeadB (T:TypeId):Prop:=liesAt Tryz.prog Tryz.prog.depth T (2 / Tryz.prog.cellsOf T) 0 50 1=true
theorem headB50:HeadB 50:=by unfold HeadB;kernel_rfl
theorem info50:(Tryz.prog.info? 50).map (·.size)=some 2:=by kernel_rfl
set_option maxHeartbeats 1000000 in
set_option maxRecDepth 100000 in
theorem builder_check_used (b:Nat) (w:World) (h0:w.cell? ⟨b,0,none⟩=some (.pointer (some ⟨b,0,none⟩))) :
  Calls Tryz.prog 64 #[.pointer (some ⟨b,0,none⟩)] w fun e w'=>e = .returned (.tuple #[]) ∧ w' = w:=by
 obtain ⟨j,hj,-⟩:=Option.map_eq_some_iff.1 info50
 go_enter Tryz.func64,Tryz.ntmps64
 go_wp2
 rw [Lib.run_neq_ptr_same w _ Tryz.underlying47 hj]
 go_wp2
 go_end0
 exact ⟨rfl,rfl⟩
set_option maxHeartbeats 1000000 in
set_option maxRecDepth 100000 in
theorem builder_check_fresh (T:TypeId) (hT:HeadB T) (b:Nat) (w:World) (h0:w.cell? ⟨b,0,none⟩=some (.pointer none)) (hsh:w.shape? b=some (T,2)) (hfz:w.frozen? ⟨b,0,none⟩=false) :
  Calls Tryz.prog 64 #[.pointer (some ⟨b,0,none⟩)] w fun e w'=>e = .returned (.tuple #[]) ∧ w' = w.setCell ⟨b,0,none⟩ (.pointer (some ⟨b,0,none⟩)):=by
 obtain ⟨j,hj,hjs⟩:=Option.map_eq_some_iff.1 info50
 go_enter Tryz.func64,Tryz.ntmps64
 go_wp2
 rw [Lib.run_to_unsafe w ⟨b,0,none⟩ Tryz.underlying47 Tryz.underlying123 hj (by rw [hjs];decide) hsh (Nat.zero_lt_succ 1)]
 simp only [Result.andThen]
 rw [Oper.upon_value]
 go_wp2
 rw [run_callFunc_extern Tryz.func88 (by kernel_rfl) (by kernel_rfl) (by kernel_rfl) (e:=Extern.AbiNoEscape.same) (by kernel_rfl)]
 rw [Lib.run_noEscape]
 simp only [Result.andThen]
 rw [Oper.upon_value]
 go_wp2
 rw [Lib.run_from_unsafe w ⟨b,0,none⟩ Tryz.underlying123 Tryz.underlying47 hj hsh hT]
 simp only [Result.andThen]
 rw [Oper.upon_value]
 go_wp2
 go_end0
 exact ⟨rfl,rfl⟩
theorem run_append_str_at {P:Program} (w:World) (base:Nat) (t u ty e:TypeId) (i:TypeInfo) (ht:P.underlying t=some (.slice e)) (hu:P.underlying u=some .string) (hi:P.info? e=some i) (hz:i.zero=some (.int .u8 0))
  (hsize:i.size=1) (hby:i.bytes=1) (v:Value) (n:Nat) (xs:List Value) (hown:w.ownsRow base e 1 v n xs) (s:ByteArray) (h63:n + s.size ≤ maxLen) (hbytes:n + s.size ≤ 140737488355328) (hbase:base ≤ w.heap.size) :
  ∃ v' w',(Builtin.append_ #[t,u] ty #[v,.string s]).run P w = .ok v' w' ∧ w'.ownsRow base e 1 v' (n + s.size) (xs ++ Lib.strCells s) ∧ w.grownBy w' v.ownBlock ∧ (v'.ownBlock=v.ownBlock ∨ ∃ k,v'.ownBlock=some k ∧ w.heap.size ≤ k):=by
 obtain ⟨v',w',hr,h2,h3,-⟩:=Lib.run_append_own_string (P:=P) w base t u ty e i ht hu hi hz hsize hby v n xs hown s h63 hbytes hbase
 refine ⟨v',w',hr,h2,h3,?_⟩
 rcases hown.2 with ⟨hv,hn⟩ | ⟨g,cap,cur,hv,hbg,hg,hnc,hcm,hcs,htk⟩
 ·obtain ⟨v2,w2,hr2,k2,-,-⟩:=Lib.run_append_own_string (P:=P) w w.heap.size t u ty e i ht hu hi hz hsize hby v n xs ⟨hown.1,.inl ⟨hv,hn⟩⟩ s h63 hbytes (Nat.le_refl _)
  rw [hr] at hr2
  injection hr2 with e1 e2
  subst e1;subst e2
  rcases k2.2 with ⟨q,-⟩ | ⟨g,cap,cur,q,hge,-⟩
  ·left;rw [q,hv]
  ·right;exact ⟨g,by rw [q];rfl,hge⟩
 ·subst hv
  have hsm:n + s.size ≤ 9223372036854775807:=by simp only [maxLen] at h63;omega
  by_cases hroom:n + s.size ≤ cap
  ·have hr2:=Lib.run_append_room_string (P:=P) w t u ty e i ht hu hi hsize g n cap cur hg s hroom (by simpa using hcs ▸ (by omega))
   rw [hr] at hr2
   injection hr2 with e1 e2
   left;rw [e1];rfl
  ·have holds:∀ j u,xs[j]? = some u → w.cell? ((⟨g,0,none⟩:Addr).add j)=some u:=hown.cells (g:=g) rfl
   have hr2:=Lib.run_append_grow_string (P:=P) w t u ty e i (.int .u8 0) ht hu hi hz ⟨g,0,none⟩ n cap xs (by rw [hsize];exact hown.1) holds s (by omega) (by omega) (by rw [hby];exact growslice_fits (by omega) (by omega))
   rw [hr] at hr2
   injection hr2 with e1 e2
   right;exact ⟨w.heap.size,by rw [e1];rfl,Nat.le_refl _⟩
theorem wpList_append_str_at {P:Program} {w:World} {ops:Array Oper} {rest:List Oper} {o:Oper} {a:Act} {Q:Exit → Act → World → Prop} (hgd:o.guard=none) (sl x:Operand) (t u:TypeId)
  (ho:o.op = .call { callee:=.builtin .append,args:=#[sl,x],argTypes:=#[t,u] })
  (base:Nat) (e:TypeId) (i:TypeInfo) (ht:P.underlying t=some (.slice e)) (hu:P.underlying u=some .string) (hi:P.info? e=some i) (hz:i.zero=some (.int .u8 0)) (hsize:i.size=1) (hby:i.bytes=1)
  (v:Value) (n:Nat) (xs:List Value) (hs:a.eval sl=v) (hown:w.ownsRow base e 1 v n xs) (s:ByteArray) (hx:a.eval x = .string s) (h63:n + s.size ≤ maxLen) (hbytes:n + s.size ≤ 140737488355328) (hbase:base ≤ w.heap.size)
  (h:∀ v' w',w'.ownsRow base e 1 v' (n + s.size) (xs ++ Lib.strCells s) → w.grownBy w' v.ownBlock → (v'.ownBlock=v.ownBlock ∨ ∃ k,v'.ownBlock=some k ∧ w.heap.size ≤ k) → wpList P ops Q rest (a.put o.dst v') w'):wpList P ops Q (o :: rest) a w:=by
 refine wpList_plain hgd fun K hK=>?_
 obtain ⟨v',w',hr,h2,h3,h4⟩:=run_append_str_at (P:=P) w base t u o.type e i ht hu hi hz hsize hby v n xs hown s h63 hbytes hbase
 unfold Oper.wp execOp
 simp only [ho,resolve,invoke,Go.builtin,Sem.run_bind,Sem.run_pure,Result.andThen_ok,List.map_toArray,List.map_cons,List.map_nil,hs,hx,hr]
 exact hK _ _ (h v' w' h2 h3 h4)
structure BldAt (T:TypeId) (B b:Nat) (v:Value) (t:ByteArray) (w:World):Prop where
 ge:B ≤ b
 box:w.heap[b]? = some (.cells #[.pointer none,v] T (0,0)) ∨ w.heap[b]? = some (.cells #[.pointer (some ⟨b,0,none⟩),v] T (0,0))
 row:w.ownsRow B 5 1 v t.size (Lib.strCells t)
 ne:v.ownBlock ≠ some b
theorem BldAt.lt {T:TypeId} {B b:Nat} {v:Value} {t:ByteArray} {w:World} (h:BldAt T B b v t w):b < w.heap.size:=h.box.elim blk_lt blk_lt
theorem BldAt.own_lt {T:TypeId} {B b:Nat} {v:Value} {t:ByteArray} {w:World} (h:BldAt T B b v t w):∀ k,v.ownBlock=some k → B ≤ k ∧ k < w.heap.size:=by
 intro k hk
 rcases h.row.2 with ⟨rfl,-⟩ | ⟨g,cap,cur,rfl,hg,hc,-⟩
 ·cases hk
 ·obtain rfl:g=k:=Option.some.inj hk
  exact ⟨hg,blk_lt hc⟩
theorem builder_check_own (T:TypeId) (hT:HeadB T) (B b:Nat) (v:Value) (t:ByteArray) (w:World) (h:BldAt T B b v t w) :
  Calls Tryz.prog 64 #[.pointer (some ⟨b,0,none⟩)] w fun e w'=>e = .returned (.tuple #[]) ∧ w'.heap[b]? = some (.cells #[.pointer (some ⟨b,0,none⟩),v] T (0,0)) ∧ w'.ownsRow B 5 1 v t.size (Lib.strCells t) ∧ KeepBut w w' b none ∧ Below B w w':=by
 rcases h.box with q | q
 ·refine (builder_check_fresh T hT b w (by rw [Lib.cell_of_heap q];rfl) (by simp [World.shape?,q]) (Lib.frozen_of_heap q 0)).mono ?_
  rintro e w' ⟨rfl,rfl⟩
  have hb2:(w.setCell ⟨b,0,none⟩ (.pointer (some ⟨b,0,none⟩))).heap[b]? = some (.cells #[.pointer (some ⟨b,0,none⟩),v] T (0,0)):=blk_put q 0 _ rfl
  refine ⟨rfl,hb2,?_,(KeepBut.refl w b none).set_ 0 _,(Below.refl B w).setCell (p:=⟨b,0,none⟩) h.ge _⟩
  obtain ⟨h1,h2⟩:=h.row
  refine ⟨h1,h2.imp id ?_⟩
  rintro ⟨g,cap,cur,rfl,hg,hc,r⟩
  exact ⟨g,cap,cur,rfl,hg,blk_far hc (p:=⟨b,0,none⟩) (fun e=>h.ne (show some g=some b from congrArg some e)) _,r⟩
 ·refine (builder_check_used b w (by rw [Lib.cell_of_heap q];rfl)).mono ?_
  rintro e w' ⟨rfl,rfl⟩
  exact ⟨rfl,q,h.row,KeepBut.refl _ _ _,Below.refl B _⟩
structure Wrote (T:TypeId) (B b:Nat) (v:Value) (t:ByteArray) (w w':World) (v':Value):Prop where
 at_:BldAt T B b v' t w'
 own:v'.ownBlock=v.ownBlock ∨ ∃ k,v'.ownBlock=some k ∧ w.heap.size ≤ k
 keep:KeepBut w w' b v.ownBlock
 below:Below B w w'
def WroteE (T:TypeId) (B b:Nat) (v:Value) (t:ByteArray) (w w':World):Prop:=∃ v',Wrote T B b v t w w' v'
theorem Wrote.trans {T:TypeId} {B b:Nat} {v v1 v2:Value} {t1 t2:ByteArray} {w w1 w2:World} (h:Wrote T B b v t1 w w1 v1) (k:Wrote T B b v1 t2 w1 w2 v2):Wrote T B b v t2 w w2 v2 :=
 ⟨k.at_,by
  rcases k.own with q | ⟨j,q,hj⟩
  ·rw [q];exact h.own
  ·exact .inr ⟨j,q,Nat.le_trans h.keep.1 hj⟩,h.keep.trans k.keep (h.own.imp id id),h.below.trans k.below⟩
theorem strCells_app (a b:ByteArray):Lib.strCells (a ++ b)=Lib.strCells a ++ Lib.strCells b:=by simp [Lib.strCells]
set_option maxHeartbeats 2000000 in
set_option maxRecDepth 100000 in
theorem builder_string_calls (T:TypeId) (hT:HeadB T) (B b:Nat) (v:Value) (t s:ByteArray) (w:World) (h:BldAt T B b v t w) (hl:t.size + s.size ≤ 140737488355328) (hB:B ≤ w.heap.size) :
  Calls Tryz.prog 46 #[.pointer (some ⟨b,0,none⟩),.string s] w fun e w'=>e = .returned (.tuple #[.int .i64 s.size,.nilIface]) ∧ WroteE T B b v (t ++ s) w w':=by
 have H:=Aside0.mk h
 have HL:=Aside0.mk hl
 have HBw:=Aside0.mk hB
 have HT:=Aside0.mk hT
 clear h hl hB hT
 go_enter Tryz.func46,Tryz.ntmps46
 go_wp2_with (fail)
 go_at_call 64
 refine (builder_check_own T HT.out B b v t w H.out).mono ?_
 rintro e_ w1 ⟨rfl,hbk,hrow,hk,hb⟩
 have c0:w1.cell? ⟨b,0,none⟩=some (.pointer (some ⟨b,0,none⟩)):=by rw [Lib.cell_of_heap hbk];rfl
 have c1:w1.cell? ⟨b,1,none⟩=some v:=by rw [Lib.cell_of_heap hbk];rfl
 have HB1:=Aside0.mk hbk
 have HR1:=Aside0.mk hrow
 have HK1:=Aside0.mk hk
 have HBl1:=Aside0.mk hb
 clear hbk hrow hk hb
 go_wp2_with ((with_reducible refine gate_builtin (b:=.append) (xs:=#[.tmp 12,.tmp 13]) rfl ?_);refine HoldP.out ?_)
 unfold HoldP
 at_builtin
 obtain ⟨i0,hi0,hi1⟩:=Option.map_eq_some_iff.1 (show (Tryz.prog.info? 5).map (fun i=>(i.zero,i.size,i.bytes))=some (some (.int .u8 0),1,1) by kernel_rfl)
 injection hi1 with z0 z12
 injection z12 with z1 z2
 refine wpList_append_str_at (w:=w1) ?g (.tmp 12) (.tmp 13) 48 9 ?ho B 5 i0 Tryz.underlying48 Tryz.underlying9 hi0 z0 z1 z2 v t.size (Lib.strCells t) ?hs HR1.out s ?hx ?h63 ?hby ?hba ?_
 case g=>rfl
 case ho=>rfl
 case hs=>rfl
 case hx=>simp [Act.eval]
 case h63=>have:=HL.out;unfold maxLen;omega
 case hby=>exact HL.out
 case hba=>have:=HBl1.out.size;have:=HBw.out;omega
 intro v2 w2 hown hgrow hat
 rw [← strCells_app,← ByteArray.size_append] at hown
 have hne:=H.out.ne
 have hb2:w2.heap[b]? = some (.cells #[.pointer (some ⟨b,0,none⟩),v] T (0,0)):=by
  rw [hgrow.block b (blk_lt HB1.out) (fun e=>hne e.symm)]
  exact HB1.out
 have d0:w2.cell? ⟨b,0,none⟩=some (.pointer (some ⟨b,0,none⟩)):=by rw [Lib.cell_of_heap hb2];rfl
 have d1:w2.cell? ⟨b,1,none⟩=some v:=by rw [Lib.cell_of_heap hb2];rfl
 have f1:w2.frozen? ⟨b,1,none⟩=false:=Lib.frozen_of_heap hb2 1
 have HO:=Aside0.mk hown
 have HG:=Aside0.mk hgrow
 have HB2:=Aside0.mk hb2
 have HAt:=Aside0.mk hat
 clear hat hown hgrow hne hb2 hi0 z0 z1 z2
 obtain ⟨ao,n',cap,rfl⟩:∃ ao n' cap,v2 = .slice ao n' cap:=by
  rcases HO.out.2 with ⟨hv,-⟩ | ⟨g,cap,cur,hv,-⟩
  ·exact ⟨_,_,_,hv⟩
  ·exact ⟨_,_,_,hv⟩
 go_wp2_with (fail)
 go_ret2
 have hb1:b < w1.heap.size:=blk_lt HB1.out
 have hnb:(Value.slice ao n' cap).ownBlock ≠ some b:=by
  rcases HAt.out with q | ⟨k,q,hk⟩
  ·rw [q];exact H.out.ne
  ·rw [q];intro e;have:=Option.some.inj e;omega
 refine ⟨rfl,.slice ao n' cap,⟨H.out.ge,.inr (blk_put HB2.out 1 _ rfl),?_,hnb⟩,?_,?_,?_⟩
 ·obtain ⟨h1,h2⟩:=HO.out
  refine ⟨h1,h2.imp id ?_⟩
  rintro ⟨g,cap2,cur,e,hg,hc,r⟩
  exact ⟨g,cap2,cur,e,hg,blk_far hc (p:=⟨b,1,none⟩) (fun q=>hnb (by rw [e];exact congrArg some q)) _,r⟩
 ·exact HAt.out.imp id (fun ⟨k,q,hk⟩=>⟨k,q,Nat.le_trans HK1.out.1 hk⟩)
 ·refine KeepBut.set_ ⟨Nat.le_trans HK1.out.1 HG.out.size,fun i hi hg hn=>?_⟩ 1 _
  exact (HG.out.block i (Nat.lt_of_lt_of_le hi HK1.out.1) hn).trans (HK1.out.2 i hi hg (by simp))
 ·exact (HBl1.out.grown HG.out (by have:=HBl1.out.size;have:=HBw.out;omega) (fun k hk=>(H.out.own_lt k hk).1)).setCell (p:=⟨b,1,none⟩) H.out.ge _
set_option maxHeartbeats 2000000 in
set_option maxRecDepth 100000 in
theorem builder_byte_calls (T:TypeId) (hT:HeadB T) (B b:Nat) (v:Value) (t:ByteArray) (c:UInt8) (w:World) (h:BldAt T B b v t w) (hl:t.size + 1 ≤ 140737488355328) (hB:B ≤ w.heap.size) :
  Calls Tryz.prog 51 #[.pointer (some ⟨b,0,none⟩),.int .u8 c.toNat] w fun e w'=>e = .returned .nilIface ∧ WroteE T B b v (t ++ ⟨#[c]⟩) w w':=by
 have H:=Aside0.mk h
 have HL:=Aside0.mk hl
 have HBw:=Aside0.mk hB
 have HT:=Aside0.mk hT
 clear h hl hB hT
 go_enter Tryz.func51,Tryz.ntmps51
 go_wp2_with (fail)
 go_at_call 64
 refine (builder_check_own T HT.out B b v t w H.out).mono ?_
 rintro e_ w1 ⟨rfl,hbk,hrow,hk,hb⟩
 have c0:w1.cell? ⟨b,0,none⟩=some (.pointer (some ⟨b,0,none⟩)):=by rw [Lib.cell_of_heap hbk];rfl
 have c1:w1.cell? ⟨b,1,none⟩=some v:=by rw [Lib.cell_of_heap hbk];rfl
 have HB1:=Aside0.mk hbk
 have HR1:=Aside0.mk hrow
 have HK1:=Aside0.mk hk
 have HBl1:=Aside0.mk hb
 clear hbk hrow hk hb
 go_wp2_with ((with_reducible refine gate_builtin (b:=.append) (xs:=#[.tmp 11,.tmp 13]) rfl ?_);refine HoldP.out ?_)
 unfold HoldP
 at_builtin
 refine print_append_cells (W:=w1) (w0:=w1) B ?g (.tmp 11) (.tmp 13) 48 5 (.int .u8 0) 1 1 ?ho Tryz.underlying48 ?hi ?hz ?h0 ?hb v t.size (Lib.strCells t) [.int .u8 c.toNat] ?hs ?hx rfl ?h1 HR1.out (Below.refl _ _) ?hba ?hl ?_
 case g=>rfl
 case ho=>rfl
 case hi=>kernel_rfl
 case hz=>rfl
 case h0=>decide
 case hb=>decide
 case hs=>rfl
 case hx=>simp [Act.eval]
 case h1=>intro u hu;simp at hu;subst hu;rfl
 case hba=>have:=HBl1.out.size;have:=HBw.out;omega
 case hl=>have:=HL.out;omega
 intro v2 w2 hown hbl hgrow hat
 have hcs:Lib.strCells t ++ [.int .u8 c.toNat]=Lib.strCells (t ++ ⟨#[c]⟩):=by rw [strCells_app];rfl
 have hsz:t.size + 1=(t ++ (⟨#[c]⟩:ByteArray)).size:=by rw [ByteArray.size_append];rfl
 rw [hcs,hsz] at hown
 have hne:=H.out.ne
 have hb2:w2.heap[b]? = some (.cells #[.pointer (some ⟨b,0,none⟩),v] T (0,0)):=by
  rw [hgrow.block b (blk_lt HB1.out) (fun e=>hne e.symm)]
  exact HB1.out
 have d0:w2.cell? ⟨b,0,none⟩=some (.pointer (some ⟨b,0,none⟩)):=by rw [Lib.cell_of_heap hb2];rfl
 have d1:w2.cell? ⟨b,1,none⟩=some v:=by rw [Lib.cell_of_heap hb2];rfl
 have f1:w2.frozen? ⟨b,1,none⟩=false:=Lib.frozen_of_heap hb2 1
 have HO:=Aside0.mk hown
 have HG:=Aside0.mk hgrow
 have HB2:=Aside0.mk hb2
 have HAt:=Aside0.mk hat
 clear hat hown hgrow hne hb2 hbl hcs hsz
 obtain ⟨ao,n',cap,rfl⟩:∃ ao n' cap,v2 = .slice ao n' cap:=by
  rcases HO.out.2 with ⟨hv,-⟩ | ⟨g,cap,cur,hv,-⟩
  ·exact ⟨_,_,_,hv⟩
  ·exact ⟨_,_,_,hv⟩
 go_wp2_with (fail)
 go_ret
 have hb1:b < w1.heap.size:=blk_lt HB1.out
 have hnb:(Value.slice ao n' cap).ownBlock ≠ some b:=by
  rcases HAt.out with q | ⟨k,q,hk⟩
  ·rw [q];exact H.out.ne
  ·rw [q];intro e;have:=Option.some.inj e;omega
 refine ⟨rfl,.slice ao n' cap,⟨H.out.ge,.inr (blk_put HB2.out 1 _ rfl),?_,hnb⟩,?_,?_,?_⟩
 ·obtain ⟨h1,h2⟩:=HO.out
  refine ⟨h1,h2.imp id ?_⟩
  rintro ⟨g,cap2,cur,e,hg,hc,r⟩
  exact ⟨g,cap2,cur,e,hg,blk_far hc (p:=⟨b,1,none⟩) (fun q=>hnb (by rw [e];exact congrArg some q)) _,r⟩
 ·exact HAt.out.imp id (fun ⟨k,q,hk⟩=>⟨k,q,Nat.le_trans HK1.out.1 hk⟩)
 ·refine KeepBut.set_ ⟨Nat.le_trans HK1.out.1 HG.out.size,fun i hi hg hn=>?_⟩ 1 _
  exact (HG.out.block i (Nat.lt_of_lt_of_le hi HK1.out.1) hn).trans (HK1.out.2 i hi hg (by simp))
 ·exact (HBl1.out.grown HG.out (by have:=HBl1.out.size;have:=HBw.out;omega) (fun k hk=>(H.out.own_lt k hk).1)).setCell (p:=⟨b,1,none⟩) H.out.ge _
structure BldRd (T:TypeId) (B b g cap:Nat) (t:ByteArray) (w:World):Prop where
 ge:B ≤ g
 box:∃ p,w.heap[b]? = some (.cells #[p,.slice (some ⟨g,0,none⟩) t.size cap] T (0,0))
 row:∃ cur fr,w.heap[g]? = some (.cells cur 5 fr) ∧ cur.size=cap ∧ cur.toList.take t.size=Lib.strCells t
 le:t.size ≤ cap ∧ cap ≤ maxLen
 ne:g ≠ b
theorem BldAt.rd {T:TypeId} {B b:Nat} {v:Value} {t:ByteArray} {w:World} (h:BldAt T B b v t w) (ht:t.size ≠ 0):∃ g cap,BldRd T B b g cap t w:=by
 rcases h.row.2 with ⟨-,hz⟩ | ⟨g,cap,cur,rfl,hg,hc,h1,h2,h3,h4⟩
 ·exact absurd hz ht
 ·refine ⟨g,cap,hg,?_,⟨cur,_,hc,by simpa using h3,by simpa using h4⟩,⟨h1,h2⟩,fun e=>h.ne (show some g=some b from congrArg some e)⟩
  exact h.box.elim (fun q=>⟨_,q⟩) (fun q=>⟨_,q⟩)
theorem BldRd.below {T:TypeId} {B b g cap:Nat} {t:ByteArray} {w w':World} (h:BldRd T B b g cap t w) (hb:Below w.heap.size w w'):BldRd T B b g cap t w':=by
 obtain ⟨p,hp⟩:=h.box
 obtain ⟨cur,fr,hc,r⟩:=h.row
 have hlt:g < w.heap.size:=by
  rcases Nat.lt_or_ge g w.heap.size with q | q
  ·exact q
  ·simp [Array.getElem?_eq_none q] at hc
 exact ⟨h.ge,⟨p,blk_below hp hb⟩,⟨cur,fr,(hb.block g hlt).trans hc,r⟩,h.le,h.ne⟩
set_option maxHeartbeats 2000000 in
set_option maxRecDepth 100000 in
theorem builder_text_calls (T:TypeId) (B b g cap:Nat) (t:ByteArray) (ht:t.size ≠ 0) (w:World) (h:BldRd T B b g cap t w) :
  Calls Tryz.prog 26 #[.pointer (some ⟨b,0,none⟩)] w fun e w'=>e = .returned (.string t) ∧ BldRd T B b g cap t w' ∧ Below B w w':=by
 obtain ⟨p,hbk⟩:=h.box
 obtain ⟨cur,fr,hg,hcs,htk⟩:=h.row
 have hl1:=h.le.1
 have hl2:=h.le.2
 have hlen:t.data.toList.length=t.size:=by rw [Array.length_toList];rfl
 have hne:t.data.toList ≠ []:=fun e=>ht (by rw [← hlen,e];rfl)
 have c1:w.drew.cell? ⟨b,1,none⟩=some (.slice (some ⟨g,0,none⟩) t.size cap):=by
  have:w.drew.heap[b]? = some (.cells #[p,.slice (some ⟨g,0,none⟩) t.size cap] T (0,0)):=hbk
  rw [Lib.cell_of_heap this];rfl
 have hSD:(Builtin.unsafeSliceData_ #[48] 87 #[.slice (some ⟨g,0,none⟩) t.size cap]).run Tryz.prog w.drew = .ok (.pointer (some ⟨g,0,none⟩)) w.drew :=
  Lib.run_unsafeSliceData_row _ _ _ _ _ _ (by omega)
 have hUS:(Builtin.unsafeString_ #[87,3] 9 #[.pointer (some ⟨g,0,none⟩),.int .i64 t.size]).run Tryz.prog w.drew = .ok (.string t) (w.drew.freeze ⟨g,0,none⟩ t.size):=by
  have hg':w.drew.heap[g]? = some (.cells cur 5 fr):=hg
  have key:=Lib.run_unsafeString_row (P:=Tryz.prog) w.drew 87 3 9 5 Tryz.underlying87 (by kernel_rfl) g cur.size (by simp [World.shape?,hg']) t.data.toList hne (by omega) (by unfold maxLen at hl2;omega) ?_
  ·rw [hlen] at key;rw [key]
  ·intro j x hx
   have hj:j < t.size:=by rw [← hlen];exact (List.getElem?_eq_some_iff.1 hx).1
   have e1:(Lib.strCells t)[j]? = some (.int .u8 x.toNat):=by rw [Lib.strCells,List.getElem?_map,hx];rfl
   rw [← htk,List.getElem?_take,if_pos hj,Array.getElem?_toList] at e1
   have hc2:w.drew.cell? ⟨g,j,none⟩=cur[j]?:=by simp [World.cell?,hg']
   have ea:(⟨g,0,none⟩:Addr).add j=⟨g,j,none⟩:=by cases j <;> simp [Addr.add]
   rw [ea]
   exact hc2.trans e1
 go_enter Tryz.func26,Tryz.ntmps26
 go_wp2
 go_region
 go_wp2
 go_ret
 refine ⟨rfl,⟨h.ge,⟨p,?_⟩,?_,h.le,h.ne⟩,Lib.below_freeze (Below.drew (Below.refl B w)) (p:=⟨g,0,none⟩) h.ge _⟩
 ·have hb2:w.drew.heap[b]? = some (.cells #[p,.slice (some ⟨g,0,none⟩) t.size cap] T (0,0)):=hbk
  unfold World.freeze
  rw [if_neg ht]
  simp only [Array.getElem?_modify]
  rw [if_neg h.ne]
  exact hb2
 ·refine ⟨cur,(if fr.1 == fr.2 then (0,0 + t.size) else (min fr.1 0,max fr.2 (0 + t.size))),?_,hcs,htk⟩
  have hg2:w.drew.heap[g]? = some (.cells cur 5 fr):=hg
  unfold World.freeze
  rw [if_neg ht]
  simp only [Array.getElem?_modify,if_true,hg2]
  rfl
end Go.Proofs.YtjapfefiaijfcaaGreatDoor.Q
namespace Go.Proofs.YtjapfefiaijfcaaGreatDoor.Q
open Go.RowKit Go.Proofs.YtjapfefiaijfcaaGreatDoorW.PrintWords Go.Proofs.YtjapfefiaijfcaaGreatDoorW.PrintLast Go.Proofs.YtjapfefiaijfcaaGreatDoorW.PrintMore
set_option linter.unusedVariables false
theorem lic_bad {g:Nat} {w0 w w3:World} {toks:List S70} {cs:List S138} {j dp:Int} {c0 c1 c2 c3:Value} (hI:IsS67 w0 w3 g toks cs j dp) (hB:Below w0.heap.size w0 w3) (hK:KeepBut w w3 g none)
  (hb:w3.heap[w.heap.size]? = some (.cells #[c0,c1,c2,c3] 24 (0,0))) (hw:w0.heap.size ≤ w.heap.size) (hg:g < w.heap.size) (v0 v1 v2 v3:Value) :
  IsS67 w0 ((((w3.setCell ⟨w.heap.size,0,none⟩ v0).setCell ⟨w.heap.size,1,none⟩ v1).setCell ⟨w.heap.size,2,none⟩ v2).setCell ⟨w.heap.size,3,none⟩ v3) g toks cs j dp ∧
  Below w0.heap.size w0 ((((w3.setCell ⟨w.heap.size,0,none⟩ v0).setCell ⟨w.heap.size,1,none⟩ v1).setCell ⟨w.heap.size,2,none⟩ v2).setCell ⟨w.heap.size,3,none⟩ v3) ∧
  KeepBut w ((((w3.setCell ⟨w.heap.size,0,none⟩ v0).setCell ⟨w.heap.size,1,none⟩ v1).setCell ⟨w.heap.size,2,none⟩ v2).setCell ⟨w.heap.size,3,none⟩ v3) g none ∧
  ((((w3.setCell ⟨w.heap.size,0,none⟩ v0).setCell ⟨w.heap.size,1,none⟩ v1).setCell ⟨w.heap.size,2,none⟩ v2).setCell ⟨w.heap.size,3,none⟩ v3).heap[w.heap.size]? = some (.cells #[v0,v1,v2,v3] 24 (0,0)):=by
 have hgw:g ≠ w.heap.size:=by omega
 refine ⟨(((hI.far hgw _).far hgw _).far hgw _).far hgw _,(((hB.setCell hw _).setCell hw _).setCell hw _).setCell hw _,keep_far (keep_far (keep_far (keep_far hK (Nat.le_refl _) _) (Nat.le_refl _) _) (Nat.le_refl _) _) (Nat.le_refl _) _,?_⟩
 have R:=blk_set (blk_set (blk_set (blk_set hb 0 v0) 1 v1) 2 v2) 3 v3
 simpa using R
end Go.Proofs.YtjapfefiaijfcaaGreatDoor.Q
namespace Go.Proofs.YtjapfefiaijfcaaGreatDoor.Q
open Go.RowKit Go.Proofs.YtjapfefiaijfcaaGreatDoorW.PrintWords Go.Proofs.YtjapfefiaijfcaaGreatDoorW.PrintLast Go.Proofs.YtjapfefiaijfcaaGreatDoorW.PrintMore
set_option linter.unusedVariables false
set_option maxHeartbeats 8000000 in
set_option maxRecDepth 100000 in
theorem lics_one_in.calls (toks:List S70) (cs:List S138) (i:Nat) (dp:Int) (x:S70) (hi:i < toks.length) (hm:toks.length ≤ 8192) (hx:x=rd_T70 toks i) (hk1:x.f0 ≠ 1) (hk4:x.f0 ≠ 4) (hk5:x.f0 ≠ 5) (l:S24) (j:Nat) (n2:Int) (hE:lics_reader_enter.f toks cs i dp=some (0,(i:Int) + 1,dp + 1)) (hP:PartOK toks cs 36 ((i:Int) + 1) (dp + 1) l j) (hL:lics_reader_leave.f toks cs j (dp + 1)=some (0,n2,dp)):PartOK toks cs 81 i dp l n2:=by
 have HE:=Aside0.mk hE
 have HP:=Aside0.mk hP
 have HIn:=Aside0.mk hi
 clear hE hP
 have HLv:=Aside0.mk hL
 clear hL
 have kd5:(x.f0 == 5)=false:=beq_eq_false_iff_ne.mpr hk5
 have kd1:(x.f0 == 1)=false:=beq_eq_false_iff_ne.mpr hk1
 have kd4:(x.f0 == 4)=false:=beq_eq_false_iff_ne.mpr hk4
 intro g w0 w hI hB
 have HI:=Aside0.mk hI
 have HB:=Aside0.mk hB
 have HX:=Aside0.mk hx
 have q1:decide ((i:Int) < (toks.length:Int))=true:=decide_eq_true (by omega)
 have q2:((i:Int) == (toks.length:Int))=false:=beq_eq_false_iff_ne.mpr (by omega)
 have q3:(i == toks.length)=false:=beq_eq_false_iff_ne.mpr (by omega)
 have q4:IntKind.i64.wrap ((i:Int) + 1)=(i:Int) + 1:=IntWalk.i64_in _ (by omega)
 obtain ⟨A0,c0,A1,c1,hG,hge,hS0,hS1⟩:=hI
 obtain ⟨ad,e0,x0,x1,x2,x3⟩:=at_T70 hS0 (i:Int) (by omega) (by omega)
 subst e0
 rw [← hx] at x0 x1 x2 x3
 replace x0:=pw_cell_below hB x0
 replace x1:=pw_cell_below hB x1
 replace x2:=pw_cell_below hB x2
 replace x3:=pw_cell_below hB x3
 have p1:(0 ≤ (i:Int))=True:=eq_true (by omega)
 have p2:((i:Int) < (toks.length:Int))=True:=eq_true (by omega)
 have p3:(i < toks.length)=True:=eq_true hi
 have g0:=cellS67_0 hG
 have g1:=cellS67_1 hG
 have g2:=cellS67_2 hG
 have g3:=cellS67_3 hG
 have gf:=blk_frozen hG 2
 have HG:=Aside0.mk hG
 clear hG hge hS0 hS1 hB hx hi
 have up:∀ (o:Obj) {a:Addr} {v:Value},w.cell? a=some v → (w.alloc o).cell? a=some v:=fun o {a} {v} h=>pw_cell_below ((Below.refl _ w).alloc (Nat.le_refl _) o) h
 have m0:=fun o=>up o g0
 have m2:=fun o=>up o g2
 have y0:=fun o=>up o x0
 have y1:=fun o=>up o x1
 have y2:=fun o=>up o x2
 have y3:=fun o=>up o x3
 clear up
 go_enter Tryz.func81,Tryz.ntmps81
 go_wp2_with (fail)
 go_quiet (fail)
 go_wp2_with (fail)
 generalize hW:(w.alloc (.cells #[.int .u8 0,.string ⟨#[]⟩,.int .i64 0,.slice none 0 0] 24)).drewN _=W
 have m0':W.cell? ⟨g,0,none⟩=some (.slice (some ad) toks.length c0):=by rw [← hW];exact m0 _
 have m2':W.cell? ⟨g,2,none⟩=some (.int .i64 i):=by rw [← hW];exact m2 _
 have y0':W.cell? (ad.add (i * 4))=some (.int .u8 x.f0):=by rw [← hW];exact y0 _
 have y1':W.cell? ⟨(ad.add (i * 4)).block,(ad.add (i * 4)).off + 1,none⟩=some (.string x.f1):=by rw [← hW];exact y1 _
 have y2':W.cell? ⟨(ad.add (i * 4)).block,(ad.add (i * 4)).off + 2,none⟩=some (.int .i64 x.f2):=by rw [← hW];exact y2 _
 have y3':W.cell? ⟨(ad.add (i * 4)).block,(ad.add (i * 4)).off + 3,none⟩=some (.int .i64 x.f3):=by rw [← hW];exact y3 _
 have HW:=Aside0.mk hW
 have up2:∀ (o:Obj) {a:Addr} {v:Value},W.cell? a=some v → (W.alloc o).cell? a=some v:=fun o {a} {v} h=>pw_cell_below ((Below.refl _ W).alloc (Nat.le_refl _) o) h
 have m0'':=fun o=>up2 o m0'
 have m2'':=fun o=>up2 o m2'
 have y0'':=fun o=>up2 o y0'
 have y1'':=fun o=>up2 o y1'
 have y2'':=fun o=>up2 o y2'
 have y3'':=fun o=>up2 o y3'
 clear hW m0 m2 y0 y1 y2 y3 up2
 go_region
 generalize hW2:(W.alloc (.cells #[.int .u8 x.f0,.string x.f1,.int .i64 x.f2,.int .i64 x.f3] 70)).drew=W2
 have b1:W2.heap[W.heap.size]? = some (.cells #[.int .u8 x.f0,.string x.f1,.int .i64 x.f2,.int .i64 x.f3] 70 (0,0)):=by rw [← hW2];exact blk_new W _
 have B1:Below w.heap.size w W:=by rw [← HW.out];exact pw_below_drewN ((Below.refl _ w).alloc (Nat.le_refl _) _) _
 have s1:W.heap.size=w.heap.size + 1:=by rw [← HW.out];simp
 have HS1:=Aside0.mk s1
 have B2:Below w.heap.size w W2:=by rw [← hW2];exact below_drew1 (B1.alloc B1.size _)
 have b2:W2.heap[w.heap.size]? = some (.cells #[.int .u8 0,.string ⟨#[]⟩,.int .i64 0,.slice none 0 0] 24 (0,0)):=by
  rw [← hW2]
  refine blk_drew (blk_alloc ?_ _)
  rw [← HW.out];exact blk_drewN (blk_new w _) _
 have IW2:IsS67 w0 W2 g toks cs i dp:=HI.out.below B2
 have hG:=(B2.block g HI.out.lt).trans HG.out
 have c1:=blk_cell b1 0
 have c2:=blk_cell b1 1
 have c3:=cellS67_2 hG
 have c4:=blk_frozen hG 2
 have gl:=HI.out.lt
 have n1:g ≠ W.heap.size:=by omega
 have HI2:=Aside0.mk IW2
 have Hb1:=Aside0.mk b1
 have Hb2:=Aside0.mk b2
 have HB2:=Aside0.mk B2
 clear s1 hG b1 b2 B1 B2 IW2 m0' m2' y0' y1' y2' y3' m0'' m2'' y0'' y1'' y2'' y3'' g0 g1 g2 g3 x0 x1 x2 x3 hW2
 go_wp2_with (fail)
 go_at_call 107
 refine (lics_reader_enter.calls g toks cs i dp 0 ((i:Int) + 1) (dp + 1) w0 _ HI2.out (HB.out.trans (HB2.out.mono HB.out.size)) HE.out).mono ?_
 rintro e_ w3 ⟨rfl,hi,hb,hk⟩
 have f0:=hk.blk Hb2.out (by have:=HI.out.lt;omega) (by simp)
 have HF0:=Aside0.mk f0
 have HI3:=Aside0.mk hi
 have HB3:=Aside0.mk hb
 have HK3:=Aside0.mk ((KeepBut.of_below HB2.out g none).trans hk (.inl rfl))
 have d0:=blk_cell f0 0
 have d1:=blk_cell f0 1
 have d2:=blk_cell f0 2
 have d3:=blk_cell f0 3
 have k0:=blk_frozen f0 0
 have k1:=blk_frozen f0 1
 have k2:=blk_frozen f0 2
 have k3:=blk_frozen f0 3
 clear f0 hi hb hk
 clear d0 d1 d2 d3 k0 k1 k2 k3
 go_wp2_with (fail)
 go_at_call 36
 refine (HP.out g w0 _ HI3.out HB3.out).mono ?_
 rintro e_ w4 ⟨v4,rfl,hi,hb,hk,hr⟩
 obtain ⟨A4,cp4,rfl⟩:=Kd.R_slice hr
 have HR4:=Aside0.mk hr
 have f0:=hk.blk HF0.out (by have:=HI.out.lt;omega) (by simp)
 have HF4:=Aside0.mk f0
 have HI4:=Aside0.mk hi
 have HB4:=Aside0.mk hb
 have HK4:=Aside0.mk (HK3.out.trans hk (.inl rfl))
 have d0:=blk_cell f0 0
 have d1:=blk_cell f0 1
 have d2:=blk_cell f0 2
 have d3:=blk_cell f0 3
 have k0:=blk_frozen f0 0
 have k1:=blk_frozen f0 1
 have k2:=blk_frozen f0 2
 have k3:=blk_frozen f0 3
 clear f0 hi hb hk
 clear hr
 go_wp2_with (fail)
 have hr2:=Kd.R_lower (Kd.R_mono (Kd.R_bound HR4.out) (fun k hk=>(by have:=hk.2.1;have:=blk_lt HF0.out;omega:k ≠ w.heap.size))) (Nat.le_of_lt (blk_lt HF0.out))
 have hr5:=Kd.R_far (Kd.R_far (Kd.R_far (Kd.R_far hr2 (fun k hk=>hk) (p:=⟨w.heap.size,0,none⟩) (.int .u8 l.f0)) (fun k hk=>hk) (p:=⟨w.heap.size,1,none⟩) (.string l.f1)) (fun k hk=>hk) (p:=⟨w.heap.size,2,none⟩) (.int .i64 l.f2)) (fun k hk=>hk) (p:=⟨w.heap.size,3,none⟩) (.slice A4 l.f3.length cp4)
 obtain ⟨o1,o2,o3,o5⟩:=lic_bad HI4.out HB4.out HK4.out HF4.out HB.out.size HI.out.lt (.int .u8 l.f0) (.string l.f1) (.int .i64 l.f2) (.slice A4 l.f3.length cp4)
 generalize ((((w4.setCell ⟨w.heap.size,0,none⟩ (.int .u8 l.f0)).setCell ⟨w.heap.size,1,none⟩ (.string l.f1)).setCell ⟨w.heap.size,2,none⟩ (.int .i64 l.f2)).setCell ⟨w.heap.size,3,none⟩ (.slice A4 l.f3.length cp4))=W5 at hr5 o1 o2 o3 o5 ⊢
 clear d0 d1 d2 d3 k0 k1 k2 k3
 have d0:=blk_cell o5 0
 have d1:=blk_cell o5 1
 have d2:=blk_cell o5 2
 have d3:=blk_cell o5 3
 have k0:=blk_frozen o5 0
 have k1:=blk_frozen o5 1
 have k2:=blk_frozen o5 2
 have k3:=blk_frozen o5 3
 have HR5:=Aside0.mk hr5
 have HI5:=Aside0.mk o1
 have HB5:=Aside0.mk o2
 have HK5:=Aside0.mk o3
 have HF5:=Aside0.mk o5
 clear hr2 hr5 o1 o2 o3 o5
 go_region_with (first | (go_at_call 108;(refine (lics_reader_leave.calls g toks cs _ (dp + 1) 0 n2 dp w0 _ (IsS67.drew HI5.out) (below_drew1 HB5.out) HLv.out).mono ?_);rintro e_ w9 ⟨rfl,hi,hb,hk⟩;have f9:=hk.blk (blk_drew HF5.out) (by have:=HI.out.lt;omega) (by simp);have hr9:=Kd.R_keep (Kd.R_drew (Kd.R_mono (Kd.R_bound HR5.out) (fun k hk=>(⟨hk.1,hk.2.1⟩:k ≠ w.heap.size ∧ w.heap.size ≤ k)))) hk (fun k hk=>by have:=HI.out.lt;omega);have HR9:=Aside0.mk hr9;have HI9:=Aside0.mk hi;have HB9:=Aside0.mk hb;have HF9:=Aside0.mk f9;have HK9:=Aside0.mk ((keep_drew HK5.out).trans hk (.inl rfl));clear hr9 hi hb hk d0 d1 d2 d3 k0 k1 k2 k3;have d0:=blk_cell f9 0;have d1:=blk_cell f9 1;have d2:=blk_cell f9 2;have d3:=blk_cell f9 3;have k0:=blk_frozen f9 0;have k1:=blk_frozen f9 1;have k2:=blk_frozen f9 2;have k3:=blk_frozen f9 3;clear f9))
 all_goals go_wp2_with (fail)
 all_goals (obtain ⟨o1,o2,o3,o4,o5⟩:=lic_out (r:=l) HI9.out HB9.out HK9.out HF9.out (Kd.R_mono HR9.out (fun k hk=>hk.1)) HB.out.size HI.out.lt;have e0:=blk_cell o5 0;have e1:=blk_cell o5 1;have e2:=blk_cell o5 2;have e3:=blk_cell o5 3;refine bodyPost_ret (v:=.tuple #[.agg #[.int .u8 l.f0,.string l.f1,.int .i64 l.f2,.slice A4 l.f3.length cp4],.int .i64 0]) ?_ rfl ⟨_,rfl,o1,o2,o3,o4⟩;simp [results,Tryz.results81,go_sem,e0,e1,e2,e3])
end Go.Proofs.YtjapfefiaijfcaaGreatDoor.Q
