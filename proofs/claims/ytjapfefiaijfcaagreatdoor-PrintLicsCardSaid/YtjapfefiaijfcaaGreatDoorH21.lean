/- The contract of Tokens: the list, given the tokens as a relation; the tokens of the closed body that the law asks. -/
import Derived.RangeFuncRecord
import Derived.Maps.OwnIn
import Derived.Test.YtjapfefiaijfcaaGreatDoorH5
import Derived.Test.YtjapfefiaijfcaaGreatDoorH17
namespace Go.Proofs.YtjapfefiaijfcaaGreatDoor.Q
open Go.RowKit Go.Proofs.YtjapfefiaijfcaaGreatDoorW.PrintWords Go.Proofs.YtjapfefiaijfcaaGreatDoorW.PrintLast Go.Proofs.YtjapfefiaijfcaaGreatDoorW.PrintMore
set_option linter.unusedVariables false
attribute [local go_sem] Oper.semAt_some
def RoundOK (I:S70 → World → Prop) (g bx:Nat) (N:Nat) (x:S70) (W0 W W':World):Prop :=
 I x W' ∧ (∀ (k:Nat) (b:Obj),W.heap[k]? = some b → (k=g ∨ k=bx ∨ k=W0.heap.size ∨ (N ≤ k ∧ b.isCells=false)) → W'.heap[k]? = some b)
theorem R_append_in {α:Type} (d:Kd α) {F:Fence} {nF:Nat} {P:Program} {ops:Array Oper} {rest:List Oper} {o:Oper} {a:Act} {Q:Exit → Act → World → Prop} {w0 W:World} (base:Nat) (hgd:o.guard=none) (s x:Operand) (t e:TypeId) (z:Value) (bytes:Nat)
  (ho:o.op = .call { callee:=.builtin .append,args:=#[s,x],argTypes:=#[t,t] }) (ht:P.underlying t=some (.slice e)) (hinfo:(P.info? e).map (fun i=>(i.zero,i.size,i.bytes))=some (some z,d.sz,bytes)) (hz:z.cells.size=d.sz) (hs0:0 < d.sz) (hb0:0 < bytes)
  (v:Value) (xs:List α) (p:α) (cs:List Value) (ok okp:Nat → Prop) (hs:a.eval s=v) (hx:a.eval x = .slice (some ⟨W.heap.size,0,none⟩) 1 1) (hp:d.M W base okp p cs) (hokp:∀ k,okp k → ok k ∧ some k ≠ v.ownBlock) (hfresh:∀ k,W.heap.size ≤ k → ok k)
  (HO:d.R e W base ok v xs) (HB:Below base w0 W) (hbase:base ≤ W.heap.size) (hl:(xs.length + 1) * bytes ≤ 140737488355328)
  (h:∀ v1 w1,d.R e w1 base ok v1 (xs ++ [p]) → Below base w0 w1 → W.grownBy w1 v.ownBlock → wpListIn F nF P ops Q rest (a.put o.dst v1) w1) :
  wpListIn F nF P ops Q (o :: rest) a (W.alloc (.cells cs.toArray e)):=by
 obtain ⟨h0,inner,hown,hr⟩:=HO
 obtain ⟨i0,hi,hzz⟩:=Option.map_eq_some_iff.1 hinfo
 simp only [Prod.mk.injEq] at hzz
 obtain ⟨hz0,hz1,hz2⟩:=hzz
 have hlen:xs.length + 1 ≤ 140737488355328:=Nat.le_trans (Nat.le_mul_of_pos_right _ hb0) hl
 have hys:=d.K_len (d.K_of_M hp)
 refine wpListIn_append_own_at (W.alloc (.cells cs.toArray e)) hgd s x t ho base e i0 z d.sz bytes ht hi hz0 hz1 hz2 hz hs0 v xs.length inner hs (hown.alloc _) ⟨W.heap.size,0,none⟩ 1 1 cs hx (by rw [hys];simp)
  (by simpa using World.news_of_block (cs:=cs.toArray) (t:=e) (fr:=(0,0)) (heap_alloc_new W (.cells cs.toArray e))) (d.K_one (d.K_of_M hp)) (by simp only [maxLen];omega) hl (by simp;omega) ?_
 intro v1 w1 hown1 hg _ hat
 have hg':W.grownBy w1 v.ownBlock:=World.grownBy.trans (World.grownBy_alloc W _ _) hg
 refine h v1 w1 (Kd.R_appended h0 hr hp hokp hfresh hown1 hg' ?_) ((HB.alloc hbase _).grown hg (by simp;omega) (own_base hown)) hg'
 rcases hat with hat | hat
 ·exact .inl hat
 ·exact .inr ⟨_,hat,by simp⟩
theorem then_hide {F:Fence} {n:Nat} {P:Program} {c:Code} {f:Act → World → Prop} {Q:Exit → Act → World → Prop} {a:Act} {w:World} (h:∀ K:Act → World → Prop,(∀ a w,f a w → K a w) → c.wpIn F n P (Exit.then K Q) a w):c.wpIn F n P (Exit.then f Q) a w:=h f (fun _ _ h=>h)
theorem post_hide {F:Fence} {n:Nat} {P:Program} {c:Code} {f:Exit → Act → World → Prop} {a:Act} {w:World} (h:∀ K:Exit → Act → World → Prop,(∀ a w,f .normal a w → K .normal a w) → c.wpIn F n P K a w):c.wpIn F n P f a w:=h f (fun _ _ h=>h)
theorem blk_new' {W:World} {k:Nat} (o:Obj) (h:W.heap.size=k):(W.alloc o).heap[k]? = some o:=by rw [← h];exact blk_new W o
set_option maxHeartbeats 1000000 in
theorem tokens_each.calls (p:Option Addr) (w:World):Calls Tryz.prog 57 #[.pointer p] w fun e w'=>e = .returned (.func (.func 77) #[] #[.pointer (some ⟨w.heap.size,0,none⟩)]) ∧ w' = w.alloc (.cells #[.pointer p] 118):=by
 go_enter Tryz.func57,Tryz.ntmps57
 go_wp2
 go_ret
 exact ⟨rfl,rfl⟩
end Go.Proofs.YtjapfefiaijfcaaGreatDoor.Q
