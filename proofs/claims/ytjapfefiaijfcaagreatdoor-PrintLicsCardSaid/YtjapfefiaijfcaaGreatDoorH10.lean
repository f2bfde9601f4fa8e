/- The contracts of each and of its closure: the texts of a tree's principals, gathered in order. -/
import Derived.IntWalk
import Derived.Deep.CutRange
import Derived.Deep.CutBlock
import Derived.Test.YtjapfefiaijfcaaGreatDoorH5
namespace Go.Proofs.YtjapfefiaijfcaaGreatDoor.Q
open Go.RowKit Go.Proofs.YtjapfefiaijfcaaGreatDoorW.PrintWords Go.Proofs.YtjapfefiaijfcaaGreatDoorW.PrintLast Go.Proofs.YtjapfefiaijfcaaGreatDoorW.PrintMore
set_option linter.unusedVariables false
structure OutAt (w0 w:World) (g:Nat) (v:Value) (ys:List ByteArray) (w':World) (v':Value):Prop where
 box:w'.heap[g]? = some (.cells #[v'] 34 (0,0))
 row:Kd.R Kd.string 9 w' w0.heap.size (fun k=>k ≠ g) v' ys
 own:v'.ownBlock=v.ownBlock ∨ ∃ b,v'.ownBlock=some b ∧ w.heap.size ≤ b
 below:Below w0.heap.size w0 w'
 keep:KeepBut w w' g v.ownBlock
def headL (x:S24):List ByteArray:=if x.f0=1 then [x.f1] else []
def leaves (x:S24):List ByteArray:=headL x ++ (x.f3.attach.map (fun ⟨y,hy⟩=>leaves y)).flatten
termination_by SizeOf.sizeOf x
decreasing_by exact S24.lt_mem hy
theorem leaves_eq (x:S24):leaves x=headL x ++ (x.f3.map leaves).flatten:=by
 rw [leaves]
 congr 2
 simp
theorem OutAt.refl {w0 w:World} {g:Nat} {v:Value} {xs:List ByteArray} (hb:Below w0.heap.size w0 w) (hg:w.heap[g]? = some (.cells #[v] 34 (0,0))) (hR:Kd.R Kd.string 9 w w0.heap.size (fun k=>k ≠ g) v xs):OutAt w0 w g v xs w v :=
 ⟨hg,hR,.inl rfl,hb,KeepBut.refl _ _ _⟩
theorem OutAt.alloc {w0 w w1:World} {g:Nat} {v v1:Value} {xs:List ByteArray} (h:OutAt w0 w g v xs w1 v1) (o:Obj):OutAt w0 w g v xs (w1.alloc o) v1 :=
 ⟨blk_alloc h.box o,Kd.R_alloc h.row o,h.own,h.below.alloc h.below.size o,h.keep.trans (KeepBut.of_grown (World.grownBy_alloc w1 o v.ownBlock) g) (.inl rfl)⟩
theorem OutAt.trans {w0 w w1 w2:World} {g:Nat} {v v1 v2:Value} {xs ys:List ByteArray} (h:OutAt w0 w g v xs w1 v1) (k:OutAt w0 w1 g v1 ys w2 v2):OutAt w0 w g v ys w2 v2:=by
 refine ⟨k.box,k.row,?_,k.below,h.keep.trans k.keep ?_⟩
 ·rcases k.own with e | ⟨b,e,hb⟩
  ·rw [e];exact h.own
  ·exact .inr ⟨b,e,Nat.le_trans h.keep.1 hb⟩
 ·exact h.own
theorem OutAt.drewN {w0 w w1:World} {g:Nat} {v v1:Value} {xs:List ByteArray} (h:OutAt w0 w g v xs w1 v1) (n:Nat):OutAt w0 w g v xs (w1.drewN n) v1 :=
 ⟨blk_drewN h.box n,Kd.R_drewN h.row n,h.own,pw_below_drewN h.below n,keep_drewN h.keep n⟩
theorem OutAt.blk {w0 w w1:World} {g b:Nat} {v v1:Value} {xs:List ByteArray} {o:Obj} (h:OutAt w0 w g v xs w1 v1) (hb:w.heap[b]? = some o) (hg:b ≠ g) (hv:some b ≠ v.ownBlock):w1.heap[b]? = some o:=h.keep.blk hb hg hv
end Go.Proofs.YtjapfefiaijfcaaGreatDoor.Q
