/- The contract of the scanner's each: an iterator that yields tokens. -/
import Derived.RangeFuncNested
import Derived.RangeFuncBound
import Derived.RangeFuncCalls
import Derived.RangeFuncLeaves
import Derived.Shelf.Abstract
import Derived.Shelf.RegionOpen
import Derived.WalkKit
import Derived.OwnWalkIn
import Derived.TacticsInMore
import Derived.LoopNIn
import Derived.LoopIn
import Derived.Test.YtjapfefiaijfcaaGreatDoorH5
import Derived.Test.YtjapfefiaijfcaaGreatDoorH14
namespace Go.Proofs.YtjapfefiaijfcaaGreatDoor.Q
open Go.RowKit Go.Proofs.YtjapfefiaijfcaaGreatDoorW.PrintWords Go.Proofs.YtjapfefiaijfcaaGreatDoorW.PrintLast Go.Proofs.YtjapfefiaijfcaaGreatDoorW.PrintMore
set_option linter.unusedVariables false
attribute [local go_sem] Oper.semAt_some
def NextOK (s:ByteArray) (j:Nat) (t:S70):Prop:=∀ (g:Nat) (w:World),Scan w g s j →
 Calls Tryz.prog 79 #[.pointer (some ⟨g,0,none⟩)] w fun e w'=>e = .returned (.tuple #[.agg #[.int .u8 t.f0,.string t.f1,.int .i64 t.f2,.int .i64 t.f3],.int .i64 0,.int .i64 0]) ∧ Below w.heap.size w w'
theorem each_keep {J:List S70 → World → Prop} {g bx j nd:Nat} {s:ByteArray} {pre:List S70} {wr w2:World} (HJ:Aside0 (∀ pre W W',J pre W → Only g W W' → J pre W')) (HS:Aside0 (Scan wr g s j))
  (HB:Aside0 (wr.heap[bx]? = some (.cells #[.pointer (some ⟨g,0,none⟩)] 118 (0,0)))) (Hj:Aside0 (J pre wr)) (hb:Below (wr.drewN nd).heap.size (wr.drewN nd) w2) :
  Scan w2 g s j ∧ w2.heap[bx]? = some (.cells #[.pointer (some ⟨g,0,none⟩)] 118 (0,0)) ∧ J pre w2 :=
 ⟨(HS.out.drewN nd).keep hb,(hb.block _ (blk_lt (blk_drewN HB.out nd))).trans HB.out,HJ.out _ _ _ Hj.out (((Only.refl g wr).drewN nd).trans (.of_below hb))⟩
end Go.Proofs.YtjapfefiaijfcaaGreatDoor.Q
