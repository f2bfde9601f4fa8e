/- Go functions as Lean functions, and that each call comes to its Lean function's answer, wherever that is some answer. Written by a program of this session out of the translation. -/
import Derived.Test.YtiienmifjebdlaaQx0
import Derived.Test.YtiienmifjebdlaaQx6
namespace Go.Proofs.Ytiienmifjebdlaa.Q
open Go.RowKit Go.Proofs.YtiienmifjebdlaaW.PrintWords Go.Proofs.YtiienmifjebdlaaW.PrintLast Go.Proofs.YtiienmifjebdlaaW.PrintMore
attribute [local go_sem] max2_int min2_int max_two min_two max_three min_three max_four min_four   -- for this text's walks alone
set_option linter.unusedVariables false
set_option linter.unusedSimpArgs false

-- HAND vouch/fields.Name | 0 | 1
theorem idxAru_0 (w : World) : (Instr.index 50 (.agg fieldsAr) (.int .u8 0)).run Try.prog w = .ok (.string (fieldsNm 0)) w := by kernel_rfl
theorem idxAru_1 (w : World) : (Instr.index 50 (.agg fieldsAr) (.int .u8 1)).run Try.prog w = .ok (.string (fieldsNm 1)) w := by kernel_rfl
theorem idxAru_2 (w : World) : (Instr.index 50 (.agg fieldsAr) (.int .u8 2)).run Try.prog w = .ok (.string (fieldsNm 2)) w := by kernel_rfl
theorem idxAru_3 (w : World) : (Instr.index 50 (.agg fieldsAr) (.int .u8 3)).run Try.prog w = .ok (.string (fieldsNm 3)) w := by kernel_rfl
theorem idxAru_4 (w : World) : (Instr.index 50 (.agg fieldsAr) (.int .u8 4)).run Try.prog w = .ok (.string (fieldsNm 4)) w := by kernel_rfl
theorem idxAru_5 (w : World) : (Instr.index 50 (.agg fieldsAr) (.int .u8 5)).run Try.prog w = .ok (.string (fieldsNm 5)) w := by kernel_rfl
theorem idxAru_6 (w : World) : (Instr.index 50 (.agg fieldsAr) (.int .u8 6)).run Try.prog w = .ok (.string (fieldsNm 6)) w := by kernel_rfl
def nameOf (a0 : Int) : ByteArray := if 1 ≤ a0 ∧ a0 ≤ 7 then fieldsNm (a0 - 1).toNat else ⟨#[]⟩
def fields_Name.f (a0 : Int) : Option (ByteArray) := some (nameOf a0)
theorem idxAru (a0 : Int) (h1 : 1 ≤ a0) (h7 : a0 ≤ 7) (w : World) : (Instr.index 50 (.agg fieldsAr) (.int .u8 (a0 - 1))).run Try.prog w = .ok (.string (nameOf a0)) w := by
  obtain ⟨k, rfl⟩ : ∃ k : Nat, a0 = (k : Int) + 1 := ⟨(a0 - 1).toNat, by omega⟩
  have hk : k < 7 := by omega
  have e : nameOf ((k : Int) + 1) = fieldsNm k := by
    unfold nameOf; rw [if_pos ⟨h1, h7⟩]; congr 1; omega
  rw [e, show (k : Int) + 1 - 1 = k from by omega]
  clear e h1 h7
  match k, hk with
  | 0, _ => exact idxAru_0 w
  | 1, _ => exact idxAru_1 w
  | 2, _ => exact idxAru_2 w
  | 3, _ => exact idxAru_3 w
  | 4, _ => exact idxAru_4 w
  | 5, _ => exact idxAru_5 w
  | 6, _ => exact idxAru_6 w

set_option maxHeartbeats 2000000 in
theorem fields_Name.calls (a0 : Int) (r : ByteArray) (w : World) (h : fields_Name.f a0 = some r) :
    Calls Try.prog 17 #[.int .u8 a0] w fun e w' => e = .returned (.string r) ∧ Below w.heap.size w w' := by
  obtain rfl := Option.some.inj h
  by_cases h1 : a0 < 1
  · have hd : decide (a0 < 1) = true := decide_eq_true h1
    have e := Aside0.mk (show nameOf a0 = ⟨#[]⟩ from by unfold nameOf; rw [if_neg (by omega)])
    clear h h1
    go_enter Try.func17, Try.ntmps17
    go_wp2
    go_ret
    exact ⟨by rw [e.out]; rfl, Below.refl _ _⟩
  · have hd : decide (a0 < 1) = false := decide_eq_false h1
    by_cases h7 : 7 < a0
    · have hd : decide (7 < a0) = true := decide_eq_true h7
      have e := Aside0.mk (show nameOf a0 = ⟨#[]⟩ from by unfold nameOf; rw [if_neg (by omega)])
      clear h
      go_enter Try.func17, Try.ntmps17
      go_wp2
      go_ret
      exact ⟨by rw [e.out]; rfl, Below.refl _ _⟩
    · have hd : decide (7 < a0) = false := decide_eq_false h7
      have hx := idxAru a0 (by omega) (by omega)
      have b1 : 1 ≤ a0 := by omega
      have b7 : a0 ≤ 7 := by omega
      clear h
      go_enter Try.func17, Try.ntmps17
      go_wp2_with (go_at_call 33; refine (fields_names_any _).mono ?_; rintro e w1 ⟨rfl, hb⟩)
      go_ret
      exact ⟨rfl, ‹_›⟩

end Go.Proofs.Ytiienmifjebdlaa.Q
