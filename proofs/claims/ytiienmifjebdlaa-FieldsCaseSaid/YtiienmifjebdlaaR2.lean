/- The pure statements of FieldsSplits and FieldsNames hold, for every input within the row's bounds. -/
import Derived.Test.YtiienmifjebdlaaR1
import Derived.Test.YtiienmifjebdlaaQx9
import Derived.Test.YtiienmifjebdlaaQx10
import Derived.Test.YtiienmifjebdlaaQx13
namespace Go.Proofs.Ytiienmifjebdlaa.Q
open Go.RowKit Go.Proofs.YtiienmifjebdlaaW.PrintWords Go.Proofs.YtiienmifjebdlaaW.PrintLast Go.Proofs.YtiienmifjebdlaaW.PrintMore
set_option linter.unusedVariables false
theorem works_true : vouchlaw13_works.f = some true := by decide +kernel
theorem same_loop (l : List S28) (hl : l.length ≤ 140737488351232) (d : Nat) : ∀ (i k : Nat), i + d = l.length → d < k → vouchref13_Same.l0 k l l (i : Int) = some true := by
  induction d with
  | zero =>
    intro i k hi hk
    obtain ⟨k, rfl⟩ : ∃ m, k = m + 1 := ⟨k - 1, by omega⟩
    simp only [vouchref13_Same.l0]; rw [if_neg (by omega)]
  | succ d ih =>
    intro i k hi hk
    obtain ⟨k, rfl⟩ : ∃ m, k = m + 1 := ⟨k - 1, by omega⟩
    simp only [vouchref13_Same.l0]
    rw [if_pos (by omega), if_pos (by omega), if_pos (by omega), if_neg (by simp), wrapNat i l.length (by omega) (by omega)]
    exact ih (i + 1) k (by omega) (by omega)
theorem same_refl (l : List S28) (hl : l.length ≤ 140737488351232) (k : Nat) (hk : l.length < k) : vouchref13_Same.f k l l = some true := by
  unfold vouchref13_Same.f
  rw [if_pos rfl]
  exact same_loop l hl l.length 0 k (by omega) hk
theorem splitFrom_len (s : ByteArray) (d : Nat) : ∀ i l, (splitFrom s d i l).1.length ≤ l.length + d := by
  induction d with
  | zero => intro i l; simp only [splitFrom]; split <;> simp
  | succ d ih =>
    intro i l
    simp only [splitFrom]
    split
    · split
      · have := ih (i + 1) (closeL l (i : Int) ++ [⟨(headOf s i).1, i, (i : Int) + (headOf s i).2.1, s.size⟩])
        rw [List.length_append, closeL_length] at this
        simp at this ⊢
        omega
      · simp
    · have := ih (i + 1) l; omega
theorem splitS_len (s : ByteArray) : (splitS s).1.length ≤ 65536 := by
  unfold splitS
  split
  · simp
  · split
    · simp
    · split
      · simp
      · have := splitFrom_len s s.size 0 []
        simp at this; omega
theorem spoil_loop (a : ByteArray) (hn : a.size ≤ 140737488351232) (d : Nat) : ∀ (i k : Nat) (l : List S28), i + d = l.length → l.length ≤ 65536 → d + 65540 < k →
    vouchlaw13_FieldsSplits.l0 k a (splitS a).1 (splitS a).2.1 (splitS a).2.2 l (i : Int) = some true := by
  induction d with
  | zero =>
    intro i k l hi hl hk
    obtain ⟨k, rfl⟩ : ∃ m, k = m + 1 := ⟨k - 1, by omega⟩
    have hsl := splitS_len a
    simp only [vouchlaw13_FieldsSplits.l0]
    rw [if_neg (by omega)]
    simp only [fields_Split.f, Option.bind_some]
    rw [same_refl _ (by omega) k (by omega), works_true]
    simp
  | succ d ih =>
    intro i k l hi hl hk
    obtain ⟨k, rfl⟩ : ∃ m, k = m + 1 := ⟨k - 1, by omega⟩
    simp only [vouchlaw13_FieldsSplits.l0]
    rw [if_pos (by omega), if_pos (by omega), wrapNat i l.length (by omega) (by omega)]
    exact ih (i + 1) k _ (by rw [List.length_set]; omega) (by rw [List.length_set]; omega) (by omega)
theorem FieldsSplits_pure : vouchlaw13_FieldsSplits.Pure := by
  intro a hn
  have hsl := splitS_len a
  refine ⟨5 * a.size + 200000, ?_⟩
  unfold vouchlaw13_FieldsSplits.f
  rw [refSplit a _ (by omega)]
  simp only [fields_Split.f, Option.bind_some]
  rw [same_refl _ (by omega) _ (by omega)]
  simp only [Option.bind_some, if_true]
  rw [show (5 * a.size + 200000) = (5 * a.size + 199999) + 1 from by omega]
  simp only [vouchlaw13_FieldsSplits.j0]
  rw [if_neg (by simp)]
  exact spoil_loop a hn (splitS a).1.length 0 _ _ (by omega) (by omega) (by omega)

theorem refName' (n : Int) : vouchref13_Name.f n = some (nameOf n) := by
  unfold vouchref13_Name.f nameOf
  by_cases h1 : n = 1
  · rw [if_pos h1, h1]; rfl
  rw [if_neg h1]
  by_cases h2 : n = 2
  · rw [if_pos h2, h2]; rfl
  rw [if_neg h2]
  by_cases h3 : n = 3
  · rw [if_pos h3, h3]; rfl
  rw [if_neg h3]
  by_cases h4 : n = 4
  · rw [if_pos h4, h4]; rfl
  rw [if_neg h4]
  by_cases h5 : n = 5
  · rw [if_pos h5, h5]; rfl
  rw [if_neg h5]
  by_cases h6 : n = 6
  · rw [if_pos h6, h6]; rfl
  rw [if_neg h6]
  by_cases h7 : n = 7
  · rw [if_pos h7, h7]; rfl
  rw [if_neg h7, if_neg (by omega)]
theorem FieldsNames_pure : vouchlaw13_FieldsNames.Pure := by
  intro a n hn hw
  refine ⟨50, ?_⟩
  unfold vouchlaw13_FieldsNames.f
  rw [refKind a _ (by omega), refName' n, works_true]
  simp [fields_Kind.f, fields_Name.f]
end Go.Proofs.Ytiienmifjebdlaa.Q
