/- The pure statement of FieldsMore holds: a Comment put behind all fields changes no other one. -/
import Derived.Test.YtiienmifjebdlaaR5
import Derived.Test.YtiienmifjebdlaaQx18
namespace Go.Proofs.Ytiienmifjebdlaa.Q
open Go.RowKit Go.Proofs.YtiienmifjebdlaaW.PrintWords Go.Proofs.YtiienmifjebdlaaW.PrintLast Go.Proofs.YtiienmifjebdlaaW.PrintMore
set_option linter.unusedVariables false
theorem wrap_small (x : Int) (h0 : 0 ≤ x) (h : x ≤ 9223372036854775807) : wrap64 x = x := by unfold wrap64; omega
theorem more_nums (n b r k : Nat) (hn : n ≤ 65136) (hb : b ≤ 302) (hb2 : 2 ≤ b) (hr : r ≤ 65536) (hk : 70000 < k + 2) :
    wrap64 ((r : Int) + 1) = (r : Int) + 1 ∧ wrap64 ((n : Int) + 8) = (n : Int) + 8 ∧ wrap64 ((n : Int) + 8 + (b : Int)) = (n : Int) + 8 + (b : Int) ∧ n + 8 + b ≤ 65536 ∧ n + 8 + b ≤ 9223372036854775807 ∧ n + 8 ≤ 9223372036854775807 ∧ 0 < b ∧
    610 < k + 1 ∧ 65536 < k ∧ r ≤ 140737488351232 ∧ r < k ∧ (0 : Int) ≤ (r : Int) ∧ (r : Int) < (r : Int) + 1 ∧ (r : Int) ≤ (r : Int) + 1 ∧ ((n : Int) + (((7 : Nat) : Int) + 1)).toNat = n + 8 :=
  ⟨wrap_small _ (by omega) (by omega), wrap_small _ (by omega) (by omega), wrap_small _ (by omega) (by omega), by omega, by omega, by omega, by omega, by omega, by omega, by omega, by omega, by omega, by omega, by omega, by omega⟩
def comText : ByteArray := ⟨#[67, 111, 109, 109, 101, 110, 116, 58]⟩
theorem com_head : HeadText comText 7 6 := ⟨by decide, by decide, by decide, by decide +kernel, by decide, by decide⟩
theorem hasK_drop (l : List S28) (i : Nat) (h : i < l.length) (k : Int) : hasK (l.drop i) k = ((rd_T28 l (i : Int)).f0 == k || hasK (l.drop (i + 1)) k) := by
  have er : rd_T28 l (i : Int) = l[i] := by simp [rd_T28, List.getD_eq_getElem?_getD, List.getElem?_eq_getElem h]
  rw [List.drop_eq_getElem_cons h, er]; rfl
theorem more_loop (a0 a1 : ByteArray) (l : List S28) (hl : l.length ≤ 65536) (m : Nat) (hend : hasK l 6 = false → hasK l 7 = false → ∀ k, m < k → vouchlaw13_FieldsMore.l0 k a0 a1 l (l.length : Int) = some true) (d : Nat) :
    ∀ (i k : Nat), i + d = l.length → m + d < k → hasK l 6 = hasK (l.drop i) 6 → hasK l 7 = hasK (l.drop i) 7 → vouchlaw13_FieldsMore.l0 k a0 a1 l (i : Int) = some true := by
  induction d with
  | zero =>
    intro i k hi hk h6 h7
    rw [List.drop_of_length_le (by omega)] at h6 h7
    rw [show i = l.length from by omega]
    exact hend h6 h7 k (by omega)
  | succ d ih =>
    intro i k hi hk h6 h7
    obtain ⟨k, rfl⟩ : ∃ m, k = m + 1 := ⟨k - 1, by omega⟩
    rw [hasK_drop l i (by omega)] at h6 h7
    simp only [vouchlaw13_FieldsMore.l0]
    rw [if_pos (by omega), if_pos (by omega)]
    by_cases q6 : (rd_T28 l (i : Int)).f0 = 6
    · rw [if_pos q6, works_true]; rfl
    · rw [if_neg q6]
      by_cases q7 : (rd_T28 l (i : Int)).f0 = 7
      · rw [if_pos q7, works_true]; rfl
      · rw [if_neg q7, wrapNat i l.length (by omega) (by omega)]
        refine ih (i + 1) k (by omega) (by omega) ?_ ?_
        · rw [h6, beq_eq_false_iff_ne.mpr q6]; rfl
        · rw [h7, beq_eq_false_iff_ne.mpr q7]; rfl
theorem FieldsMore_pure : vouchlaw13_FieldsMore.Pure := by
  intro a0 a1 hn hm
  obtain ⟨r1, r2, r3, h⟩ : ∃ r1 r2 r3, splitS a0 = (r1, r2, r3) := ⟨_, _, _, rfl⟩
  have hl : r1.length ≤ 65536 := by have := splitS_len a0; rw [h] at this; exact this
  obtain ⟨b, hb, hb2, hb3, -, hb5, hb6⟩ := behind_some a1 hm
  obtain ⟨K, hK⟩ : ∃ K : Nat, 150000 < K := ⟨150001, by omega⟩
  refine ⟨K + 1 + 1, ?_⟩
  have j1t : ∀ k, vouchlaw13_FieldsMore.j1 (k + 1) a0 a1 r1 true = some true := by
    intro k; simp only [vouchlaw13_FieldsMore.j1]; rw [if_pos trivial, works_true]; rfl
  unfold vouchlaw13_FieldsMore.f
  simp only [fields_Split.f, Option.bind_some, h]
  by_cases h3 : r3 = 0
  · subst h3
    have hT := splitS_tiled a0 r1 r2 0 h
    rcases hT with ⟨_, rfl, T, _, hne, hs⟩ | ⟨q, _⟩
    · obtain ⟨_, _, p3, _, _⟩ := splitS_parts a0 r1 h
      have w1 : wrap64 ((a0.size : Int) - 1) = ((a0.size - 1 : Nat) : Int) := by unfold wrap64; omega
      rw [if_pos rfl, show (a0.toList == ([] : List UInt8)) = false from beq_eq_false_iff_ne.mpr (toList_ne a0 p3)]
      simp only [vouchlaw13_FieldsMore.j0]
      rw [if_neg (by simp), if_pos trivial, w1, if_pos (by omega), if_pos (by omega)]
      by_cases h10 : bt a0 ((a0.size - 1 : Nat) : Int) = 10
      · rw [if_pos h10]
        by_cases hbig : (a0.size : Int) > 65136
        · rw [decide_eq_true hbig]; exact j1t K
        · rw [decide_eq_false hbig]
          simp only [vouchlaw13_FieldsMore.j1]
          rw [if_neg (by simp)]
          refine more_loop a0 a1 r1 hl 70000 (fun h6 h7 k hk => ?_) r1.length 0 K (by omega) (by omega) rfl rfl
          obtain ⟨k, rfl⟩ : ∃ m, k = m + 2 := ⟨k - 2, by omega⟩
          obtain ⟨w3, w4, w5, w6, w7, w8, w9, k1, k2, k3, k4, k5, k6, k7, k8⟩ := more_nums a0.size b.size r1.length k (by omega) hb3 hb2 hl hk
          have hsz : ((a0 ++ comText) ++ b).size = a0.size + 8 + b.size := by rw [ByteArray.size_append, ByteArray.size_append]; rfl
          have e := split_chunk a0 comText b 7 6 r1 h h10 com_head ⟨w9, hb5, hb6⟩ (by rw [hsz]; exact w6) (by unfold errOf; simp [h6, h7])
          have hsz2 : (a0 ++ (⟨#[67, 111, 109, 109, 101, 110, 116, 58]⟩ : ByteArray)).size = a0.size + 8 := by rw [ByteArray.size_append]; rfl
          have et : ((a0 ++ (⟨#[67, 111, 109, 109, 101, 110, 116, 58]⟩ : ByteArray)) ++ b) = ((a0 ++ comText) ++ b) := rfl
          have hn6 : (r1.find? fun f => f.f0 == 6) = none := by
            rw [List.find?_eq_none]; intro f hf; unfold hasK at h6; rw [List.any_eq_false] at h6; exact h6 f hf
          have hfind : findS ((a0 ++ comText) ++ b) 6 = (b, true, 0) := by
            unfold findS
            rw [if_pos ⟨by decide, by decide⟩, e]
            unfold bodyOf
            simp only
            rw [List.find?_append, hn6]
            simp only [Option.none_or, List.find?_cons, beq_self_eq_true]
            have ex : ((a0 ++ comText) ++ b).extract ((a0.size : Int) + (((7 : Nat) : Int) + 1)).toNat ((((a0 ++ comText) ++ b).size : Nat) : Int).toNat = b := by
              rw [show ((a0.size : Int) + (((7 : Nat) : Int) + 1)).toNat = (a0 ++ comText).size from by rw [k8, ByteArray.size_append]; rfl, Int.toNat_natCast, ByteArray.size_append (a := a0 ++ comText), extract_behind]
              apply ByteArray.ext
              rw [ByteArray.data_extract]
              exact Array.extract_size
            rw [ex]
          simp only [vouchlaw13_FieldsMore.l0]
          rw [if_neg (Int.lt_irrefl _), hb _ k1, Option.bind_some, if_pos w8, if_pos (by rw [hsz2]; exact w7)]
          simp only [fields_Split.f, Option.bind_some]
          rw [et, e]
          simp only []
          have hlen : ((r1 ++ [(⟨6, a0.size, (a0.size : Int) + (((7 : Nat) : Int) + 1), ((a0 ++ comText) ++ b).size⟩ : S28)]).length : Int) = (r1.length : Int) + 1 := by simp
          have hrd : rd_T28 (r1 ++ [(⟨6, a0.size, (a0.size : Int) + (((7 : Nat) : Int) + 1), ((a0 ++ comText) ++ b).size⟩ : S28)]) (r1.length : Int) = ⟨6, a0.size, (a0.size : Int) + (((7 : Nat) : Int) + 1), ((a0 ++ comText) ++ b).size⟩ := by
            simp [rd_T28]
          rw [if_pos trivial, if_pos trivial, hlen, w3, if_pos rfl, if_pos k5, if_pos k6, hrd, w4, w5]
          have hb0 : (!((6 : Int) == 6) || (!((a0.size : Int) == (a0.size : Int)) || (!((a0.size : Int) + (((7 : Nat) : Int) + 1) == (a0.size : Int) + 8) || !((((a0 ++ comText) ++ b).size : Int) == (a0.size : Int) + 8 + (b.size : Int))))) = false := by
            rw [hsz]
            simp
          rw [hb0]
          simp only [vouchlaw13_FieldsMore.j3]
          rw [if_neg (by simp), if_pos w8, if_pos (by rw [hsz2]; exact w7), et, findSome _ 6 k k2, Option.bind_some, if_pos k5, hlen, if_pos k7, Int.toNat_natCast]
          rw [show (r1 ++ [(⟨6, a0.size, (a0.size : Int) + (((7 : Nat) : Int) + 1), ((a0 ++ comText) ++ b).size⟩ : S28)]).take r1.length = r1 from by simp]
          rw [same_refl r1 k3 k k4, hfind, works_true]
          simp
      · rw [if_neg h10]; exact j1t K
    · exact absurd rfl q
  · rw [if_neg h3]
    simp only [vouchlaw13_FieldsMore.j0]
    rw [if_neg (by simp), if_neg h3]; exact j1t K
end Go.Proofs.Ytiienmifjebdlaa.Q
