/- The contracts of Size and few. -/
import Derived.Test.YtjapfefiaijfcaaGreatDoorQx0
import Derived.Test.YtjapfefiaijfcaaGreatDoorQx4
import Derived.Test.YtjapfefiaijfcaaGreatDoorT16
namespace Go.Proofs.YtjapfefiaijfcaaGreatDoor.Q
open Go.RowKit Go.Proofs.YtjapfefiaijfcaaGreatDoorW.PrintWords Go.Proofs.YtjapfefiaijfcaaGreatDoorW.PrintLast Go.Proofs.YtjapfefiaijfcaaGreatDoorW.PrintMore
set_option linter.unusedVariables false
theorem sum_take_succ (l : List S24) (j : Nat) (h : j < l.length) : ((l.take (j + 1)).map szT).sum = ((l.take j).map szT).sum + szT l[j] := by
  rw [List.take_succ_eq_append_getElem h, List.map_append, List.sum_append]; simp
theorem len_le_sum (l : List S24) (j : Nat) (h : j ≤ l.length) : j ≤ ((l.take j).map szT).sum := by
  induction j with
  | zero => omega
  | succ j ih =>
    rw [sum_take_succ l j (by omega)]
    have := ih (by omega)
    have := szT_pos l[j]
    omega
theorem sum_take_le (l : List S24) (j d : Nat) (h : j + d = l.length) : ((l.take j).map szT).sum ≤ (l.map szT).sum := by
  have e : l.map szT = (l.take j).map szT ++ (l.drop j).map szT := by rw [← List.map_append, List.take_append_drop]
  rw [e, List.sum_append]; omega
theorem size_some (N : Nat) : ∀ x : S24, szT x < N → ∃ K, ∀ most : Nat, most ≤ 2000 → ∀ k, K ≤ k → vouchref16_Size.f k x.f0 x.f1 x.f2 x.f3 (most : Int) = some ((min (szT x) (most + 1) : Nat) : Int) := by
  induction N with
  | zero => exact fun x h => absurd h (Nat.not_lt_zero _)
  | succ N ih =>
    intro x hN
    obtain ⟨K, hK⟩ := Kd.bounded (P := fun n j => j < x.f3.length → ∀ most : Nat, most ≤ 2000 → ∀ k, n ≤ k → vouchref16_Size.f k (rd_T24 x.f3 (j : Int)).f0 (rd_T24 x.f3 (j : Int)).f1 (rd_T24 x.f3 (j : Int)).f2 (rd_T24 x.f3 (j : Int)).f3 (most : Int) = some ((min (szT (rd_T24 x.f3 (j : Int))) (most + 1) : Nat) : Int)) (fun n m j hnm h hj most hm k hk => h hj most hm k (by omega)) x.f3.length (fun j hj => by
      have hmem : rd_T24 x.f3 (j : Int) ∈ x.f3 := by rw [rd_nat hj]; exact List.getElem_mem hj
      have := szT_mem hmem
      obtain ⟨K, h⟩ := ih _ (by omega : szT (rd_T24 x.f3 (j : Int)) < N)
      exact ⟨K, fun _ => h⟩)
    refine ⟨K + x.f3.length + 10, fun most hm => ?_⟩
    have hloop : ∀ d j, j + d = x.f3.length → ∀ k, K + d + 1 ≤ k → vouchref16_Size.l0 k (most : Int) ((min (1 + ((x.f3.take j).map szT).sum) (most + 1) : Nat) : Int) (j : Int) x.f0 x.f1 x.f2 x.f3 = some ((min (szT x) (most + 1) : Nat) : Int) := by
      intro d
      induction d with
      | zero =>
        intro j hj k hk
        obtain ⟨k, rfl⟩ : ∃ k', k = k' + 1 := ⟨k - 1, by omega⟩
        unfold vouchref16_Size.l0
        rw [if_neg (by omega), szT_eq, List.take_of_length_le (by omega)]
      | succ d ihd =>
        intro j hj k hk
        obtain ⟨k, rfl⟩ : ∃ k', k = k' + 1 := ⟨k - 1, by omega⟩
        have hlt : j < x.f3.length := by omega
        have h1 := len_le_sum x.f3 j (by omega)
        have h2 := sum_take_le x.f3 j (d + 1) hj
        have h3 := sum_take_succ x.f3 j hlt
        have h4 := szT_eq x
        unfold vouchref16_Size.l0
        rw [if_pos (by omega)]
        by_cases hle : 1 + ((x.f3.take j).map szT).sum ≤ most
        · rw [if_pos (by omega), if_pos (by omega), IntWalk.wrap64_in _ (by omega)]
          rw [show (most : Int) - ((min (1 + ((x.f3.take j).map szT).sum) (most + 1) : Nat) : Int) = ((most - (1 + ((x.f3.take j).map szT).sum) : Nat) : Int) from by omega]
          rw [hK j hlt hlt _ (by omega) k (by omega), Option.bind_some, rd_nat hlt, IntWalk.wrap64_in _ (by omega), IntWalk.wrap64_in _ (by omega)]
          have q := ihd (j + 1) (by omega) k (by omega)
          rw [h3] at q
          rw [← q]
          congr 1
          omega
        · rw [if_neg (by omega)]
          congr 1
          omega
    intro k hk
    obtain ⟨k, rfl⟩ : ∃ k', k = k' + 1 := ⟨k - 1, by omega⟩
    unfold vouchref16_Size.f
    have q := hloop x.f3.length 0 (by omega) k (by omega)
    rw [← q]
    congr 1
/-- a tree of at most 2000 parts, lists of at most 1000: what few answers. -/
theorem few_some (x : S24) (a b : Nat) : ∃ k, vouchlaw16_few.f k x.f0 x.f1 x.f2 x.f3 (a : Int) (b : Int) = some (decide (szT x ≤ 2000) && (decide (a ≤ 1000) && decide (b ≤ 1000))) := by
  obtain ⟨K, hK⟩ := size_some (szT x + 1) x (by omega)
  refine ⟨K, ?_⟩
  unfold vouchlaw16_few.f
  have q := hK 2000 (Nat.le_refl _) K (Nat.le_refl _)
  rw [show ((2000 : Nat) : Int) = 2000 from rfl] at q
  rw [q, Option.bind_some]
  by_cases h : szT x ≤ 2000
  · rw [if_pos (by omega), decide_eq_true h]
    by_cases ha : a ≤ 1000
    · rw [if_pos (by omega), decide_eq_true ha]
      simp only [Bool.true_and]
      congr 1
      by_cases hb : b ≤ 1000
      · rw [decide_eq_true hb, decide_eq_true (by omega : (b : Int) ≤ 1000)]
      · rw [decide_eq_false hb, decide_eq_false (by omega : ¬ (b : Int) ≤ 1000)]
    · rw [if_neg (by omega), decide_eq_false ha]; rfl
  · rw [if_neg (by omega), decide_eq_false h]; rfl
end Go.Proofs.YtjapfefiaijfcaaGreatDoor.Q
