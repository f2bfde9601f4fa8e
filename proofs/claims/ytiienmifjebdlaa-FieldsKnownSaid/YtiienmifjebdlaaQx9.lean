/- Go functions as Lean functions, and that each call comes to its Lean function's answer, wherever that is some answer. Written by a program of this session out of the translation. -/
import Derived.Test.YtiienmifjebdlaaQx0
import Derived.Test.YtiienmifjebdlaaQx1
import Derived.Test.YtiienmifjebdlaaQx8
namespace Go.Proofs.Ytiienmifjebdlaa.Q
open Go.RowKit Go.Proofs.YtiienmifjebdlaaW.PrintWords Go.Proofs.YtiienmifjebdlaaW.PrintLast Go.Proofs.YtiienmifjebdlaaW.PrintMore
attribute [local go_sem] max2_int min2_int max_two min_two max_three min_three max_four min_four   -- for this text's walks alone
set_option linter.unusedVariables false
set_option linter.unusedSimpArgs false

attribute [local go_sem high] eqA28
/-! ### vouchref13_Same: function 13 -/
def vouchref13_Same.l0 : Nat → List (S28) → List (S28) → Int → Option (Bool)
  | 0, _, _, _ => none
  | k + 1, x0, x1, x5 => if x5 < (x0.length : Int) then (if 0 ≤ x5 then (if x5 < (x1.length : Int) then (if (!(((rd_T28 x0 x5).f0) == ((rd_T28 x1 x5).f0)) || (!(((rd_T28 x0 x5).f1) == ((rd_T28 x1 x5).f1)) || (!(((rd_T28 x0 x5).f2) == ((rd_T28 x1 x5).f2)) || (!(((rd_T28 x0 x5).f3) == ((rd_T28 x1 x5).f3)))))) = true then (some false) else (vouchref13_Same.l0 k x0 x1 (wrap64 (x5 + 1)))) else (none)) else (none)) else (some true)
def vouchref13_Same.f (k : Nat) (l0 : List (S28)) (l1 : List (S28)) : Option (Bool) := if (l0.length : Int) = (l1.length : Int) then (vouchref13_Same.l0 k l0 l1 0) else (some false)
theorem vouchref13_Same.mono_l : ∀ k, (∀ y0 y1 y2, LeO (vouchref13_Same.l0 k y0 y1 y2) (vouchref13_Same.l0 (k + 1) y0 y1 y2))
  | 0 => fun _ _ _ r h => by simp [vouchref13_Same.l0] at h
  | k + 1 => by
    have ih0 := vouchref13_Same.mono_l k
    · intro y0 y1 y2
      unfold vouchref13_Same.l0
      repeat' first
      | (with_reducible exact ih0 _ _ _)
      | (with_reducible exact LeO.refl _)
      | (with_reducible exact LeO.none _)
      | (with_reducible refine LeO.ite ?_ ?_)
      | (with_reducible refine LeO.bind ?_ (fun _ => ?_))
      | exact ih0 _ _ _
      | exact LeO.none _
      | refine LeO.ite ?_ ?_
      | refine LeO.bind ?_ (fun _ => ?_)
theorem vouchref13_Same.mono : ∀ a0 a1 k, LeO (vouchref13_Same.f k a0 a1) (vouchref13_Same.f (k + 1) a0 a1) := by
  intro a0 a1 k
  have ih0 := vouchref13_Same.mono_l k
  unfold vouchref13_Same.f
  repeat' first
      | (with_reducible exact ih0 _ _ _)
      | (with_reducible exact LeO.refl _)
      | (with_reducible exact LeO.none _)
      | (with_reducible refine LeO.ite ?_ ?_)
      | (with_reducible refine LeO.bind ?_ (fun _ => ?_))
      | exact ih0 _ _ _
      | exact LeO.none _
      | refine LeO.ite ?_ ?_
      | refine LeO.bind ?_ (fun _ => ?_)
set_option maxHeartbeats 8000000 in
set_option maxRecDepth 100000 in
theorem vouchref13_Same.calls (k : Nat) (A0 : Option Addr) (c0 : Nat) (l0 : List (S28)) (A1 : Option Addr) (c1 : Nat) (l1 : List (S28)) (r : Bool) (w : World) (hr0 : Kd.C k28 w A0 l0.length l0) (hc0 : l0.length ≤ c0) (hr1 : Kd.C k28 w A1 l1.length l1) (hc1 : l1.length ≤ c1) (h : vouchref13_Same.f k l0 l1 = some r) :
    Calls Try.prog 13 #[.slice A0 l0.length c0, .slice A1 l1.length c1] w fun e w' => e = .returned (.bool r) ∧ Drawn0 w w' := by
  have hu28 := Try.underlying28
  have HR0 := Aside0.mk hr0
  have HC0 := Aside0.mk hc0
  clear hr0 hc0
  have HR1 := Aside0.mk hr1
  have HC1 := Aside0.mk hc1
  clear hr1 hc1
  have H : (if (l0.length : Int) = (l1.length : Int) then (vouchref13_Same.l0 k l0 l1 0) else (some false)) = some r := h
  clear h
  by_cases c3 : (l0.length : Int) = (l1.length : Int)
  · rw [if_pos c3] at H
    have c3b0 : ((l0.length : Int) == (l1.length : Int)) = true := beq_iff_eq.mpr c3
    have c3b1 : ((l0.length : Int) != (l1.length : Int)) = false := bne_eq_false_iff_eq.mpr c3
    have c3b2 : (l0.length == l1.length) = true := by first | simpa using c3 | (simp at c3 ⊢; omega)
    clear c3
    have H' := Aside0.mk H
    clear H
    go_enter Try.func13, Try.ntmps13
    go_wp2
    repeat (go_quiet (fail); try go_wp2)
    go_loopg [5] k (fun kq v5 w' => ∃ (x5_1 : Int), v5 = .int .i64 x5_1 ∧ Aside0 (vouchref13_Same.l0 kq l0 l1 x5_1 = some r) ∧ Aside0 (kq ≤ k) ∧ Drawn0 w w')
    case atStart => exact ⟨(0), (by first | rfl | (simp; done) | (simp [*]; done) | (repeat (first | rfl | (unfold wrap64; omega) | congr 1))), H', ⟨Nat.le_refl _⟩, by repeat (first | exact Drawn0.refl _ | apply Drawn0.step)⟩
    case round =>
      clear H'
      try clear c1
      try clear p2
      try clear c3
      try clear c3b0
      try clear c3b1
      try clear c3b2
      obtain ⟨x5_1, rfl, HA, HK1, ⟨m1, rfl⟩⟩ := hrel
      cases gk with
      | zero => exact absurd HA.out (by simp [vouchref13_Same.l0])
      | succ k1 =>
        have H := HA.out
        clear HA
        simp only [vouchref13_Same.l0] at H
        by_cases c4 : x5_1 < (l0.length : Int)
        · rw [if_pos c4] at H
          have c4b0 : decide (x5_1 < (l0.length : Int)) = true := decide_eq_true c4
          clear c4
          by_cases c5 : 0 ≤ x5_1
          · rw [if_pos c5] at H
            have c5b0 : decide (0 ≤ x5_1) = true := decide_eq_true c5
            clear c5
            by_cases c6 : x5_1 < (l1.length : Int)
            · rw [if_pos c6] at H
              have c6b0 : decide (x5_1 < (l1.length : Int)) = true := decide_eq_true c6
              clear c6
              by_cases c7 : (!(((rd_T28 l0 x5_1).f0) == ((rd_T28 l1 x5_1).f0)) || (!(((rd_T28 l0 x5_1).f1) == ((rd_T28 l1 x5_1).f1)) || (!(((rd_T28 l0 x5_1).f2) == ((rd_T28 l1 x5_1).f2)) || (!(((rd_T28 l0 x5_1).f3) == ((rd_T28 l1 x5_1).f3)))))) = true
              · rw [if_pos c7] at H
                have c7b0 : (!(((rd_T28 l0 x5_1).f0) == ((rd_T28 l1 x5_1).f0)) || (!(((rd_T28 l0 x5_1).f1) == ((rd_T28 l1 x5_1).f1)) || (!(((rd_T28 l0 x5_1).f2) == ((rd_T28 l1 x5_1).f2)) || (!(((rd_T28 l0 x5_1).f3) == ((rd_T28 l1 x5_1).f3)))))) = true := c7
                clear c7
                obtain rfl := Option.some.inj H
                have p145 : 0 ≤ (x5_1 : Int) := of_decide_eq_true (by first | (with_reducible assumption) | assumption)
                have q145 : x5_1 < (l0.length : Int) := of_decide_eq_true (by first | (with_reducible assumption) | assumption)
                obtain ⟨ad145, e145, hx145_0, hx145_1, hx145_2, hx145_3⟩ := at_T28 HR0.out x5_1 p145 q145
                cases e145
                replace p145 := eq_true p145
                replace q145 := eq_true q145
                have p146 : 0 ≤ (x5_1 : Int) := of_decide_eq_true (by first | (with_reducible assumption) | assumption)
                have q146 : x5_1 < (l1.length : Int) := of_decide_eq_true (by first | (with_reducible assumption) | assumption)
                obtain ⟨ad146, e146, hx146_0, hx146_1, hx146_2, hx146_3⟩ := at_T28 HR1.out x5_1 p146 q146
                cases e146
                replace p146 := eq_true p146
                replace q146 := eq_true q146
                go_wp2
                repeat (go_quiet (fail); try go_wp2)
                go_ret
                exact ⟨by first | rfl | (simp; done) | (simp [*]; done), by repeat (first | exact Drawn0.refl _ | apply Drawn0.step)⟩
              · rw [if_neg c7] at H
                have c7b0 : (!(((rd_T28 l0 x5_1).f0) == ((rd_T28 l1 x5_1).f0)) || (!(((rd_T28 l0 x5_1).f1) == ((rd_T28 l1 x5_1).f1)) || (!(((rd_T28 l0 x5_1).f2) == ((rd_T28 l1 x5_1).f2)) || (!(((rd_T28 l0 x5_1).f3) == ((rd_T28 l1 x5_1).f3)))))) = false := by simpa using c7
                clear c7
                have H' := Aside0.mk H
                clear H
                have p145 : 0 ≤ (x5_1 : Int) := of_decide_eq_true (by first | (with_reducible assumption) | assumption)
                have q145 : x5_1 < (l0.length : Int) := of_decide_eq_true (by first | (with_reducible assumption) | assumption)
                obtain ⟨ad145, e145, hx145_0, hx145_1, hx145_2, hx145_3⟩ := at_T28 HR0.out x5_1 p145 q145
                cases e145
                replace p145 := eq_true p145
                replace q145 := eq_true q145
                have p146 : 0 ≤ (x5_1 : Int) := of_decide_eq_true (by first | (with_reducible assumption) | assumption)
                have q146 : x5_1 < (l1.length : Int) := of_decide_eq_true (by first | (with_reducible assumption) | assumption)
                obtain ⟨ad146, e146, hx146_0, hx146_1, hx146_2, hx146_3⟩ := at_T28 HR1.out x5_1 p146 q146
                cases e146
                replace p146 := eq_true p146
                replace q146 := eq_true q146
                go_wp2
                repeat (go_quiet (fail); try go_wp2)
                go_roundg k1
                case measure => have := HK1.out; omega
                case rel => exact ⟨(wrap64 (x5_1 + 1)), (by first | rfl | (simp; done) | (simp [*]; done) | (repeat (first | rfl | (unfold wrap64; omega) | congr 1))), H', ⟨by have := HK1.out; omega⟩, by repeat (first | exact Drawn0.refl _ | apply Drawn0.step)⟩
            · rw [if_neg c6] at H
              exact absurd H (by simp)
          · rw [if_neg c5] at H
            exact absurd H (by simp)
        · rw [if_neg c4] at H
          have c4b0 : decide (x5_1 < (l0.length : Int)) = false := decide_eq_false c4
          clear c4
          obtain rfl := Option.some.inj H
          go_wp2
          repeat (go_quiet (fail); try go_wp2)
          go_ret
          exact ⟨by first | rfl | (simp; done) | (simp [*]; done), by repeat (first | exact Drawn0.refl _ | apply Drawn0.step)⟩
  · rw [if_neg c3] at H
    have c3b0 : ((l0.length : Int) == (l1.length : Int)) = false := beq_eq_false_iff_ne.mpr c3
    have c3b1 : ((l0.length : Int) != (l1.length : Int)) = true := bne_iff_ne.mpr c3
    have c3b2 : (l0.length == l1.length) = false := by first | simpa using c3 | (simp at c3 ⊢; omega)
    obtain rfl := Option.some.inj H
    go_enter Try.func13, Try.ntmps13
    go_wp2
    repeat (go_quiet (fail); try go_wp2)
    go_ret
    exact ⟨by first | rfl | (simp; done) | (simp [*]; done), by repeat (first | exact Drawn0.refl _ | apply Drawn0.step)⟩

/-! ### vouchlaw13_works: function 14 -/
def vouchlaw13_works.f  : Option (Bool) := (fields_Split.f (⟨#[65, 117, 116, 104, 111, 114, 105, 122, 101, 114, 58, 32, 34, 97, 34, 10, 67, 111, 110, 100, 105, 116, 105, 111, 110, 115, 58, 32, 120, 59, 10]⟩ : ByteArray)).bind fun bt147 => (if bt147.2.2 = 0 then (if bt147.2.1 = 0 then (if (bt147.1.length : Int) = 2 then (if 0 < (bt147.1.length : Int) then (if (((rd_T28 bt147.1 0).f0) == 2 && (((rd_T28 bt147.1 0).f1) == 0 && (((rd_T28 bt147.1 0).f2) == 11 && (((rd_T28 bt147.1 0).f3) == 16)))) = true then (if 1 < (bt147.1.length : Int) then (some (((rd_T28 bt147.1 1).f0) == 5 && (((rd_T28 bt147.1 1).f1) == 16 && (((rd_T28 bt147.1 1).f2) == 27 && (((rd_T28 bt147.1 1).f3) == 31))))) else (none)) else (some false)) else (none)) else (some false)) else (some false)) else (some false))
set_option maxHeartbeats 8000000 in
set_option maxRecDepth 100000 in
theorem vouchlaw13_works.calls  (r : Bool) (w : World) (h : vouchlaw13_works.f  = some r) :
    Calls Try.prog 14 #[] w fun e w' => e = .returned (.bool r) ∧ Below w.heap.size w w' := by
  have hu28 := Try.underlying28
  have HB := Aside0.mk (Below.refl w.heap.size w)
  have H : ((fields_Split.f (⟨#[65, 117, 116, 104, 111, 114, 105, 122, 101, 114, 58, 32, 34, 97, 34, 10, 67, 111, 110, 100, 105, 116, 105, 111, 110, 115, 58, 32, 120, 59, 10]⟩ : ByteArray)).bind fun bt147 => (if bt147.2.2 = 0 then (if bt147.2.1 = 0 then (if (bt147.1.length : Int) = 2 then (if 0 < (bt147.1.length : Int) then (if (((rd_T28 bt147.1 0).f0) == 2 && (((rd_T28 bt147.1 0).f1) == 0 && (((rd_T28 bt147.1 0).f2) == 11 && (((rd_T28 bt147.1 0).f3) == 16)))) = true then (if 1 < (bt147.1.length : Int) then (some (((rd_T28 bt147.1 1).f0) == 5 && (((rd_T28 bt147.1 1).f1) == 16 && (((rd_T28 bt147.1 1).f2) == 27 && (((rd_T28 bt147.1 1).f3) == 31))))) else (none)) else (some false)) else (none)) else (some false)) else (some false)) else (some false))) = some r := h
  clear h
  replace H := Option.bind_eq_some_iff.mp H
  obtain ⟨⟨t147, t148, t149⟩, A10, H⟩ := H
  replace H : (if t149 = 0 then (if t148 = 0 then (if (t147.length : Int) = 2 then (if 0 < (t147.length : Int) then (if (((rd_T28 t147 0).f0) == 2 && (((rd_T28 t147 0).f1) == 0 && (((rd_T28 t147 0).f2) == 11 && (((rd_T28 t147 0).f3) == 16)))) = true then (if 1 < (t147.length : Int) then (some (((rd_T28 t147 1).f0) == 5 && (((rd_T28 t147 1).f1) == 16 && (((rd_T28 t147 1).f2) == 27 && (((rd_T28 t147 1).f3) == 31))))) else (none)) else (some false)) else (none)) else (some false)) else (some false)) else (some false)) = some r := H
  have A1 := Aside0.mk A10
  clear A10
  by_cases c2 : t149 = 0
  · rw [if_pos c2] at H
    have c2b0 : (t149 == 0) = true := beq_iff_eq.mpr c2
    have c2b1 : (t149 != 0) = false := bne_eq_false_iff_eq.mpr c2
    clear c2
    by_cases c3 : t148 = 0
    · rw [if_pos c3] at H
      have c3b0 : (t148 == 0) = true := beq_iff_eq.mpr c3
      have c3b1 : (t148 != 0) = false := bne_eq_false_iff_eq.mpr c3
      clear c3
      by_cases c4 : (t147.length : Int) = 2
      · rw [if_pos c4] at H
        have c4b0 : ((t147.length : Int) == 2) = true := beq_iff_eq.mpr c4
        have c4b1 : ((t147.length : Int) != 2) = false := bne_eq_false_iff_eq.mpr c4
        clear c4
        by_cases c5 : 0 < (t147.length : Int)
        · rw [if_pos c5] at H
          have c5b0 : decide (0 < (t147.length : Int)) = true := decide_eq_true c5
          have c5b1 : decide (0 < t147.length) = true := decide_eq_true (by omega)
          clear c5
          by_cases c6 : (((rd_T28 t147 0).f0) == 2 && (((rd_T28 t147 0).f1) == 0 && (((rd_T28 t147 0).f2) == 11 && (((rd_T28 t147 0).f3) == 16)))) = true
          · rw [if_pos c6] at H
            have c6b0 : (((rd_T28 t147 0).f0) == 2 && (((rd_T28 t147 0).f1) == 0 && (((rd_T28 t147 0).f2) == 11 && (((rd_T28 t147 0).f3) == 16)))) = true := c6
            (try (have c6b1 : decide (((rd_T28 t147 0).f0) = 2 && (((rd_T28 t147 0).f1) == 0 && (((rd_T28 t147 0).f2) == 11 && (((rd_T28 t147 0).f3) == 16)))) = true := by simpa using c6))
            (try (have c6b2 : (((rd_T28 t147 0).f0) == 2 && (((rd_T28 t147 0).f1) == 0 && (((rd_T28 t147 0).f2) == 11 && (((rd_T28 t147 0).f3) == 16)))) = true := by simpa using c6))
            clear c6
            by_cases c7 : 1 < (t147.length : Int)
            · rw [if_pos c7] at H
              have c7b0 : decide (1 < (t147.length : Int)) = true := decide_eq_true c7
              have c7b1 : decide (1 < t147.length) = true := decide_eq_true (by omega)
              clear c7
              obtain rfl := Option.some.inj H
              go_enter Try.func14, Try.ntmps14
              go_wp2_with (first | ((with_reducible refine gate_callee (f := 12) rfl ?_); refine goesL_ (some 5) rfl rfl Try.func12 (by kernel_rfl) rfl #[.string (⟨#[65, 117, 116, 104, 111, 114, 105, 122, 101, 114, 58, 32, 34, 97, 34, 10, 67, 111, 110, 100, 105, 116, 105, 111, 110, 115, 58, 32, 120, 59, 10]⟩ : ByteArray)] rfl (by (try simp only [List.map_toArray, List.map_cons, List.map_nil]); first | done | rfl | (simp only [List.length_drop, List.length_take]; rfl)) ?_; (with_reducible refine (fields_Split.calls (⟨#[65, 117, 116, 104, 111, 114, 105, 122, 101, 114, 58, 32, 34, 97, 34, 10, 67, 111, 110, 100, 105, 116, 105, 111, 110, 115, 58, 32, 120, 59, 10]⟩ : ByteArray) t147 t148 t149 _ A1.out).mono ?_); rintro e w8 ⟨v150, rfl, ho0, hb⟩; refine ⟨_, rfl, ?_⟩; have n0_ := Aside0.mk (Kd.R_lower ho0 (below_size (by repeat (first | (with_reducible first | exact HB.out | apply below_alloc | apply pw_below_drewN | apply below_drew1) | exact HB.out)))); have n1_ := Aside0.mk (below_step (by repeat (first | (with_reducible first | exact HB.out | apply below_alloc | apply pw_below_drewN | apply below_drew1) | exact HB.out)) hb); clear HB; have HO151 := n0_; have HB := n1_; clear n0_ n1_; (try clear hb); (try clear hb2); (try clear hk); (try clear hi); (try clear ho0); obtain ⟨Ao9, co9, eo9⟩ := Kd.R_slice HO151.out; subst eo9; have p152 : 0 ≤ (0 : Int) := (by omega); have q152 : 0 < (t147.length : Int) := of_decide_eq_true (by first | (with_reducible assumption) | assumption); obtain ⟨ad152, e152, hx152_0, hx152_1, hx152_2, hx152_3⟩ := at_T28 (Kd.R_reads' HO151.out).2.2 0 p152 q152; cases e152; have qi152 : (0 < t147.length) = True := eq_true (by omega); (try rw [show ((0 : Int)).toNat = 0 from rfl] at hx152_0); (try rw [show 0 * 4 = 0 from rfl] at hx152_0); (try rw [Addr.add_zero'] at hx152_0); (try rw [show ((0 : Int)).toNat = 0 from rfl] at hx152_1); (try rw [show 0 * 4 = 0 from rfl] at hx152_1); (try rw [Addr.add_zero'] at hx152_1); (try rw [show ((0 : Int)).toNat = 0 from rfl] at hx152_2); (try rw [show 0 * 4 = 0 from rfl] at hx152_2); (try rw [Addr.add_zero'] at hx152_2); (try rw [show ((0 : Int)).toNat = 0 from rfl] at hx152_3); (try rw [show 0 * 4 = 0 from rfl] at hx152_3); (try rw [Addr.add_zero'] at hx152_3); replace p152 := eq_true p152; replace q152 := eq_true q152; have p153 : 0 ≤ (1 : Int) := (by omega); have q153 : 1 < (t147.length : Int) := of_decide_eq_true (by first | (with_reducible assumption) | assumption); obtain ⟨ad153, e153, hx153_0, hx153_1, hx153_2, hx153_3⟩ := at_T28 (Kd.R_reads' HO151.out).2.2 1 p153 q153; obtain rfl : ad152 = ad153 := (by injection e153); (try simp only [show (1 : Int).toNat = 1 from rfl, Nat.reduceMul, Nat.reduceEqDiff, Go.Addr.add, ↓reduceIte] at hx153_0); (try simp only [show (1 : Int).toNat = 1 from rfl, Nat.reduceMul, Nat.reduceEqDiff, Go.Addr.add, ↓reduceIte] at hx153_1); (try simp only [show (1 : Int).toNat = 1 from rfl, Nat.reduceMul, Nat.reduceEqDiff, Go.Addr.add, ↓reduceIte] at hx153_2); (try simp only [show (1 : Int).toNat = 1 from rfl, Nat.reduceMul, Nat.reduceEqDiff, Go.Addr.add, ↓reduceIte] at hx153_3); have qi153 : (1 < t147.length) = True := eq_true (by omega); (try rw [show ((1 : Int)).toNat = 1 from rfl] at hx153_0); (try rw [show 1 * 4 = 4 from rfl] at hx153_0); (try rw [show ((1 : Int)).toNat = 1 from rfl] at hx153_1); (try rw [show 1 * 4 = 4 from rfl] at hx153_1); (try rw [show ((1 : Int)).toNat = 1 from rfl] at hx153_2); (try rw [show 1 * 4 = 4 from rfl] at hx153_2); (try rw [show ((1 : Int)).toNat = 1 from rfl] at hx153_3); (try rw [show 1 * 4 = 4 from rfl] at hx153_3); replace p153 := eq_true p153; replace q153 := eq_true q153))
              go_ret
              exact ⟨by first | rfl | (simp [errW_none, errW_some] <;> rfl) | (simp [*, errW_none, errW_some] <;> rfl), by repeat (first | (with_reducible first | exact HB.out | apply below_alloc | apply pw_below_drewN | apply below_drew1) | exact HB.out)⟩
            · rw [if_neg c7] at H
              exact absurd H (by simp)
          · rw [if_neg c6] at H
            have c6b0 : (((rd_T28 t147 0).f0) == 2 && (((rd_T28 t147 0).f1) == 0 && (((rd_T28 t147 0).f2) == 11 && (((rd_T28 t147 0).f3) == 16)))) = false := by simpa using c6
            (try (have c6b1 : decide (((rd_T28 t147 0).f0) = 2 && (((rd_T28 t147 0).f1) == 0 && (((rd_T28 t147 0).f2) == 11 && (((rd_T28 t147 0).f3) == 16)))) = false := by simpa using c6))
            (try (have c6b2 : (((rd_T28 t147 0).f0) == 2 && (((rd_T28 t147 0).f1) == 0 && (((rd_T28 t147 0).f2) == 11 && (((rd_T28 t147 0).f3) == 16)))) = false := by simpa using c6))
            (try (have c6b3 : ¬ (((rd_T28 t147 0).f0) = 2 && (((rd_T28 t147 0).f1) == 0 && (((rd_T28 t147 0).f2) == 11 && (((rd_T28 t147 0).f3) == 16)))) := by simpa using c6))
            clear c6
            obtain rfl := Option.some.inj H
            go_enter Try.func14, Try.ntmps14
            go_wp2_with (first | ((with_reducible refine gate_callee (f := 12) rfl ?_); refine goesL_ (some 5) rfl rfl Try.func12 (by kernel_rfl) rfl #[.string (⟨#[65, 117, 116, 104, 111, 114, 105, 122, 101, 114, 58, 32, 34, 97, 34, 10, 67, 111, 110, 100, 105, 116, 105, 111, 110, 115, 58, 32, 120, 59, 10]⟩ : ByteArray)] rfl (by (try simp only [List.map_toArray, List.map_cons, List.map_nil]); first | done | rfl | (simp only [List.length_drop, List.length_take]; rfl)) ?_; (with_reducible refine (fields_Split.calls (⟨#[65, 117, 116, 104, 111, 114, 105, 122, 101, 114, 58, 32, 34, 97, 34, 10, 67, 111, 110, 100, 105, 116, 105, 111, 110, 115, 58, 32, 120, 59, 10]⟩ : ByteArray) t147 t148 t149 _ A1.out).mono ?_); rintro e w10 ⟨v150, rfl, ho0, hb⟩; refine ⟨_, rfl, ?_⟩; have n0_ := Aside0.mk (Kd.R_lower ho0 (below_size (by repeat (first | (with_reducible first | exact HB.out | apply below_alloc | apply pw_below_drewN | apply below_drew1) | exact HB.out)))); have n1_ := Aside0.mk (below_step (by repeat (first | (with_reducible first | exact HB.out | apply below_alloc | apply pw_below_drewN | apply below_drew1) | exact HB.out)) hb); clear HB; have HO151 := n0_; have HB := n1_; clear n0_ n1_; (try clear hb); (try clear hb2); (try clear hk); (try clear hi); (try clear ho0); obtain ⟨Ao11, co11, eo11⟩ := Kd.R_slice HO151.out; subst eo11; have p152 : 0 ≤ (0 : Int) := (by omega); have q152 : 0 < (t147.length : Int) := of_decide_eq_true (by first | (with_reducible assumption) | assumption); obtain ⟨ad152, e152, hx152_0, hx152_1, hx152_2, hx152_3⟩ := at_T28 (Kd.R_reads' HO151.out).2.2 0 p152 q152; cases e152; have qi152 : (0 < t147.length) = True := eq_true (by omega); (try rw [show ((0 : Int)).toNat = 0 from rfl] at hx152_0); (try rw [show 0 * 4 = 0 from rfl] at hx152_0); (try rw [Addr.add_zero'] at hx152_0); (try rw [show ((0 : Int)).toNat = 0 from rfl] at hx152_1); (try rw [show 0 * 4 = 0 from rfl] at hx152_1); (try rw [Addr.add_zero'] at hx152_1); (try rw [show ((0 : Int)).toNat = 0 from rfl] at hx152_2); (try rw [show 0 * 4 = 0 from rfl] at hx152_2); (try rw [Addr.add_zero'] at hx152_2); (try rw [show ((0 : Int)).toNat = 0 from rfl] at hx152_3); (try rw [show 0 * 4 = 0 from rfl] at hx152_3); (try rw [Addr.add_zero'] at hx152_3); replace p152 := eq_true p152; replace q152 := eq_true q152))
            go_ret
            exact ⟨by first | rfl | (simp [errW_none, errW_some] <;> rfl) | (simp [*, errW_none, errW_some] <;> rfl), by repeat (first | (with_reducible first | exact HB.out | apply below_alloc | apply pw_below_drewN | apply below_drew1) | exact HB.out)⟩
        · rw [if_neg c5] at H
          exact absurd H (by simp)
      · rw [if_neg c4] at H
        have c4b0 : ((t147.length : Int) == 2) = false := beq_eq_false_iff_ne.mpr c4
        have c4b1 : ((t147.length : Int) != 2) = true := bne_iff_ne.mpr c4
        obtain rfl := Option.some.inj H
        go_enter Try.func14, Try.ntmps14
        go_wp2_with (first | ((with_reducible refine gate_callee (f := 12) rfl ?_); refine goesL_ (some 5) rfl rfl Try.func12 (by kernel_rfl) rfl #[.string (⟨#[65, 117, 116, 104, 111, 114, 105, 122, 101, 114, 58, 32, 34, 97, 34, 10, 67, 111, 110, 100, 105, 116, 105, 111, 110, 115, 58, 32, 120, 59, 10]⟩ : ByteArray)] rfl (by (try simp only [List.map_toArray, List.map_cons, List.map_nil]); first | done | rfl | (simp only [List.length_drop, List.length_take]; rfl)) ?_; (with_reducible refine (fields_Split.calls (⟨#[65, 117, 116, 104, 111, 114, 105, 122, 101, 114, 58, 32, 34, 97, 34, 10, 67, 111, 110, 100, 105, 116, 105, 111, 110, 115, 58, 32, 120, 59, 10]⟩ : ByteArray) t147 t148 t149 _ A1.out).mono ?_); rintro e w12 ⟨v150, rfl, ho0, hb⟩; refine ⟨_, rfl, ?_⟩; have n0_ := Aside0.mk (Kd.R_lower ho0 (below_size (by repeat (first | (with_reducible first | exact HB.out | apply below_alloc | apply pw_below_drewN | apply below_drew1) | exact HB.out)))); have n1_ := Aside0.mk (below_step (by repeat (first | (with_reducible first | exact HB.out | apply below_alloc | apply pw_below_drewN | apply below_drew1) | exact HB.out)) hb); clear HB; have HO151 := n0_; have HB := n1_; clear n0_ n1_; (try clear hb); (try clear hb2); (try clear hk); (try clear hi); (try clear ho0); obtain ⟨Ao13, co13, eo13⟩ := Kd.R_slice HO151.out; subst eo13))
        go_ret
        exact ⟨by first | rfl | (simp [errW_none, errW_some] <;> rfl) | (simp [*, errW_none, errW_some] <;> rfl), by repeat (first | (with_reducible first | exact HB.out | apply below_alloc | apply pw_below_drewN | apply below_drew1) | exact HB.out)⟩
    · rw [if_neg c3] at H
      have c3b0 : (t148 == 0) = false := beq_eq_false_iff_ne.mpr c3
      have c3b1 : (t148 != 0) = true := bne_iff_ne.mpr c3
      obtain rfl := Option.some.inj H
      go_enter Try.func14, Try.ntmps14
      go_wp2_with (first | ((with_reducible refine gate_callee (f := 12) rfl ?_); refine goesL_ (some 5) rfl rfl Try.func12 (by kernel_rfl) rfl #[.string (⟨#[65, 117, 116, 104, 111, 114, 105, 122, 101, 114, 58, 32, 34, 97, 34, 10, 67, 111, 110, 100, 105, 116, 105, 111, 110, 115, 58, 32, 120, 59, 10]⟩ : ByteArray)] rfl (by (try simp only [List.map_toArray, List.map_cons, List.map_nil]); first | done | rfl | (simp only [List.length_drop, List.length_take]; rfl)) ?_; (with_reducible refine (fields_Split.calls (⟨#[65, 117, 116, 104, 111, 114, 105, 122, 101, 114, 58, 32, 34, 97, 34, 10, 67, 111, 110, 100, 105, 116, 105, 111, 110, 115, 58, 32, 120, 59, 10]⟩ : ByteArray) t147 t148 t149 _ A1.out).mono ?_); rintro e w14 ⟨v150, rfl, ho0, hb⟩; refine ⟨_, rfl, ?_⟩; have n0_ := Aside0.mk (Kd.R_lower ho0 (below_size (by repeat (first | (with_reducible first | exact HB.out | apply below_alloc | apply pw_below_drewN | apply below_drew1) | exact HB.out)))); have n1_ := Aside0.mk (below_step (by repeat (first | (with_reducible first | exact HB.out | apply below_alloc | apply pw_below_drewN | apply below_drew1) | exact HB.out)) hb); clear HB; have HO151 := n0_; have HB := n1_; clear n0_ n1_; (try clear hb); (try clear hb2); (try clear hk); (try clear hi); (try clear ho0)))
      go_ret
      exact ⟨by first | rfl | (simp [errW_none, errW_some] <;> rfl) | (simp [*, errW_none, errW_some] <;> rfl), by repeat (first | (with_reducible first | exact HB.out | apply below_alloc | apply pw_below_drewN | apply below_drew1) | exact HB.out)⟩
  · rw [if_neg c2] at H
    have c2b0 : (t149 == 0) = false := beq_eq_false_iff_ne.mpr c2
    have c2b1 : (t149 != 0) = true := bne_iff_ne.mpr c2
    obtain rfl := Option.some.inj H
    go_enter Try.func14, Try.ntmps14
    go_wp2_with (first | ((with_reducible refine gate_callee (f := 12) rfl ?_); refine goesL_ (some 5) rfl rfl Try.func12 (by kernel_rfl) rfl #[.string (⟨#[65, 117, 116, 104, 111, 114, 105, 122, 101, 114, 58, 32, 34, 97, 34, 10, 67, 111, 110, 100, 105, 116, 105, 111, 110, 115, 58, 32, 120, 59, 10]⟩ : ByteArray)] rfl (by (try simp only [List.map_toArray, List.map_cons, List.map_nil]); first | done | rfl | (simp only [List.length_drop, List.length_take]; rfl)) ?_; (with_reducible refine (fields_Split.calls (⟨#[65, 117, 116, 104, 111, 114, 105, 122, 101, 114, 58, 32, 34, 97, 34, 10, 67, 111, 110, 100, 105, 116, 105, 111, 110, 115, 58, 32, 120, 59, 10]⟩ : ByteArray) t147 t148 t149 _ A1.out).mono ?_); rintro e w15 ⟨v150, rfl, ho0, hb⟩; refine ⟨_, rfl, ?_⟩; have n0_ := Aside0.mk (Kd.R_lower ho0 (below_size (by repeat (first | (with_reducible first | exact HB.out | apply below_alloc | apply pw_below_drewN | apply below_drew1) | exact HB.out)))); have n1_ := Aside0.mk (below_step (by repeat (first | (with_reducible first | exact HB.out | apply below_alloc | apply pw_below_drewN | apply below_drew1) | exact HB.out)) hb); clear HB; have HO151 := n0_; have HB := n1_; clear n0_ n1_; (try clear hb); (try clear hb2); (try clear hk); (try clear hi); (try clear ho0)))
    go_ret
    exact ⟨by first | rfl | (simp [errW_none, errW_some] <;> rfl) | (simp [*, errW_none, errW_some] <;> rfl), by repeat (first | (with_reducible first | exact HB.out | apply below_alloc | apply pw_below_drewN | apply below_drew1) | exact HB.out)⟩

end Go.Proofs.Ytiienmifjebdlaa.Q
