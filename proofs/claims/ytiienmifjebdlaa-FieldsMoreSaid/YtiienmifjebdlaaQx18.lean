/- Go functions as Lean functions, and that each call comes to its Lean function's answer, wherever that is some answer. Written by a program of this session out of the translation. -/
import Derived.Test.YtiienmifjebdlaaQx0
import Derived.Test.YtiienmifjebdlaaQx1
import Derived.Test.YtiienmifjebdlaaQx8
import Derived.Test.YtiienmifjebdlaaQx9
import Derived.Test.YtiienmifjebdlaaQx14
import Derived.Test.YtiienmifjebdlaaQx17
namespace Go.Proofs.Ytiienmifjebdlaa.Q
open Go.RowKit Go.Proofs.YtiienmifjebdlaaW.PrintWords Go.Proofs.YtiienmifjebdlaaW.PrintLast Go.Proofs.YtiienmifjebdlaaW.PrintMore
attribute [local go_sem] max2_int min2_int max_two min_two max_three min_three max_four min_four   -- for this text's walks alone
set_option linter.unusedVariables false
set_option linter.unusedSimpArgs false

attribute [local go_sem high] eqA28
/-! ### vouchlaw13_FieldsMore: function 8 -/
mutual
def vouchlaw13_FieldsMore.j0 : Nat → ByteArray → ByteArray → List (S28) → Int → Bool → Option (Bool)
  | 0, _, _, _, _, _ => none
  | k + 1, x0, x1, x5, x7, x28 => if x28 = true then (some false) else (if x7 = 0 then (if 0 ≤ (wrap64 ((x0.size : Int) - 1)) then (if (wrap64 ((x0.size : Int) - 1)) < (x0.size : Int) then (if (bt x0 (wrap64 ((x0.size : Int) - 1))) = 10 then (vouchlaw13_FieldsMore.j1 k x0 x1 x5 (decide ((x0.size : Int) > 65136))) else (vouchlaw13_FieldsMore.j1 k x0 x1 x5 true)) else (none)) else (none)) else (vouchlaw13_FieldsMore.j1 k x0 x1 x5 true))
def vouchlaw13_FieldsMore.j1 : Nat → ByteArray → ByteArray → List (S28) → Bool → Option (Bool)
  | 0, _, _, _, _ => none
  | k + 1, x0, x1, x5, x43 => if x43 = true then ((vouchlaw13_works.f).bind fun t269 => (some t269)) else (vouchlaw13_FieldsMore.l0 k x0 x1 x5 0)
def vouchlaw13_FieldsMore.l0 : Nat → ByteArray → ByteArray → List (S28) → Int → Option (Bool)
  | 0, _, _, _, _ => none
  | k + 1, x0, x1, x5, x8 => if x8 < (x5.length : Int) then (if 0 ≤ x8 then (if ((rd_T28 x5 x8).f0) = 6 then ((vouchlaw13_works.f).bind fun t271 => (some t271)) else (if ((rd_T28 x5 x8).f0) = 7 then ((vouchlaw13_works.f).bind fun t273 => (some t273)) else (vouchlaw13_FieldsMore.l0 k x0 x1 x5 (wrap64 (x8 + 1))))) else (none)) else ((vouchlaw13_behind.f k x1).bind fun t274 => (if x0.size + 8 ≤ 9223372036854775807 then (if (x0 ++ (⟨#[67, 111, 109, 109, 101, 110, 116, 58]⟩ : ByteArray)).size + t274.size ≤ 9223372036854775807 then ((fields_Split.f ((x0 ++ (⟨#[67, 111, 109, 109, 101, 110, 116, 58]⟩ : ByteArray)) ++ t274)).bind fun bt275 => (if bt275.2.2 = 0 then (if bt275.2.1 = 0 then (if (bt275.1.length : Int) = (wrap64 ((x5.length : Int) + 1)) then (if 0 ≤ (x5.length : Int) then (if (x5.length : Int) < (bt275.1.length : Int) then (vouchlaw13_FieldsMore.j3 k x0 x5 t274 bt275.1 (x5.length : Int) (!(((rd_T28 bt275.1 (x5.length : Int)).f0) == 6) || (!(((rd_T28 bt275.1 (x5.length : Int)).f1) == (x0.size : Int)) || (!(((rd_T28 bt275.1 (x5.length : Int)).f2) == (wrap64 ((x0.size : Int) + 8))) || (!(((rd_T28 bt275.1 (x5.length : Int)).f3) == (wrap64 ((wrap64 ((x0.size : Int) + 8)) + (t274.size : Int))))))))) else (none)) else (none)) else (vouchlaw13_FieldsMore.j3 k x0 x5 t274 bt275.1 (x5.length : Int) true)) else (vouchlaw13_FieldsMore.j3 k x0 x5 t274 bt275.1 (x5.length : Int) true)) else (vouchlaw13_FieldsMore.j3 k x0 x5 t274 bt275.1 (x5.length : Int) true))) else (none)) else (none)))
def vouchlaw13_FieldsMore.j3 : Nat → ByteArray → List (S28) → ByteArray → List (S28) → Int → Bool → Option (Bool)
  | 0, _, _, _, _, _, _ => none
  | k + 1, x0, x5, x9, x10, x13, x110 => if x110 = true then (some false) else (if x0.size + 8 ≤ 9223372036854775807 then (if (x0 ++ (⟨#[67, 111, 109, 109, 101, 110, 116, 58]⟩ : ByteArray)).size + x9.size ≤ 9223372036854775807 then ((fields_Find.f k ((x0 ++ (⟨#[67, 111, 109, 109, 101, 110, 116, 58]⟩ : ByteArray)) ++ x9) 6).bind fun bt281 => (if 0 ≤ x13 then (if x13 ≤ (x10.length : Int) then ((vouchref13_Same.f k (x10.take (x13 : Int).toNat) x5).bind fun t288 => (if t288 = true then (if bt281.2.2 = 0 then (if bt281.2.1 = true then (if bt281.1.toList = x9.toList then ((vouchlaw13_works.f).bind fun t289 => (some t289)) else (some false)) else (some false)) else (some false)) else (some false))) else (none)) else (none))) else (none)) else (none))
end
def vouchlaw13_FieldsMore.f (k : Nat) (a0 : ByteArray) (a1 : ByteArray) : Option (Bool) := (fields_Split.f a0).bind fun bt264 => (if bt264.2.2 = 0 then (vouchlaw13_FieldsMore.j0 k a0 a1 bt264.1 bt264.2.2 (a0.toList == ([] : List UInt8))) else (vouchlaw13_FieldsMore.j0 k a0 a1 bt264.1 bt264.2.2 false))
set_option maxRecDepth 100000 in
theorem vouchlaw13_FieldsMore.mono_l : ∀ k, (∀ y0 y1 y2 y3 y4, LeO (vouchlaw13_FieldsMore.j0 k y0 y1 y2 y3 y4) (vouchlaw13_FieldsMore.j0 (k + 1) y0 y1 y2 y3 y4)) ∧ (∀ y0 y1 y2 y3, LeO (vouchlaw13_FieldsMore.j1 k y0 y1 y2 y3) (vouchlaw13_FieldsMore.j1 (k + 1) y0 y1 y2 y3)) ∧ (∀ y0 y1 y2 y3, LeO (vouchlaw13_FieldsMore.l0 k y0 y1 y2 y3) (vouchlaw13_FieldsMore.l0 (k + 1) y0 y1 y2 y3)) ∧ (∀ y0 y1 y2 y3 y4 y5, LeO (vouchlaw13_FieldsMore.j3 k y0 y1 y2 y3 y4 y5) (vouchlaw13_FieldsMore.j3 (k + 1) y0 y1 y2 y3 y4 y5))
  | 0 => ⟨fun _ _ _ _ _ r h => by simp [vouchlaw13_FieldsMore.j0] at h, fun _ _ _ _ r h => by simp [vouchlaw13_FieldsMore.j1] at h, fun _ _ _ _ r h => by simp [vouchlaw13_FieldsMore.l0] at h, fun _ _ _ _ _ _ r h => by simp [vouchlaw13_FieldsMore.j3] at h⟩
  | k + 1 => by
    obtain ⟨ih0, ih1, ih2, ih3⟩ := vouchlaw13_FieldsMore.mono_l k
    refine ⟨?_, ?_, ?_, ?_⟩
    · intro y0 y1 y2 y3 y4
      unfold vouchlaw13_FieldsMore.j0
      repeat' first
      | (with_reducible exact ih0 _ _ _ _ _)
      | (with_reducible exact ih1 _ _ _ _)
      | (with_reducible exact ih2 _ _ _ _)
      | (with_reducible exact ih3 _ _ _ _ _ _)
      | (with_reducible exact fields_Find.mono _ _ _)
      | (with_reducible exact vouchlaw13_behind.mono _ _)
      | (with_reducible exact vouchref13_Same.mono _ _ _)
      | (with_reducible exact LeO.refl _)
      | (with_reducible exact LeO.none _)
      | (with_reducible refine LeO.ite ?_ ?_)
      | (with_reducible refine LeO.bind ?_ (fun _ => ?_))
      | exact ih0 _ _ _ _ _
      | exact ih1 _ _ _ _
      | exact ih2 _ _ _ _
      | exact ih3 _ _ _ _ _ _
      | exact fields_Find.mono _ _ _
      | exact vouchlaw13_behind.mono _ _
      | exact vouchref13_Same.mono _ _ _
      | exact LeO.none _
      | refine LeO.ite ?_ ?_
      | refine LeO.bind ?_ (fun _ => ?_)
    · intro y0 y1 y2 y3
      unfold vouchlaw13_FieldsMore.j1
      repeat' first
      | (with_reducible exact ih0 _ _ _ _ _)
      | (with_reducible exact ih1 _ _ _ _)
      | (with_reducible exact ih2 _ _ _ _)
      | (with_reducible exact ih3 _ _ _ _ _ _)
      | (with_reducible exact fields_Find.mono _ _ _)
      | (with_reducible exact vouchlaw13_behind.mono _ _)
      | (with_reducible exact vouchref13_Same.mono _ _ _)
      | (with_reducible exact LeO.refl _)
      | (with_reducible exact LeO.none _)
      | (with_reducible refine LeO.ite ?_ ?_)
      | (with_reducible refine LeO.bind ?_ (fun _ => ?_))
      | exact ih0 _ _ _ _ _
      | exact ih1 _ _ _ _
      | exact ih2 _ _ _ _
      | exact ih3 _ _ _ _ _ _
      | exact fields_Find.mono _ _ _
      | exact vouchlaw13_behind.mono _ _
      | exact vouchref13_Same.mono _ _ _
      | exact LeO.none _
      | refine LeO.ite ?_ ?_
      | refine LeO.bind ?_ (fun _ => ?_)
    · intro y0 y1 y2 y3
      unfold vouchlaw13_FieldsMore.l0
      repeat' first
      | (with_reducible exact ih0 _ _ _ _ _)
      | (with_reducible exact ih1 _ _ _ _)
      | (with_reducible exact ih2 _ _ _ _)
      | (with_reducible exact ih3 _ _ _ _ _ _)
      | (with_reducible exact fields_Find.mono _ _ _)
      | (with_reducible exact vouchlaw13_behind.mono _ _)
      | (with_reducible exact vouchref13_Same.mono _ _ _)
      | (with_reducible exact LeO.refl _)
      | (with_reducible exact LeO.none _)
      | (with_reducible refine LeO.ite ?_ ?_)
      | (with_reducible refine LeO.bind ?_ (fun _ => ?_))
      | exact ih0 _ _ _ _ _
      | exact ih1 _ _ _ _
      | exact ih2 _ _ _ _
      | exact ih3 _ _ _ _ _ _
      | exact fields_Find.mono _ _ _
      | exact vouchlaw13_behind.mono _ _
      | exact vouchref13_Same.mono _ _ _
      | exact LeO.none _
      | refine LeO.ite ?_ ?_
      | refine LeO.bind ?_ (fun _ => ?_)
    · intro y0 y1 y2 y3 y4 y5
      unfold vouchlaw13_FieldsMore.j3
      repeat' first
      | (with_reducible exact ih0 _ _ _ _ _)
      | (with_reducible exact ih1 _ _ _ _)
      | (with_reducible exact ih2 _ _ _ _)
      | (with_reducible exact ih3 _ _ _ _ _ _)
      | (with_reducible exact fields_Find.mono _ _ _)
      | (with_reducible exact vouchlaw13_behind.mono _ _)
      | (with_reducible exact vouchref13_Same.mono _ _ _)
      | (with_reducible exact LeO.refl _)
      | (with_reducible exact LeO.none _)
      | (with_reducible refine LeO.ite ?_ ?_)
      | (with_reducible refine LeO.bind ?_ (fun _ => ?_))
      | exact ih0 _ _ _ _ _
      | exact ih1 _ _ _ _
      | exact ih2 _ _ _ _
      | exact ih3 _ _ _ _ _ _
      | exact fields_Find.mono _ _ _
      | exact vouchlaw13_behind.mono _ _
      | exact vouchref13_Same.mono _ _ _
      | exact LeO.none _
      | refine LeO.ite ?_ ?_
      | refine LeO.bind ?_ (fun _ => ?_)
theorem vouchlaw13_FieldsMore.mono : ∀ a0 a1 k, LeO (vouchlaw13_FieldsMore.f k a0 a1) (vouchlaw13_FieldsMore.f (k + 1) a0 a1) := by
  intro a0 a1 k
  obtain ⟨ih0, ih1, ih2, ih3⟩ := vouchlaw13_FieldsMore.mono_l k
  unfold vouchlaw13_FieldsMore.f
  repeat' first
      | (with_reducible exact ih0 _ _ _ _ _)
      | (with_reducible exact ih1 _ _ _ _)
      | (with_reducible exact ih2 _ _ _ _)
      | (with_reducible exact ih3 _ _ _ _ _ _)
      | (with_reducible exact fields_Find.mono _ _ _)
      | (with_reducible exact vouchlaw13_behind.mono _ _)
      | (with_reducible exact vouchref13_Same.mono _ _ _)
      | (with_reducible exact LeO.refl _)
      | (with_reducible exact LeO.none _)
      | (with_reducible refine LeO.ite ?_ ?_)
      | (with_reducible refine LeO.bind ?_ (fun _ => ?_))
      | exact ih0 _ _ _ _ _
      | exact ih1 _ _ _ _
      | exact ih2 _ _ _ _
      | exact ih3 _ _ _ _ _ _
      | exact fields_Find.mono _ _ _
      | exact vouchlaw13_behind.mono _ _
      | exact vouchref13_Same.mono _ _ _
      | exact LeO.none _
      | refine LeO.ite ?_ ?_
      | refine LeO.bind ?_ (fun _ => ?_)
set_option maxHeartbeats 8000000 in
set_option maxRecDepth 100000 in
theorem vouchlaw13_FieldsMore.calls (k : Nat) (a0 : ByteArray) (a1 : ByteArray) (r : Bool) (w : World) (h : vouchlaw13_FieldsMore.f k a0 a1 = some r) :
    Calls Try.prog 8 #[.string a0, .string a1] w fun e w' => e = .returned (.bool r) ∧ Below w.heap.size w w' := by
  have hu28 := Try.underlying28
  have HB := Aside0.mk (Below.refl w.heap.size w)
  have H : ((fields_Split.f a0).bind fun bt264 => (if bt264.2.2 = 0 then (vouchlaw13_FieldsMore.j0 k a0 a1 bt264.1 bt264.2.2 (a0.toList == ([] : List UInt8))) else (vouchlaw13_FieldsMore.j0 k a0 a1 bt264.1 bt264.2.2 false))) = some r := h
  clear h
  replace H := Option.bind_eq_some_iff.mp H
  obtain ⟨⟨t264, t265, t266⟩, A30, H⟩ := H
  replace H : (if t266 = 0 then (vouchlaw13_FieldsMore.j0 k a0 a1 t264 t266 (a0.toList == ([] : List UInt8))) else (vouchlaw13_FieldsMore.j0 k a0 a1 t264 t266 false)) = some r := H
  have A3 := Aside0.mk A30
  clear A30
  have HC4 := Aside0.mk H
  clear H
  go_enter Try.func8, Try.ntmps8
  go_upto_region 2 with (first | ((with_reducible refine gate_callee (f := 12) rfl ?_); refine goesL_ (some 19) rfl rfl Try.func12 (by kernel_rfl) rfl #[.string a0] rfl (by (try simp only [List.map_toArray, List.map_cons, List.map_nil]); first | done | rfl | (simp only [List.length_drop, List.length_take]; rfl)) ?_; (with_reducible refine (fields_Split.calls a0 t264 t265 t266 _ A3.out).mono ?_); rintro e w5 ⟨v267, rfl, ho0, hb⟩; refine ⟨_, rfl, ?_⟩; have n0_ := Aside0.mk (Kd.R_lower ho0 (below_size (by repeat (first | (with_reducible first | exact HB.out | apply below_alloc | apply pw_below_drewN | apply below_drew1) | exact HB.out)))); have n1_ := Aside0.mk (below_step (by repeat (first | (with_reducible first | exact HB.out | apply below_alloc | apply pw_below_drewN | apply below_drew1) | exact HB.out)) hb); clear HB; have HO268 := n0_; have HB := n1_; clear n0_ n1_; (try clear hb); (try clear hb2); (try clear hk); (try clear hi); (try clear ho0)))
  (try simp only [Act.put, List.setIfInBounds_toArray, List.set_cons_zero, List.set_cons_succ])
  go_cut [28] (fun v28 wc => ∃ (kq : Nat) (x28_3 : Bool), v28 = .bool x28_3 ∧ Aside0 (vouchlaw13_FieldsMore.j0 kq a0 a1 t264 t266 x28_3 = some r) ∧ Aside0 (kq ≤ k) ∧ Aside0 (Kd.R k28 28 wc w.heap.size (fun _ => True) v267 t264) ∧ Aside0 (Below w.heap.size w wc))
  case first =>
    have H := HC4.out
    clear HC4
    by_cases c6 : t266 = 0
    · rw [if_pos c6] at H
      have c6b0 : (t266 == 0) = true := beq_iff_eq.mpr c6
      have c6b1 : (t266 != 0) = false := bne_eq_false_iff_eq.mpr c6
      clear c6
      (first | rw [c6b0] | (simp only [i64_w, i32_w]; rw [c6b0]) | skip)
      have H' := Aside0.mk H
      clear H
      go_wp2
      go_meet
      case rel => exact ⟨_, ((a0.toList == ([] : List UInt8))), (by first | rfl | (simp; done) | (simp [*]; done) | (repeat (first | rfl | (unfold wrap64; omega) | congr 1))), H', ⟨by first | omega | exact Nat.le_refl _⟩, ⟨by (with_reducible repeat (first | apply Kd.R_alloc | apply Kd.R_drewN | apply Kd.R_drew)); exact HO268.out⟩, ⟨by repeat (first | (with_reducible first | exact HB.out | apply below_alloc | apply pw_below_drewN | apply below_drew1) | exact HB.out)⟩⟩
    · rw [if_neg c6] at H
      have c6b0 : (t266 == 0) = false := beq_eq_false_iff_ne.mpr c6
      have c6b1 : (t266 != 0) = true := bne_iff_ne.mpr c6
      (first | rw [c6b0] | (simp only [i64_w, i32_w]; rw [c6b0]) | skip)
      have H' := Aside0.mk H
      clear H
      go_wp2
      go_meet
      case rel => exact ⟨_, (false), (by first | rfl | (simp; done) | (simp [*]; done) | (repeat (first | rfl | (unfold wrap64; omega) | congr 1))), H', ⟨by first | omega | exact Nat.le_refl _⟩, ⟨by (with_reducible repeat (first | apply Kd.R_alloc | apply Kd.R_drewN | apply Kd.R_drew)); exact HO268.out⟩, ⟨by repeat (first | (with_reducible first | exact HB.out | apply below_alloc | apply pw_below_drewN | apply below_drew1) | exact HB.out)⟩⟩
  case rest =>
    clear HC4
    try clear c1
    try clear p2
    try clear c6
    try clear c6b0
    try clear c6b1
    obtain ⟨kq, x28_3, rfl, HA, HJ3, HO_5, HB⟩ := hcut
    cases kq with
    | zero => exact absurd HA.out (by simp [vouchlaw13_FieldsMore.j0])
    | succ kj3 =>
      have H := HA.out
      clear HA
      simp only [vouchlaw13_FieldsMore.j0] at H
      by_cases c7 : x28_3 = true
      · subst c7
        have H1 : (some false) = some r := by rw [if_pos rfl] at H; exact H
        clear H
        have H := H1
        clear H1
        obtain rfl := Option.some.inj H
        go_wp2
        go_ret
        exact ⟨by first | rfl | (simp [errW_none, errW_some] <;> rfl) | (simp [*, errW_none, errW_some] <;> rfl), by repeat (first | (with_reducible first | exact HB.out | apply below_alloc | apply pw_below_drewN | apply below_drew1) | exact HB.out)⟩
      · replace c7 := Bool.eq_false_iff.mpr c7
        subst c7
        have H1 : (if t266 = 0 then (if 0 ≤ (wrap64 ((a0.size : Int) - 1)) then (if (wrap64 ((a0.size : Int) - 1)) < (a0.size : Int) then (if (bt a0 (wrap64 ((a0.size : Int) - 1))) = 10 then (vouchlaw13_FieldsMore.j1 kj3 a0 a1 t264 (decide ((a0.size : Int) > 65136))) else (vouchlaw13_FieldsMore.j1 kj3 a0 a1 t264 true)) else (none)) else (none)) else (vouchlaw13_FieldsMore.j1 kj3 a0 a1 t264 true)) = some r := by rw [if_neg (show ¬ (false = true) by decide)] at H; exact H
        clear H
        have H := H1
        clear H1
        have HC8 := Aside0.mk H
        clear H
        go_upto_region 4 with (fail)
        go_cut [43] (fun v43 wc => ∃ (kq : Nat) (x43_7 : Bool), v43 = .bool x43_7 ∧ Aside0 (vouchlaw13_FieldsMore.j1 kq a0 a1 t264 x43_7 = some r) ∧ Aside0 (kq ≤ kj3) ∧ Aside0 (Kd.R k28 28 wc w.heap.size (fun _ => True) v267 t264) ∧ Aside0 (Below w.heap.size w wc))
        case first =>
          have H := HC8.out
          clear HC8
          by_cases c9 : t266 = 0
          · rw [if_pos c9] at H
            have c9b0 : (t266 == 0) = true := beq_iff_eq.mpr c9
            have c9b1 : (t266 != 0) = false := bne_eq_false_iff_eq.mpr c9
            clear c9
            (first | rw [c9b0] | (simp only [i64_w, i32_w]; rw [c9b0]) | skip)
            obtain ⟨ji10, hji10⟩ : ∃ j_ : Int, (wrap64 ((a0.size : Int) - 1)) = j_ := ⟨_, rfl⟩
            replace H : (if 0 ≤ (ji10) then (if (ji10) < (a0.size : Int) then (if (bt a0 (ji10)) = 10 then (vouchlaw13_FieldsMore.j1 kj3 a0 a1 t264 (decide ((a0.size : Int) > 65136))) else (vouchlaw13_FieldsMore.j1 kj3 a0 a1 t264 true)) else (none)) else (none)) = some r := by first | (rw [hji10] at H; exact H) | (simp only [hji10] at H ⊢; exact H)
            have hji10w : (IntKind.i64.wrap ((a0.size : Int) - 1)) = ji10 := (i64_w _).trans hji10
            by_cases c11 : 0 ≤ (ji10)
            · rw [if_pos c11] at H
              have c11b0 : decide (0 ≤ (ji10)) = true := decide_eq_true c11
              clear c11
              by_cases c12 : (ji10) < (a0.size : Int)
              · rw [if_pos c12] at H
                have c12b0 : decide ((ji10) < (a0.size : Int)) = true := decide_eq_true c12
                clear c12
                by_cases c14 : (bt a0 (ji10)) = 10
                · rw [if_pos c14] at H
                  have c14b0 : ((bt a0 (ji10)) == 10) = true := beq_iff_eq.mpr c14
                  have c14b1 : ((bt a0 (ji10)) != 10) = false := bne_eq_false_iff_eq.mpr c14
                  clear c14
                  have H' := Aside0.mk H
                  clear H
                  have p13 : 0 ≤ ((ji10) : Int) := of_decide_eq_true (by first | (with_reducible assumption) | assumption)
                  have q13 : (ji10) < (a0.size : Int) := of_decide_eq_true (by first | (with_reducible assumption) | assumption)
                  have hx13 := bt_at a0 (ji10)
                  replace p13 := eq_true p13
                  replace q13 := eq_true q13
                  go_wp2
                  go_meet
                  case rel => exact ⟨_, (decide ((a0.size : Int) > 65136)), (by first | rfl | (simp; done) | (simp [*]; done) | (repeat (first | rfl | (unfold wrap64; omega) | congr 1))), H', ⟨by have := HJ3.out; first | omega | exact Nat.le_refl _⟩, ⟨by (with_reducible repeat (first | apply Kd.R_alloc | apply Kd.R_drewN | apply Kd.R_drew)); exact HO_5.out⟩, ⟨by repeat (first | (with_reducible first | exact HB.out | apply below_alloc | apply pw_below_drewN | apply below_drew1) | exact HB.out)⟩⟩
                · rw [if_neg c14] at H
                  have c14b0 : ((bt a0 (ji10)) == 10) = false := beq_eq_false_iff_ne.mpr c14
                  have c14b1 : ((bt a0 (ji10)) != 10) = true := bne_iff_ne.mpr c14
                  have H' := Aside0.mk H
                  clear H
                  have p13 : 0 ≤ ((ji10) : Int) := of_decide_eq_true (by first | (with_reducible assumption) | assumption)
                  have q13 : (ji10) < (a0.size : Int) := of_decide_eq_true (by first | (with_reducible assumption) | assumption)
                  have hx13 := bt_at a0 (ji10)
                  replace p13 := eq_true p13
                  replace q13 := eq_true q13
                  go_wp2
                  go_meet
                  case rel => exact ⟨_, (true), (by first | rfl | (simp; done) | (simp [*]; done) | (repeat (first | rfl | (unfold wrap64; omega) | congr 1))), H', ⟨by have := HJ3.out; first | omega | exact Nat.le_refl _⟩, ⟨by (with_reducible repeat (first | apply Kd.R_alloc | apply Kd.R_drewN | apply Kd.R_drew)); exact HO_5.out⟩, ⟨by repeat (first | (with_reducible first | exact HB.out | apply below_alloc | apply pw_below_drewN | apply below_drew1) | exact HB.out)⟩⟩
              · rw [if_neg c12] at H
                exact absurd H (by simp)
            · rw [if_neg c11] at H
              exact absurd H (by simp)
          · rw [if_neg c9] at H
            have c9b0 : (t266 == 0) = false := beq_eq_false_iff_ne.mpr c9
            have c9b1 : (t266 != 0) = true := bne_iff_ne.mpr c9
            (first | rw [c9b0] | (simp only [i64_w, i32_w]; rw [c9b0]) | skip)
            have H' := Aside0.mk H
            clear H
            go_wp2
            go_meet
            case rel => exact ⟨_, (true), (by first | rfl | (simp; done) | (simp [*]; done) | (repeat (first | rfl | (unfold wrap64; omega) | congr 1))), H', ⟨by have := HJ3.out; first | omega | exact Nat.le_refl _⟩, ⟨by (with_reducible repeat (first | apply Kd.R_alloc | apply Kd.R_drewN | apply Kd.R_drew)); exact HO_5.out⟩, ⟨by repeat (first | (with_reducible first | exact HB.out | apply below_alloc | apply pw_below_drewN | apply below_drew1) | exact HB.out)⟩⟩
        case rest =>
          clear HC8
          try clear c1
          try clear p1
          try clear q1
          try clear hx1
          try clear p2
          try clear c6
          try clear c6b0
          try clear c6b1
          try clear p6
          try clear c7
          try clear c8
          try clear c9
          try clear c9b0
          try clear c9b1
          try clear c11
          try clear c11b0
          try clear c12
          try clear c12b0
          try clear p13
          try clear q13
          try clear hx13
          try clear c14
          try clear c14b0
          try clear c14b1
          try clear p13
          try clear p2
          try clear q13
          obtain ⟨kq, x43_7, rfl, HA, HJ7, HO_5, HB⟩ := hcut
          cases kq with
          | zero => exact absurd HA.out (by simp [vouchlaw13_FieldsMore.j1])
          | succ kj7 =>
            have H := HA.out
            clear HA
            simp only [vouchlaw13_FieldsMore.j1] at H
            by_cases c15 : x43_7 = true
            · subst c15
              have H1 : ((vouchlaw13_works.f).bind fun t269 => (some t269)) = some r := by rw [if_pos rfl] at H; exact H
              clear H
              have H := H1
              clear H1
              replace H := Option.bind_eq_some_iff.mp H
              obtain ⟨t269, A160, H⟩ := H
              replace H : (some t269) = some r := H
              have A16 := Aside0.mk A160
              clear A160
              obtain rfl := Option.some.inj H
              go_wp2_with (first | ((with_reducible refine gate_callee (f := 14) rfl ?_); refine goesL_ (some 44) rfl rfl Try.func14 (by kernel_rfl) rfl #[] rfl (by (try simp only [List.map_toArray, List.map_cons, List.map_nil]); first | done | rfl | (simp only [List.length_drop, List.length_take]; rfl)) ?_; (with_reducible refine (vouchlaw13_works.calls  t269 _ A16.out).mono ?_); rintro e w17 ⟨rfl, hb⟩; refine ⟨_, rfl, ?_⟩; have n0_ := Aside0.mk (Kd.R_below (by (with_reducible repeat (first | apply Kd.R_alloc | apply Kd.R_drewN | apply Kd.R_drew)); exact HO_5.out) hb); have n1_ := Aside0.mk (below_step (by repeat (first | (with_reducible first | exact HB.out | apply below_alloc | apply pw_below_drewN | apply below_drew1) | exact HB.out)) hb); clear HO_5; clear HB; have HO_5 := n0_; have HB := n1_; clear n0_ n1_; (try clear hb); (try clear hb2); (try clear hk); (try clear hi)))
              go_ret
              exact ⟨by first | rfl | (simp [errW_none, errW_some] <;> rfl) | (simp [*, errW_none, errW_some] <;> rfl), by repeat (first | (with_reducible first | exact HB.out | apply below_alloc | apply pw_below_drewN | apply below_drew1) | exact HB.out)⟩
            · replace c15 := Bool.eq_false_iff.mpr c15
              subst c15
              have H1 : (vouchlaw13_FieldsMore.l0 kj7 a0 a1 t264 0) = some r := by rw [if_neg (show ¬ (false = true) by decide)] at H; exact H
              clear H
              have H := H1
              clear H1
              have H' := Aside0.mk H
              clear H
              go_wp2
              go_loopg [8] kj7 (fun kq v8 w' => ∃ (x8_3 : Int), v8 = .int .i64 x8_3 ∧ Aside0 (vouchlaw13_FieldsMore.l0 kq a0 a1 t264 x8_3 = some r) ∧ Aside0 (kq ≤ kj7) ∧ Aside0 (Kd.R k28 28 w' w.heap.size (fun _ => True) v267 t264) ∧ Aside0 (Below w.heap.size w w'))
              case atStart => exact ⟨(0), (by first | rfl | (simp; done) | (simp [*]; done) | (repeat (first | rfl | (unfold wrap64; omega) | congr 1))), H', ⟨Nat.le_refl _⟩, ⟨by (with_reducible repeat (first | apply Kd.R_alloc | apply Kd.R_drewN | apply Kd.R_drew)); exact HO_5.out⟩, ⟨by repeat (first | (with_reducible first | exact HB.out | apply below_alloc | apply pw_below_drewN | apply below_drew1) | exact HB.out)⟩⟩
              case round =>
                clear H'
                try clear c1
                try clear p1
                try clear q1
                try clear hx1
                try clear p2
                try clear c6
                try clear c6b0
                try clear c6b1
                try clear p6
                try clear c7
                try clear c8
                try clear c9
                try clear c9b0
                try clear c9b1
                try clear c11
                try clear c11b0
                try clear c12
                try clear c12b0
                try clear p13
                try clear q13
                try clear hx13
                try clear c14
                try clear c14b0
                try clear c14b1
                try clear c15
                try clear p1
                try clear p13
                try clear p2
                try clear p6
                try clear q1
                try clear q13
                obtain ⟨x8_3, rfl, HA, HK3, HO_5, HB⟩ := hrel
                cases gk with
                | zero => exact absurd HA.out (by simp [vouchlaw13_FieldsMore.l0])
                | succ k3 =>
                  have H := HA.out
                  clear HA
                  simp only [vouchlaw13_FieldsMore.l0] at H
                  by_cases c18 : x8_3 < (t264.length : Int)
                  · rw [if_pos c18] at H
                    have c18b0 : decide (x8_3 < (t264.length : Int)) = true := decide_eq_true c18
                    clear c18
                    by_cases c19 : 0 ≤ x8_3
                    · rw [if_pos c19] at H
                      have c19b0 : decide (0 ≤ x8_3) = true := decide_eq_true c19
                      clear c19
                      by_cases c20 : ((rd_T28 t264 x8_3).f0) = 6
                      · rw [if_pos c20] at H
                        have c20b0 : (((rd_T28 t264 x8_3).f0) == 6) = true := beq_iff_eq.mpr c20
                        have c20b1 : (((rd_T28 t264 x8_3).f0) != 6) = false := bne_eq_false_iff_eq.mpr c20
                        clear c20
                        replace H := Option.bind_eq_some_iff.mp H
                        obtain ⟨t271, A210, H⟩ := H
                        replace H : (some t271) = some r := H
                        have A21 := Aside0.mk A210
                        clear A210
                        obtain rfl := Option.some.inj H
                        obtain ⟨Ao22, co22, eo22⟩ := Kd.R_slice HO_5.out
                        subst eo22
                        have p270 : 0 ≤ (x8_3 : Int) := of_decide_eq_true (by first | (with_reducible assumption) | assumption)
                        have q270 : x8_3 < (t264.length : Int) := of_decide_eq_true (by first | (with_reducible assumption) | assumption)
                        obtain ⟨ad270, e270, hx270_0, hx270_1, hx270_2, hx270_3⟩ := at_T28 (Kd.R_reads' HO_5.out).2.2 x8_3 p270 q270
                        cases e270
                        replace p270 := eq_true p270
                        replace q270 := eq_true q270
                        go_wp2_with (first | ((with_reducible refine gate_callee (f := 14) rfl ?_); refine goesL_ (some 65) rfl rfl Try.func14 (by kernel_rfl) rfl #[] rfl (by (try simp only [List.map_toArray, List.map_cons, List.map_nil]); first | done | rfl | (simp only [List.length_drop, List.length_take]; rfl)) ?_; (with_reducible refine (vouchlaw13_works.calls  t271 _ A21.out).mono ?_); rintro e w23 ⟨rfl, hb⟩; refine ⟨_, rfl, ?_⟩; have n0_ := Aside0.mk (Kd.R_below (by (with_reducible repeat (first | apply Kd.R_alloc | apply Kd.R_drewN | apply Kd.R_drew)); exact HO_5.out) hb); have n1_ := Aside0.mk (below_step (by repeat (first | (with_reducible first | exact HB.out | apply below_alloc | apply pw_below_drewN | apply below_drew1) | exact HB.out)) hb); clear HO_5; clear HB; have HO_5 := n0_; have HB := n1_; clear n0_ n1_; (try clear hb); (try clear hb2); (try clear hk); (try clear hi)))
                        go_ret
                        exact ⟨by first | rfl | (simp [errW_none, errW_some] <;> rfl) | (simp [*, errW_none, errW_some] <;> rfl), by repeat (first | (with_reducible first | exact HB.out | apply below_alloc | apply pw_below_drewN | apply below_drew1) | exact HB.out)⟩
                      · rw [if_neg c20] at H
                        have c20b0 : (((rd_T28 t264 x8_3).f0) == 6) = false := beq_eq_false_iff_ne.mpr c20
                        have c20b1 : (((rd_T28 t264 x8_3).f0) != 6) = true := bne_iff_ne.mpr c20
                        by_cases c24 : ((rd_T28 t264 x8_3).f0) = 7
                        · rw [if_pos c24] at H
                          have c24b0 : (((rd_T28 t264 x8_3).f0) == 7) = true := beq_iff_eq.mpr c24
                          have c24b1 : (((rd_T28 t264 x8_3).f0) != 7) = false := bne_eq_false_iff_eq.mpr c24
                          clear c24
                          replace H := Option.bind_eq_some_iff.mp H
                          obtain ⟨t273, A250, H⟩ := H
                          replace H : (some t273) = some r := H
                          have A25 := Aside0.mk A250
                          clear A250
                          obtain rfl := Option.some.inj H
                          obtain ⟨Ao26, co26, eo26⟩ := Kd.R_slice HO_5.out
                          subst eo26
                          have p270 : 0 ≤ (x8_3 : Int) := of_decide_eq_true (by first | (with_reducible assumption) | assumption)
                          have q270 : x8_3 < (t264.length : Int) := of_decide_eq_true (by first | (with_reducible assumption) | assumption)
                          obtain ⟨ad270, e270, hx270_0, hx270_1, hx270_2, hx270_3⟩ := at_T28 (Kd.R_reads' HO_5.out).2.2 x8_3 p270 q270
                          cases e270
                          replace p270 := eq_true p270
                          replace q270 := eq_true q270
                          have p272 : 0 ≤ (x8_3 : Int) := of_decide_eq_true (by first | (with_reducible assumption) | assumption)
                          have q272 : x8_3 < (t264.length : Int) := of_decide_eq_true (by first | (with_reducible assumption) | assumption)
                          obtain ⟨ad272, e272, hx272_0, hx272_1, hx272_2, hx272_3⟩ := at_T28 (Kd.R_reads' HO_5.out).2.2 x8_3 p272 q272
                          obtain rfl : ad270 = ad272 := (by injection e272)
                          replace p272 := eq_true p272
                          replace q272 := eq_true q272
                          go_wp2_with (first | ((with_reducible refine gate_callee (f := 14) rfl ?_); refine goesL_ (some 65) rfl rfl Try.func14 (by kernel_rfl) rfl #[] rfl (by (try simp only [List.map_toArray, List.map_cons, List.map_nil]); first | done | rfl | (simp only [List.length_drop, List.length_take]; rfl)) ?_; (with_reducible refine (vouchlaw13_works.calls  t273 _ A25.out).mono ?_); rintro e w27 ⟨rfl, hb⟩; refine ⟨_, rfl, ?_⟩; have n0_ := Aside0.mk (Kd.R_below (by (with_reducible repeat (first | apply Kd.R_alloc | apply Kd.R_drewN | apply Kd.R_drew)); exact HO_5.out) hb); have n1_ := Aside0.mk (below_step (by repeat (first | (with_reducible first | exact HB.out | apply below_alloc | apply pw_below_drewN | apply below_drew1) | exact HB.out)) hb); clear HO_5; clear HB; have HO_5 := n0_; have HB := n1_; clear n0_ n1_; (try clear hb); (try clear hb2); (try clear hk); (try clear hi)))
                          go_ret
                          exact ⟨by first | rfl | (simp [errW_none, errW_some] <;> rfl) | (simp [*, errW_none, errW_some] <;> rfl), by repeat (first | (with_reducible first | exact HB.out | apply below_alloc | apply pw_below_drewN | apply below_drew1) | exact HB.out)⟩
                        · rw [if_neg c24] at H
                          have c24b0 : (((rd_T28 t264 x8_3).f0) == 7) = false := beq_eq_false_iff_ne.mpr c24
                          have c24b1 : (((rd_T28 t264 x8_3).f0) != 7) = true := bne_iff_ne.mpr c24
                          have H' := Aside0.mk H
                          clear H
                          obtain ⟨Ao28, co28, eo28⟩ := Kd.R_slice HO_5.out
                          subst eo28
                          have p270 : 0 ≤ (x8_3 : Int) := of_decide_eq_true (by first | (with_reducible assumption) | assumption)
                          have q270 : x8_3 < (t264.length : Int) := of_decide_eq_true (by first | (with_reducible assumption) | assumption)
                          obtain ⟨ad270, e270, hx270_0, hx270_1, hx270_2, hx270_3⟩ := at_T28 (Kd.R_reads' HO_5.out).2.2 x8_3 p270 q270
                          cases e270
                          replace p270 := eq_true p270
                          replace q270 := eq_true q270
                          have p272 : 0 ≤ (x8_3 : Int) := of_decide_eq_true (by first | (with_reducible assumption) | assumption)
                          have q272 : x8_3 < (t264.length : Int) := of_decide_eq_true (by first | (with_reducible assumption) | assumption)
                          obtain ⟨ad272, e272, hx272_0, hx272_1, hx272_2, hx272_3⟩ := at_T28 (Kd.R_reads' HO_5.out).2.2 x8_3 p272 q272
                          obtain rfl : ad270 = ad272 := (by injection e272)
                          replace p272 := eq_true p272
                          replace q272 := eq_true q272
                          go_wp2
                          go_roundg k3
                          case measure => have := HJ3.out; have := HJ7.out; have := HK3.out; omega
                          case rel => exact ⟨(wrap64 (x8_3 + 1)), (by first | rfl | (simp; done) | (simp [*]; done) | (repeat (first | rfl | (unfold wrap64; omega) | congr 1))), H', ⟨by have := HJ3.out; have := HJ7.out; have := HK3.out; omega⟩, ⟨by (with_reducible repeat (first | apply Kd.R_alloc | apply Kd.R_drewN | apply Kd.R_drew)); exact HO_5.out⟩, ⟨by repeat (first | (with_reducible first | exact HB.out | apply below_alloc | apply pw_below_drewN | apply below_drew1) | exact HB.out)⟩⟩
                    · rw [if_neg c19] at H
                      exact absurd H (by simp)
                  · rw [if_neg c18] at H
                    have c18b0 : decide (x8_3 < (t264.length : Int)) = false := decide_eq_false c18
                    clear c18
                    replace H := Option.bind_eq_some_iff.mp H
                    obtain ⟨t274, A290, H⟩ := H
                    replace H : (if a0.size + 8 ≤ 9223372036854775807 then (if (a0 ++ (⟨#[67, 111, 109, 109, 101, 110, 116, 58]⟩ : ByteArray)).size + t274.size ≤ 9223372036854775807 then ((fields_Split.f ((a0 ++ (⟨#[67, 111, 109, 109, 101, 110, 116, 58]⟩ : ByteArray)) ++ t274)).bind fun bt275 => (if bt275.2.2 = 0 then (if bt275.2.1 = 0 then (if (bt275.1.length : Int) = (wrap64 ((t264.length : Int) + 1)) then (if 0 ≤ (t264.length : Int) then (if (t264.length : Int) < (bt275.1.length : Int) then (vouchlaw13_FieldsMore.j3 k3 a0 t264 t274 bt275.1 (t264.length : Int) (!(((rd_T28 bt275.1 (t264.length : Int)).f0) == 6) || (!(((rd_T28 bt275.1 (t264.length : Int)).f1) == (a0.size : Int)) || (!(((rd_T28 bt275.1 (t264.length : Int)).f2) == (wrap64 ((a0.size : Int) + 8))) || (!(((rd_T28 bt275.1 (t264.length : Int)).f3) == (wrap64 ((wrap64 ((a0.size : Int) + 8)) + (t274.size : Int))))))))) else (none)) else (none)) else (vouchlaw13_FieldsMore.j3 k3 a0 t264 t274 bt275.1 (t264.length : Int) true)) else (vouchlaw13_FieldsMore.j3 k3 a0 t264 t274 bt275.1 (t264.length : Int) true)) else (vouchlaw13_FieldsMore.j3 k3 a0 t264 t274 bt275.1 (t264.length : Int) true))) else (none)) else (none)) = some r := H
                    have A29 := Aside0.mk A290
                    clear A290
                    by_cases c30 : a0.size + 8 ≤ 9223372036854775807
                    · rw [if_pos c30] at H
                      have c30b0 := eq_true c30
                      have c30b1 : decide (a0.size + 8 ≤ 9223372036854775807) = true := decide_eq_true c30
                      try have c30b2 : (9223372036854775807 < a0.size + 8) = False := eq_false (Nat.not_lt.2 c30)
                      by_cases c31 : (a0 ++ (⟨#[67, 111, 109, 109, 101, 110, 116, 58]⟩ : ByteArray)).size + t274.size ≤ 9223372036854775807
                      · rw [if_pos c31] at H
                        have c31b0 := eq_true c31
                        have c31b1 : decide ((a0 ++ (⟨#[67, 111, 109, 109, 101, 110, 116, 58]⟩ : ByteArray)).size + t274.size ≤ 9223372036854775807) = true := decide_eq_true c31
                        have c31b3 : (9223372036854775807 < a0.size + 8 + t274.size) = False := eq_false (Nat.not_lt.2 (by have h_ := c31; simp only [ByteArray.size_append] at h_; exact h_))
                        try have c31b2 : (9223372036854775807 < (a0 ++ (⟨#[67, 111, 109, 109, 101, 110, 116, 58]⟩ : ByteArray)).size + t274.size) = False := eq_false (Nat.not_lt.2 c31)
                        replace H := Option.bind_eq_some_iff.mp H
                        obtain ⟨⟨t275, t276, t277⟩, A320, H⟩ := H
                        replace H : (if t277 = 0 then (if t276 = 0 then (if (t275.length : Int) = (wrap64 ((t264.length : Int) + 1)) then (if 0 ≤ (t264.length : Int) then (if (t264.length : Int) < (t275.length : Int) then (vouchlaw13_FieldsMore.j3 k3 a0 t264 t274 t275 (t264.length : Int) (!(((rd_T28 t275 (t264.length : Int)).f0) == 6) || (!(((rd_T28 t275 (t264.length : Int)).f1) == (a0.size : Int)) || (!(((rd_T28 t275 (t264.length : Int)).f2) == (wrap64 ((a0.size : Int) + 8))) || (!(((rd_T28 t275 (t264.length : Int)).f3) == (wrap64 ((wrap64 ((a0.size : Int) + 8)) + (t274.size : Int))))))))) else (none)) else (none)) else (vouchlaw13_FieldsMore.j3 k3 a0 t264 t274 t275 (t264.length : Int) true)) else (vouchlaw13_FieldsMore.j3 k3 a0 t264 t274 t275 (t264.length : Int) true)) else (vouchlaw13_FieldsMore.j3 k3 a0 t264 t274 t275 (t264.length : Int) true)) = some r := H
                        have A32 := Aside0.mk A320
                        clear A320
                        have HC33 := Aside0.mk H
                        clear H
                        obtain ⟨Ao34, co34, eo34⟩ := Kd.R_slice HO_5.out
                        subst eo34
                        go_upto_region 14 with (first | ((with_reducible refine gate_callee (f := 20) rfl ?_); refine goesL_ (some 67) rfl rfl Try.func20 (by kernel_rfl) rfl #[.string a1] rfl (by (try simp only [List.map_toArray, List.map_cons, List.map_nil]); first | done | rfl | (simp only [List.length_drop, List.length_take]; rfl)) ?_; (with_reducible refine (vouchlaw13_behind.calls k3 a1 t274 _ A29.out).mono ?_); rintro e w35 ⟨rfl, hb⟩; refine ⟨_, rfl, ?_⟩; have n0_ := Aside0.mk (Kd.R_below (by (with_reducible repeat (first | apply Kd.R_alloc | apply Kd.R_drewN | apply Kd.R_drew)); exact HO_5.out) hb); have n1_ := Aside0.mk (below_step (by repeat (first | (with_reducible first | exact HB.out | apply below_alloc | apply pw_below_drewN | apply below_drew1) | exact HB.out)) hb); clear HO_5; clear HB; have HO_5 := n0_; have HB := n1_; clear n0_ n1_; (try clear hb); (try clear hb2); (try clear hk); (try clear hi)) | ((with_reducible refine gate_callee (f := 12) rfl ?_); refine goesL_ (some 73) rfl rfl Try.func12 (by kernel_rfl) rfl #[.string ((a0 ++ (⟨#[67, 111, 109, 109, 101, 110, 116, 58]⟩ : ByteArray)) ++ t274)] rfl (by (try simp only [List.map_toArray, List.map_cons, List.map_nil]); first | done | rfl | (simp only [List.length_drop, List.length_take]; rfl)) ?_; (with_reducible refine (fields_Split.calls ((a0 ++ (⟨#[67, 111, 109, 109, 101, 110, 116, 58]⟩ : ByteArray)) ++ t274) t275 t276 t277 _ A32.out).mono ?_); rintro e w36 ⟨v278, rfl, ho0, hb⟩; refine ⟨_, rfl, ?_⟩; have n0_ := Aside0.mk (Kd.R_elder' (by (with_reducible repeat (first | apply Kd.R_alloc | apply Kd.R_drewN | apply Kd.R_drew)); exact HO_5.out) (Kd.R_base ho0) hb); have n1_ := Aside0.mk (Kd.R_lower (Kd.R_new' ho0 (Kd.R_lt (by (with_reducible repeat (first | apply Kd.R_alloc | apply Kd.R_drewN | apply Kd.R_drew)); exact HO_5.out))) (below_size (by repeat (first | (with_reducible first | exact HB.out | apply below_alloc | apply pw_below_drewN | apply below_drew1) | exact HB.out)))); have n2_ := Aside0.mk (below_step (by repeat (first | (with_reducible first | exact HB.out | apply below_alloc | apply pw_below_drewN | apply below_drew1) | exact HB.out)) hb); clear HO_5; clear HB; have HO_5 := n0_; have HO279 := n1_; have HB := n2_; clear n0_ n1_ n2_; (try clear hb); (try clear hb2); (try clear hk); (try clear hi); (try clear ho0)))
                        (try simp only [Act.put, List.setIfInBounds_toArray, List.set_cons_zero, List.set_cons_succ])
                        go_cut [110] (fun v110 wc => ∃ (kq : Nat) (x110_32 : Bool), v110 = .bool x110_32 ∧ Aside0 (vouchlaw13_FieldsMore.j3 kq a0 t264 t274 t275 (t264.length : Int) x110_32 = some r) ∧ Aside0 (kq ≤ k3) ∧ Aside0 (Kd.R k28 28 wc w.heap.size (fun k_ => some k_ ≠ (v278 : Value).ownBlock) (.slice Ao34 t264.length co34) t264) ∧ Aside0 (Kd.R k28 28 wc w.heap.size (fun k_ => some k_ ≠ ((.slice Ao34 t264.length co34) : Value).ownBlock) v278 t275) ∧ Aside0 (Below w.heap.size w wc))
                        case first =>
                          have H := HC33.out
                          clear HC33
                          by_cases c37 : t277 = 0
                          · rw [if_pos c37] at H
                            have c37b0 : (t277 == 0) = true := beq_iff_eq.mpr c37
                            have c37b1 : (t277 != 0) = false := bne_eq_false_iff_eq.mpr c37
                            clear c37
                            (first | rw [c37b0] | (simp only [i64_w, i32_w]; rw [c37b0]) | skip)
                            by_cases c38 : t276 = 0
                            · rw [if_pos c38] at H
                              have c38b0 : (t276 == 0) = true := beq_iff_eq.mpr c38
                              have c38b1 : (t276 != 0) = false := bne_eq_false_iff_eq.mpr c38
                              clear c38
                              by_cases c39 : (t275.length : Int) = (wrap64 ((t264.length : Int) + 1))
                              · rw [if_pos c39] at H
                                have c39b0 : ((t275.length : Int) == (wrap64 ((t264.length : Int) + 1))) = true := beq_iff_eq.mpr c39
                                have c39b1 : ((t275.length : Int) != (wrap64 ((t264.length : Int) + 1))) = false := bne_eq_false_iff_eq.mpr c39
                                clear c39
                                by_cases c40 : 0 ≤ (t264.length : Int)
                                · rw [if_pos c40] at H
                                  have c40b0 : decide (0 ≤ (t264.length : Int)) = true := decide_eq_true c40
                                  have c40b1 : decide (0 ≤ t264.length) = true := decide_eq_true (by omega)
                                  clear c40
                                  by_cases c41 : (t264.length : Int) < (t275.length : Int)
                                  · rw [if_pos c41] at H
                                    have c41b0 : decide ((t264.length : Int) < (t275.length : Int)) = true := decide_eq_true c41
                                    have c41b1 : decide (t264.length < t275.length) = true := decide_eq_true (Int.ofNat_lt.mp c41)
                                    clear c41
                                    have H' := Aside0.mk H
                                    clear H
                                    obtain ⟨Ao42, co42, eo42⟩ := Kd.R_slice HO279.out
                                    subst eo42
                                    have p280 : 0 ≤ ((t264.length : Int) : Int) := of_decide_eq_true (by first | (with_reducible assumption) | assumption)
                                    have q280 : (t264.length : Int) < (t275.length : Int) := of_decide_eq_true (by first | (with_reducible assumption) | assumption)
                                    obtain ⟨ad280, e280, hx280_0, hx280_1, hx280_2, hx280_3⟩ := at_T28 (Kd.R_reads' HO279.out).2.2 (t264.length : Int) p280 q280
                                    cases e280
                                    (try simp only [Go.IntWalk.toNatUp] at hx280_0)
                                    (try simp only [Go.IntWalk.toNatUp] at hx280_1)
                                    (try simp only [Go.IntWalk.toNatUp] at hx280_2)
                                    (try simp only [Go.IntWalk.toNatUp] at hx280_3)
                                    replace p280 := eq_true p280
                                    replace q280 := eq_true q280
                                    go_wp2
                                    go_meet
                                    case rel => exact ⟨_, ((!(((rd_T28 t275 (t264.length : Int)).f0) == 6) || (!(((rd_T28 t275 (t264.length : Int)).f1) == (a0.size : Int)) || (!(((rd_T28 t275 (t264.length : Int)).f2) == (wrap64 ((a0.size : Int) + 8))) || (!(((rd_T28 t275 (t264.length : Int)).f3) == (wrap64 ((wrap64 ((a0.size : Int) + 8)) + (t274.size : Int))))))))), (by first | rfl | (simp; done) | (simp [*]; done) | (repeat (first | rfl | (unfold wrap64; omega) | congr 1))), H', ⟨by have := HJ3.out; have := HJ7.out; have := HK3.out; first | omega | exact Nat.le_refl _⟩, ⟨by (with_reducible repeat (first | apply Kd.R_alloc | apply Kd.R_drewN | apply Kd.R_drew)); exact Kd.R_mono HO_5.out (fun _ hk => hk.2)⟩, ⟨by (with_reducible repeat (first | apply Kd.R_alloc | apply Kd.R_drewN | apply Kd.R_drew)); exact Kd.R_mono HO279.out (fun _ hk => hk.2)⟩, ⟨by repeat (first | (with_reducible first | exact HB.out | apply below_alloc | apply pw_below_drewN | apply below_drew1) | exact HB.out)⟩⟩
                                  · rw [if_neg c41] at H
                                    exact absurd H (by simp)
                                · rw [if_neg c40] at H
                                  exact absurd H (by simp)
                              · rw [if_neg c39] at H
                                have c39b0 : ((t275.length : Int) == (wrap64 ((t264.length : Int) + 1))) = false := beq_eq_false_iff_ne.mpr c39
                                have c39b1 : ((t275.length : Int) != (wrap64 ((t264.length : Int) + 1))) = true := bne_iff_ne.mpr c39
                                have H' := Aside0.mk H
                                clear H
                                obtain ⟨Ao43, co43, eo43⟩ := Kd.R_slice HO279.out
                                subst eo43
                                go_wp2
                                go_meet
                                case rel => exact ⟨_, (true), (by first | rfl | (simp; done) | (simp [*]; done) | (repeat (first | rfl | (unfold wrap64; omega) | congr 1))), H', ⟨by have := HJ3.out; have := HJ7.out; have := HK3.out; first | omega | exact Nat.le_refl _⟩, ⟨by (with_reducible repeat (first | apply Kd.R_alloc | apply Kd.R_drewN | apply Kd.R_drew)); exact Kd.R_mono HO_5.out (fun _ hk => hk.2)⟩, ⟨by (with_reducible repeat (first | apply Kd.R_alloc | apply Kd.R_drewN | apply Kd.R_drew)); exact Kd.R_mono HO279.out (fun _ hk => hk.2)⟩, ⟨by repeat (first | (with_reducible first | exact HB.out | apply below_alloc | apply pw_below_drewN | apply below_drew1) | exact HB.out)⟩⟩
                            · rw [if_neg c38] at H
                              have c38b0 : (t276 == 0) = false := beq_eq_false_iff_ne.mpr c38
                              have c38b1 : (t276 != 0) = true := bne_iff_ne.mpr c38
                              have H' := Aside0.mk H
                              clear H
                              go_wp2
                              go_meet
                              case rel => exact ⟨_, (true), (by first | rfl | (simp; done) | (simp [*]; done) | (repeat (first | rfl | (unfold wrap64; omega) | congr 1))), H', ⟨by have := HJ3.out; have := HJ7.out; have := HK3.out; first | omega | exact Nat.le_refl _⟩, ⟨by (with_reducible repeat (first | apply Kd.R_alloc | apply Kd.R_drewN | apply Kd.R_drew)); exact Kd.R_mono HO_5.out (fun _ hk => hk.2)⟩, ⟨by (with_reducible repeat (first | apply Kd.R_alloc | apply Kd.R_drewN | apply Kd.R_drew)); exact Kd.R_mono HO279.out (fun _ hk => hk.2)⟩, ⟨by repeat (first | (with_reducible first | exact HB.out | apply below_alloc | apply pw_below_drewN | apply below_drew1) | exact HB.out)⟩⟩
                          · rw [if_neg c37] at H
                            have c37b0 : (t277 == 0) = false := beq_eq_false_iff_ne.mpr c37
                            have c37b1 : (t277 != 0) = true := bne_iff_ne.mpr c37
                            (first | rw [c37b0] | (simp only [i64_w, i32_w]; rw [c37b0]) | skip)
                            have H' := Aside0.mk H
                            clear H
                            go_wp2
                            go_meet
                            case rel => exact ⟨_, (true), (by first | rfl | (simp; done) | (simp [*]; done) | (repeat (first | rfl | (unfold wrap64; omega) | congr 1))), H', ⟨by have := HJ3.out; have := HJ7.out; have := HK3.out; first | omega | exact Nat.le_refl _⟩, ⟨by (with_reducible repeat (first | apply Kd.R_alloc | apply Kd.R_drewN | apply Kd.R_drew)); exact Kd.R_mono HO_5.out (fun _ hk => hk.2)⟩, ⟨by (with_reducible repeat (first | apply Kd.R_alloc | apply Kd.R_drewN | apply Kd.R_drew)); exact Kd.R_mono HO279.out (fun _ hk => hk.2)⟩, ⟨by repeat (first | (with_reducible first | exact HB.out | apply below_alloc | apply pw_below_drewN | apply below_drew1) | exact HB.out)⟩⟩
                        case rest =>
                          clear HC33
                          try clear c1
                          try clear p1
                          try clear q1
                          try clear hx1
                          try clear c2
                          try clear p2
                          try clear q2
                          try clear hx2
                          try clear c3
                          try clear c4
                          try clear c6
                          try clear c6b0
                          try clear c6b1
                          try clear p6
                          try clear c7
                          try clear c8
                          try clear c9
                          try clear c9b0
                          try clear c9b1
                          try clear c11
                          try clear c11b0
                          try clear c12
                          try clear c12b0
                          try clear p13
                          try clear q13
                          try clear hx13
                          try clear c14
                          try clear c14b0
                          try clear c14b1
                          try clear c15
                          try clear c18
                          try clear c18b0
                          try clear c19
                          try clear c19b0
                          try clear c20
                          try clear c20b0
                          try clear c20b1
                          try clear c24
                          try clear c24b0
                          try clear c24b1
                          try clear p27
                          try clear q27
                          try clear hx27
                          try clear p28
                          try clear q28
                          try clear hx28
                          try clear c30
                          try clear c30b0
                          try clear c30b1
                          try clear c30b2
                          try clear c31
                          try clear c31b0
                          try clear c31b1
                          try clear c31b2
                          try clear c37
                          try clear c37b0
                          try clear c37b1
                          try clear c38
                          try clear c38b0
                          try clear c38b1
                          try clear c39
                          try clear c39b0
                          try clear c39b1
                          try clear c40
                          try clear c40b0
                          try clear c40b1
                          try clear c41
                          try clear c41b0
                          try clear c41b1
                          try clear hx270_0
                          try clear hx270_1
                          try clear hx270_2
                          try clear hx270_3
                          try clear hx272_0
                          try clear hx272_1
                          try clear hx272_2
                          try clear hx272_3
                          try clear hx280_0
                          try clear hx280_1
                          try clear hx280_2
                          try clear hx280_3
                          try clear p1
                          try clear p13
                          try clear p2
                          try clear p270
                          try clear p272
                          try clear p280
                          try clear p6
                          try clear q1
                          try clear q13
                          try clear q270
                          try clear q272
                          try clear q280
                          obtain ⟨kq, x110_32, rfl, HA, HJ32, HO_5, HO_10, HB⟩ := hcut
                          cases kq with
                          | zero => exact absurd HA.out (by simp [vouchlaw13_FieldsMore.j3])
                          | succ kj32 =>
                            have H := HA.out
                            clear HA
                            simp only [vouchlaw13_FieldsMore.j3] at H
                            by_cases c44 : x110_32 = true
                            · subst c44
                              have H1 : (some false) = some r := by rw [if_pos rfl] at H; exact H
                              clear H
                              have H := H1
                              clear H1
                              obtain rfl := Option.some.inj H
                              go_wp2
                              go_ret
                              exact ⟨by first | rfl | (simp [errW_none, errW_some] <;> rfl) | (simp [*, errW_none, errW_some] <;> rfl), by repeat (first | (with_reducible first | exact HB.out | apply below_alloc | apply pw_below_drewN | apply below_drew1) | exact HB.out)⟩
                            · replace c44 := Bool.eq_false_iff.mpr c44
                              subst c44
                              have H1 : (if a0.size + 8 ≤ 9223372036854775807 then (if (a0 ++ (⟨#[67, 111, 109, 109, 101, 110, 116, 58]⟩ : ByteArray)).size + t274.size ≤ 9223372036854775807 then ((fields_Find.f kj32 ((a0 ++ (⟨#[67, 111, 109, 109, 101, 110, 116, 58]⟩ : ByteArray)) ++ t274) 6).bind fun bt281 => (if 0 ≤ (t264.length : Int) then (if (t264.length : Int) ≤ (t275.length : Int) then ((vouchref13_Same.f kj32 (t275.take ((t264.length : Int) : Int).toNat) t264).bind fun t288 => (if t288 = true then (if bt281.2.2 = 0 then (if bt281.2.1 = true then (if bt281.1.toList = t274.toList then ((vouchlaw13_works.f).bind fun t289 => (some t289)) else (some false)) else (some false)) else (some false)) else (some false))) else (none)) else (none))) else (none)) else (none)) = some r := by rw [if_neg (show ¬ (false = true) by decide)] at H; exact H
                              clear H
                              have H := H1
                              clear H1
                              by_cases c45 : a0.size + 8 ≤ 9223372036854775807
                              · rw [if_pos c45] at H
                                have c45b0 := eq_true c45
                                have c45b1 : decide (a0.size + 8 ≤ 9223372036854775807) = true := decide_eq_true c45
                                try have c45b2 : (9223372036854775807 < a0.size + 8) = False := eq_false (Nat.not_lt.2 c45)
                                by_cases c46 : (a0 ++ (⟨#[67, 111, 109, 109, 101, 110, 116, 58]⟩ : ByteArray)).size + t274.size ≤ 9223372036854775807
                                · rw [if_pos c46] at H
                                  have c46b0 := eq_true c46
                                  have c46b1 : decide ((a0 ++ (⟨#[67, 111, 109, 109, 101, 110, 116, 58]⟩ : ByteArray)).size + t274.size ≤ 9223372036854775807) = true := decide_eq_true c46
                                  have c46b3 : (9223372036854775807 < a0.size + 8 + t274.size) = False := eq_false (Nat.not_lt.2 (by have h_ := c46; simp only [ByteArray.size_append] at h_; exact h_))
                                  try have c46b2 : (9223372036854775807 < (a0 ++ (⟨#[67, 111, 109, 109, 101, 110, 116, 58]⟩ : ByteArray)).size + t274.size) = False := eq_false (Nat.not_lt.2 c46)
                                  replace H := Option.bind_eq_some_iff.mp H
                                  obtain ⟨⟨t281, t282, t283⟩, A470, H⟩ := H
                                  replace H : (if 0 ≤ (t264.length : Int) then (if (t264.length : Int) ≤ (t275.length : Int) then ((vouchref13_Same.f kj32 (t275.take ((t264.length : Int) : Int).toNat) t264).bind fun t288 => (if t288 = true then (if t283 = 0 then (if t282 = true then (if t281.toList = t274.toList then ((vouchlaw13_works.f).bind fun t289 => (some t289)) else (some false)) else (some false)) else (some false)) else (some false))) else (none)) else (none)) = some r := H
                                  have A47 := Aside0.mk A470
                                  clear A470
                                  by_cases c48 : 0 ≤ (t264.length : Int)
                                  · rw [if_pos c48] at H
                                    have c48b0 := eq_true c48
                                    have c48b1 : decide (0 ≤ (t264.length : Int)) = true := decide_eq_true c48
                                    clear c48
                                    by_cases c49 : (t264.length : Int) ≤ (t275.length : Int)
                                    · rw [if_pos c49] at H
                                      have c49b0 := eq_true c49
                                      have c49b1 : decide ((t264.length : Int) ≤ (t275.length : Int)) = true := decide_eq_true c49
                                      clear c49
                                      obtain ⟨y284, hy284⟩ : ∃ y_ : List (S28), y_ = (t275.take ((t264.length : Int) : Int).toNat) := ⟨_, rfl⟩
                                      replace H : ((vouchref13_Same.f kj32 y284 t264).bind fun t288 => (if t288 = true then (if t283 = 0 then (if t282 = true then (if t281.toList = t274.toList then ((vouchlaw13_works.f).bind fun t289 => (some t289)) else (some false)) else (some false)) else (some false)) else (some false))) = some r := by first | (rw [hy284]; with_reducible exact H) | (have H2_ := (Option.bind_some _ _).symm.trans H; rw [hy284]; with_reducible exact H2_) | (have H2_ := (Option.bind_some _ _).symm.trans H; with_reducible exact H2_) | with_reducible exact H | (rw [hy284]; exact H) | exact H
                                      have Ny284 := Aside0.mk hy284
                                      clear hy284
                                      replace H := Option.bind_eq_some_iff.mp H
                                      obtain ⟨t288, A500, H⟩ := H
                                      replace H : (if t288 = true then (if t283 = 0 then (if t282 = true then (if t281.toList = t274.toList then ((vouchlaw13_works.f).bind fun t289 => (some t289)) else (some false)) else (some false)) else (some false)) else (some false)) = some r := H
                                      have A50 := Aside0.mk A500
                                      clear A500
                                      by_cases c51 : t288 = true
                                      · subst c51
                                        have H1 : (if t283 = 0 then (if t282 = true then (if t281.toList = t274.toList then ((vouchlaw13_works.f).bind fun t289 => (some t289)) else (some false)) else (some false)) else (some false)) = some r := by rw [if_pos rfl] at H; exact H
                                        clear H
                                        have H := H1
                                        clear H1
                                        by_cases c52 : t283 = 0
                                        · rw [if_pos c52] at H
                                          have c52b0 : (t283 == 0) = true := beq_iff_eq.mpr c52
                                          have c52b1 : (t283 != 0) = false := bne_eq_false_iff_eq.mpr c52
                                          clear c52
                                          by_cases c53 : t282 = true
                                          · subst c53
                                            have H1 : (if t281.toList = t274.toList then ((vouchlaw13_works.f).bind fun t289 => (some t289)) else (some false)) = some r := by rw [if_pos rfl] at H; exact H
                                            clear H
                                            have H := H1
                                            clear H1
                                            by_cases c54 : t281.toList = t274.toList
                                            · rw [if_pos c54] at H
                                              have c54b0 : (t281.toList == t274.toList) = true := beq_iff_eq.mpr c54
                                              have c54b1 : (t281.toList != t274.toList) = false := bne_eq_false_iff_eq.mpr c54
                                              clear c54
                                              replace H := Option.bind_eq_some_iff.mp H
                                              obtain ⟨t289, A550, H⟩ := H
                                              replace H : (some t289) = some r := H
                                              have A55 := Aside0.mk A550
                                              clear A550
                                              obtain rfl := Option.some.inj H
                                              go_wp2_with (first | ((with_reducible refine gate_callee (f := 22) rfl ?_); refine goesL_ (some 116) rfl rfl Try.func22 (by kernel_rfl) rfl #[.string ((a0 ++ (⟨#[67, 111, 109, 109, 101, 110, 116, 58]⟩ : ByteArray)) ++ t274), .int .u8 6] rfl (by (try simp only [List.map_toArray, List.map_cons, List.map_nil]); first | done | rfl | (simp only [List.length_drop, List.length_take]; rfl)) ?_; (with_reducible refine (fields_Find.calls kj32 ((a0 ++ (⟨#[67, 111, 109, 109, 101, 110, 116, 58]⟩ : ByteArray)) ++ t274) 6 t281 true t283 _ A47.out).mono ?_); rintro e w56 ⟨rfl, hb⟩; refine ⟨_, rfl, ?_⟩; have n0_ := Aside0.mk (Kd.R_below (by (with_reducible repeat (first | apply Kd.R_alloc | apply Kd.R_drewN | apply Kd.R_drew)); exact HO_5.out) hb); have n1_ := Aside0.mk (Kd.R_below (by (with_reducible repeat (first | apply Kd.R_alloc | apply Kd.R_drewN | apply Kd.R_drew)); exact HO_10.out) hb); have n2_ := Aside0.mk (below_step (by repeat (first | (with_reducible first | exact HB.out | apply below_alloc | apply pw_below_drewN | apply below_drew1) | exact HB.out)) hb); clear HO_5; clear HO_10; clear HB; have HO_5 := n0_; have HO_10 := n1_; have HB := n2_; clear n0_ n1_ n2_; (try clear hb); (try clear hb2); (try clear hk); (try clear hi); obtain ⟨Ao58, co58, eo58⟩ := Kd.R_slice HO_10.out; subst eo58; have q57 : ((t264.length : Int) : Int) ≤ ((t275.length : Int) : Int) := of_decide_eq_true (by first | (with_reducible assumption) | assumption); obtain ⟨i057, hi057, _, hsz57, _⟩ := info_parts info28; have hroom57 : t275.length ≤ co58 := (Kd.R_reads' HO_10.out).2.1; have hC57 : Kd.C k28 _ Ao58 t275.length t275 := (Kd.R_reads' HO_10.out).2.2; have hcut57 := cut_to (P := Try.prog) 22 28 .i64 Try.underlying22 hi057 Ao58 t275.length co58 (t264.length : Int) (of_decide_eq_true (by first | (with_reducible assumption) | assumption)) q57 hroom57; have hr57 := Kd.C_take (m := ((t264.length : Int) : Int).toNat) hC57 (by omega); have hy57 : y284.length = ((t264.length : Int) : Int).toNat := (by rw [Ny284.out, List.length_take]; omega); rw [← Ny284.out] at hr57; rw [← hy57] at hcut57; have HR287 := Aside0.mk hr57; have HC287 := Aside0.mk (show y284.length ≤ co58 from by omega); clear hr57 hC57 hroom57 hi057 hsz57; have KY57 := Aside0.mk hy57; clear hy57; have KL57 := Aside0.mk (show ((t264.length : Int) : Int).toNat ≤ t275.length from by omega); replace q57 := eq_true q57) | ((with_reducible refine gate_callee (f := 13) rfl ?_); refine goesL_ (some 124) rfl rfl Try.func13 (by kernel_rfl) rfl #[.slice Ao58 y284.length co58, .slice Ao34 t264.length co34] rfl (by (try simp only [List.map_toArray, List.map_cons, List.map_nil]); first | done | rfl | (simp only [List.length_drop, List.length_take]; rfl)) ?_; (with_reducible refine (vouchref13_Same.calls kj32 _ _ y284 _ _ t264 true _ ?side1 ?side2 ?side3 ?side4 A50.out).mono ?_); (case side1 => repeat (first | exact (by repeat (first | (with_reducible exact HR287.out) | (with_reducible refine Kd.C_alloc ?_ _) | (with_reducible refine Kd.C_drewN ?_ _) | (with_reducible refine Kd.C_drew ?_) | exact HR287.out)) | (with_reducible refine Kd.C_alloc ?_ _) | (with_reducible refine Kd.C_drewN ?_ _) | (with_reducible refine Kd.C_drew ?_))); (case side2 => exact HC287.out); (case side3 => repeat (first | exact (Kd.R_reads' HO_5.out).2.2 | (with_reducible refine Kd.C_alloc ?_ _) | (with_reducible refine Kd.C_drewN ?_ _) | (with_reducible refine Kd.C_drew ?_))); (case side4 => exact (Kd.R_reads' HO_5.out).2.1); rintro e w' ⟨rfl, ⟨nd, rfl⟩⟩; refine ⟨_, rfl, ?_⟩) | (go_at_call 14; (with_reducible refine (vouchlaw13_works.calls  t289 _ A55.out).mono ?_); rintro e w59 ⟨rfl, hb⟩; have n0_ := Aside0.mk (Kd.R_below (by (with_reducible repeat (first | apply Kd.R_alloc | apply Kd.R_drewN | apply Kd.R_drew)); exact HO_5.out) hb); have n1_ := Aside0.mk (Kd.R_below (by (with_reducible repeat (first | apply Kd.R_alloc | apply Kd.R_drewN | apply Kd.R_drew)); exact HO_10.out) hb); have n2_ := Aside0.mk (Kd.C_below (by repeat (first | (with_reducible exact HR287.out) | (with_reducible refine Kd.C_alloc ?_ _) | (with_reducible refine Kd.C_drewN ?_ _) | (with_reducible refine Kd.C_drew ?_) | exact HR287.out)) hb); have n3_ := Aside0.mk (below_step (by repeat (first | (with_reducible first | exact HB.out | apply below_alloc | apply pw_below_drewN | apply below_drew1) | exact HB.out)) hb); clear HO_5; clear HO_10; clear HR287; clear HB; have HO_5 := n0_; have HO_10 := n1_; have HR287 := n2_; have HB := n3_; clear n0_ n1_ n2_ n3_; (try clear hb); (try clear hb2); (try clear hk); (try clear hi)))
                                              go_ret
                                              exact ⟨by first | rfl | (simp [errW_none, errW_some] <;> rfl) | (simp [*, errW_none, errW_some] <;> rfl), by repeat (first | (with_reducible first | exact HB.out | apply below_alloc | apply pw_below_drewN | apply below_drew1) | exact HB.out)⟩
                                            · rw [if_neg c54] at H
                                              have c54b0 : (t281.toList == t274.toList) = false := beq_eq_false_iff_ne.mpr c54
                                              have c54b1 : (t281.toList != t274.toList) = true := bne_iff_ne.mpr c54
                                              obtain rfl := Option.some.inj H
                                              go_wp2_with (first | ((with_reducible refine gate_callee (f := 22) rfl ?_); refine goesL_ (some 116) rfl rfl Try.func22 (by kernel_rfl) rfl #[.string ((a0 ++ (⟨#[67, 111, 109, 109, 101, 110, 116, 58]⟩ : ByteArray)) ++ t274), .int .u8 6] rfl (by (try simp only [List.map_toArray, List.map_cons, List.map_nil]); first | done | rfl | (simp only [List.length_drop, List.length_take]; rfl)) ?_; (with_reducible refine (fields_Find.calls kj32 ((a0 ++ (⟨#[67, 111, 109, 109, 101, 110, 116, 58]⟩ : ByteArray)) ++ t274) 6 t281 true t283 _ A47.out).mono ?_); rintro e w60 ⟨rfl, hb⟩; refine ⟨_, rfl, ?_⟩; have n0_ := Aside0.mk (Kd.R_below (by (with_reducible repeat (first | apply Kd.R_alloc | apply Kd.R_drewN | apply Kd.R_drew)); exact HO_5.out) hb); have n1_ := Aside0.mk (Kd.R_below (by (with_reducible repeat (first | apply Kd.R_alloc | apply Kd.R_drewN | apply Kd.R_drew)); exact HO_10.out) hb); have n2_ := Aside0.mk (below_step (by repeat (first | (with_reducible first | exact HB.out | apply below_alloc | apply pw_below_drewN | apply below_drew1) | exact HB.out)) hb); clear HO_5; clear HO_10; clear HB; have HO_5 := n0_; have HO_10 := n1_; have HB := n2_; clear n0_ n1_ n2_; (try clear hb); (try clear hb2); (try clear hk); (try clear hi); obtain ⟨Ao62, co62, eo62⟩ := Kd.R_slice HO_10.out; subst eo62; have q61 : ((t264.length : Int) : Int) ≤ ((t275.length : Int) : Int) := of_decide_eq_true (by first | (with_reducible assumption) | assumption); obtain ⟨i061, hi061, _, hsz61, _⟩ := info_parts info28; have hroom61 : t275.length ≤ co62 := (Kd.R_reads' HO_10.out).2.1; have hC61 : Kd.C k28 _ Ao62 t275.length t275 := (Kd.R_reads' HO_10.out).2.2; have hcut61 := cut_to (P := Try.prog) 22 28 .i64 Try.underlying22 hi061 Ao62 t275.length co62 (t264.length : Int) (of_decide_eq_true (by first | (with_reducible assumption) | assumption)) q61 hroom61; have hr61 := Kd.C_take (m := ((t264.length : Int) : Int).toNat) hC61 (by omega); have hy61 : y284.length = ((t264.length : Int) : Int).toNat := (by rw [Ny284.out, List.length_take]; omega); rw [← Ny284.out] at hr61; rw [← hy61] at hcut61; have HR287 := Aside0.mk hr61; have HC287 := Aside0.mk (show y284.length ≤ co62 from by omega); clear hr61 hC61 hroom61 hi061 hsz61; have KY61 := Aside0.mk hy61; clear hy61; have KL61 := Aside0.mk (show ((t264.length : Int) : Int).toNat ≤ t275.length from by omega); replace q61 := eq_true q61) | ((with_reducible refine gate_callee (f := 13) rfl ?_); refine goesL_ (some 124) rfl rfl Try.func13 (by kernel_rfl) rfl #[.slice Ao62 y284.length co62, .slice Ao34 t264.length co34] rfl (by (try simp only [List.map_toArray, List.map_cons, List.map_nil]); first | done | rfl | (simp only [List.length_drop, List.length_take]; rfl)) ?_; (with_reducible refine (vouchref13_Same.calls kj32 _ _ y284 _ _ t264 true _ ?side1 ?side2 ?side3 ?side4 A50.out).mono ?_); (case side1 => repeat (first | exact (by repeat (first | (with_reducible exact HR287.out) | (with_reducible refine Kd.C_alloc ?_ _) | (with_reducible refine Kd.C_drewN ?_ _) | (with_reducible refine Kd.C_drew ?_) | exact HR287.out)) | (with_reducible refine Kd.C_alloc ?_ _) | (with_reducible refine Kd.C_drewN ?_ _) | (with_reducible refine Kd.C_drew ?_))); (case side2 => exact HC287.out); (case side3 => repeat (first | exact (Kd.R_reads' HO_5.out).2.2 | (with_reducible refine Kd.C_alloc ?_ _) | (with_reducible refine Kd.C_drewN ?_ _) | (with_reducible refine Kd.C_drew ?_))); (case side4 => exact (Kd.R_reads' HO_5.out).2.1); rintro e w' ⟨rfl, ⟨nd, rfl⟩⟩; refine ⟨_, rfl, ?_⟩))
                                              go_ret
                                              exact ⟨by first | rfl | (simp [errW_none, errW_some] <;> rfl) | (simp [*, errW_none, errW_some] <;> rfl), by repeat (first | (with_reducible first | exact HB.out | apply below_alloc | apply pw_below_drewN | apply below_drew1) | exact HB.out)⟩
                                          · replace c53 := Bool.eq_false_iff.mpr c53
                                            subst c53
                                            have H1 : (some false) = some r := by rw [if_neg (show ¬ (false = true) by decide)] at H; exact H
                                            clear H
                                            have H := H1
                                            clear H1
                                            obtain rfl := Option.some.inj H
                                            go_wp2_with (first | ((with_reducible refine gate_callee (f := 22) rfl ?_); refine goesL_ (some 116) rfl rfl Try.func22 (by kernel_rfl) rfl #[.string ((a0 ++ (⟨#[67, 111, 109, 109, 101, 110, 116, 58]⟩ : ByteArray)) ++ t274), .int .u8 6] rfl (by (try simp only [List.map_toArray, List.map_cons, List.map_nil]); first | done | rfl | (simp only [List.length_drop, List.length_take]; rfl)) ?_; (with_reducible refine (fields_Find.calls kj32 ((a0 ++ (⟨#[67, 111, 109, 109, 101, 110, 116, 58]⟩ : ByteArray)) ++ t274) 6 t281 false t283 _ A47.out).mono ?_); rintro e w63 ⟨rfl, hb⟩; refine ⟨_, rfl, ?_⟩; have n0_ := Aside0.mk (Kd.R_below (by (with_reducible repeat (first | apply Kd.R_alloc | apply Kd.R_drewN | apply Kd.R_drew)); exact HO_5.out) hb); have n1_ := Aside0.mk (Kd.R_below (by (with_reducible repeat (first | apply Kd.R_alloc | apply Kd.R_drewN | apply Kd.R_drew)); exact HO_10.out) hb); have n2_ := Aside0.mk (below_step (by repeat (first | (with_reducible first | exact HB.out | apply below_alloc | apply pw_below_drewN | apply below_drew1) | exact HB.out)) hb); clear HO_5; clear HO_10; clear HB; have HO_5 := n0_; have HO_10 := n1_; have HB := n2_; clear n0_ n1_ n2_; (try clear hb); (try clear hb2); (try clear hk); (try clear hi); obtain ⟨Ao65, co65, eo65⟩ := Kd.R_slice HO_10.out; subst eo65; have q64 : ((t264.length : Int) : Int) ≤ ((t275.length : Int) : Int) := of_decide_eq_true (by first | (with_reducible assumption) | assumption); obtain ⟨i064, hi064, _, hsz64, _⟩ := info_parts info28; have hroom64 : t275.length ≤ co65 := (Kd.R_reads' HO_10.out).2.1; have hC64 : Kd.C k28 _ Ao65 t275.length t275 := (Kd.R_reads' HO_10.out).2.2; have hcut64 := cut_to (P := Try.prog) 22 28 .i64 Try.underlying22 hi064 Ao65 t275.length co65 (t264.length : Int) (of_decide_eq_true (by first | (with_reducible assumption) | assumption)) q64 hroom64; have hr64 := Kd.C_take (m := ((t264.length : Int) : Int).toNat) hC64 (by omega); have hy64 : y284.length = ((t264.length : Int) : Int).toNat := (by rw [Ny284.out, List.length_take]; omega); rw [← Ny284.out] at hr64; rw [← hy64] at hcut64; have HR287 := Aside0.mk hr64; have HC287 := Aside0.mk (show y284.length ≤ co65 from by omega); clear hr64 hC64 hroom64 hi064 hsz64; have KY64 := Aside0.mk hy64; clear hy64; have KL64 := Aside0.mk (show ((t264.length : Int) : Int).toNat ≤ t275.length from by omega); replace q64 := eq_true q64) | ((with_reducible refine gate_callee (f := 13) rfl ?_); refine goesL_ (some 124) rfl rfl Try.func13 (by kernel_rfl) rfl #[.slice Ao65 y284.length co65, .slice Ao34 t264.length co34] rfl (by (try simp only [List.map_toArray, List.map_cons, List.map_nil]); first | done | rfl | (simp only [List.length_drop, List.length_take]; rfl)) ?_; (with_reducible refine (vouchref13_Same.calls kj32 _ _ y284 _ _ t264 true _ ?side1 ?side2 ?side3 ?side4 A50.out).mono ?_); (case side1 => repeat (first | exact (by repeat (first | (with_reducible exact HR287.out) | (with_reducible refine Kd.C_alloc ?_ _) | (with_reducible refine Kd.C_drewN ?_ _) | (with_reducible refine Kd.C_drew ?_) | exact HR287.out)) | (with_reducible refine Kd.C_alloc ?_ _) | (with_reducible refine Kd.C_drewN ?_ _) | (with_reducible refine Kd.C_drew ?_))); (case side2 => exact HC287.out); (case side3 => repeat (first | exact (Kd.R_reads' HO_5.out).2.2 | (with_reducible refine Kd.C_alloc ?_ _) | (with_reducible refine Kd.C_drewN ?_ _) | (with_reducible refine Kd.C_drew ?_))); (case side4 => exact (Kd.R_reads' HO_5.out).2.1); rintro e w' ⟨rfl, ⟨nd, rfl⟩⟩; refine ⟨_, rfl, ?_⟩))
                                            go_ret
                                            exact ⟨by first | rfl | (simp [errW_none, errW_some] <;> rfl) | (simp [*, errW_none, errW_some] <;> rfl), by repeat (first | (with_reducible first | exact HB.out | apply below_alloc | apply pw_below_drewN | apply below_drew1) | exact HB.out)⟩
                                        · rw [if_neg c52] at H
                                          have c52b0 : (t283 == 0) = false := beq_eq_false_iff_ne.mpr c52
                                          have c52b1 : (t283 != 0) = true := bne_iff_ne.mpr c52
                                          obtain rfl := Option.some.inj H
                                          go_wp2_with (first | ((with_reducible refine gate_callee (f := 22) rfl ?_); refine goesL_ (some 116) rfl rfl Try.func22 (by kernel_rfl) rfl #[.string ((a0 ++ (⟨#[67, 111, 109, 109, 101, 110, 116, 58]⟩ : ByteArray)) ++ t274), .int .u8 6] rfl (by (try simp only [List.map_toArray, List.map_cons, List.map_nil]); first | done | rfl | (simp only [List.length_drop, List.length_take]; rfl)) ?_; (with_reducible refine (fields_Find.calls kj32 ((a0 ++ (⟨#[67, 111, 109, 109, 101, 110, 116, 58]⟩ : ByteArray)) ++ t274) 6 t281 t282 t283 _ A47.out).mono ?_); rintro e w66 ⟨rfl, hb⟩; refine ⟨_, rfl, ?_⟩; have n0_ := Aside0.mk (Kd.R_below (by (with_reducible repeat (first | apply Kd.R_alloc | apply Kd.R_drewN | apply Kd.R_drew)); exact HO_5.out) hb); have n1_ := Aside0.mk (Kd.R_below (by (with_reducible repeat (first | apply Kd.R_alloc | apply Kd.R_drewN | apply Kd.R_drew)); exact HO_10.out) hb); have n2_ := Aside0.mk (below_step (by repeat (first | (with_reducible first | exact HB.out | apply below_alloc | apply pw_below_drewN | apply below_drew1) | exact HB.out)) hb); clear HO_5; clear HO_10; clear HB; have HO_5 := n0_; have HO_10 := n1_; have HB := n2_; clear n0_ n1_ n2_; (try clear hb); (try clear hb2); (try clear hk); (try clear hi); obtain ⟨Ao68, co68, eo68⟩ := Kd.R_slice HO_10.out; subst eo68; have q67 : ((t264.length : Int) : Int) ≤ ((t275.length : Int) : Int) := of_decide_eq_true (by first | (with_reducible assumption) | assumption); obtain ⟨i067, hi067, _, hsz67, _⟩ := info_parts info28; have hroom67 : t275.length ≤ co68 := (Kd.R_reads' HO_10.out).2.1; have hC67 : Kd.C k28 _ Ao68 t275.length t275 := (Kd.R_reads' HO_10.out).2.2; have hcut67 := cut_to (P := Try.prog) 22 28 .i64 Try.underlying22 hi067 Ao68 t275.length co68 (t264.length : Int) (of_decide_eq_true (by first | (with_reducible assumption) | assumption)) q67 hroom67; have hr67 := Kd.C_take (m := ((t264.length : Int) : Int).toNat) hC67 (by omega); have hy67 : y284.length = ((t264.length : Int) : Int).toNat := (by rw [Ny284.out, List.length_take]; omega); rw [← Ny284.out] at hr67; rw [← hy67] at hcut67; have HR287 := Aside0.mk hr67; have HC287 := Aside0.mk (show y284.length ≤ co68 from by omega); clear hr67 hC67 hroom67 hi067 hsz67; have KY67 := Aside0.mk hy67; clear hy67; have KL67 := Aside0.mk (show ((t264.length : Int) : Int).toNat ≤ t275.length from by omega); replace q67 := eq_true q67) | ((with_reducible refine gate_callee (f := 13) rfl ?_); refine goesL_ (some 124) rfl rfl Try.func13 (by kernel_rfl) rfl #[.slice Ao68 y284.length co68, .slice Ao34 t264.length co34] rfl (by (try simp only [List.map_toArray, List.map_cons, List.map_nil]); first | done | rfl | (simp only [List.length_drop, List.length_take]; rfl)) ?_; (with_reducible refine (vouchref13_Same.calls kj32 _ _ y284 _ _ t264 true _ ?side1 ?side2 ?side3 ?side4 A50.out).mono ?_); (case side1 => repeat (first | exact (by repeat (first | (with_reducible exact HR287.out) | (with_reducible refine Kd.C_alloc ?_ _) | (with_reducible refine Kd.C_drewN ?_ _) | (with_reducible refine Kd.C_drew ?_) | exact HR287.out)) | (with_reducible refine Kd.C_alloc ?_ _) | (with_reducible refine Kd.C_drewN ?_ _) | (with_reducible refine Kd.C_drew ?_))); (case side2 => exact HC287.out); (case side3 => repeat (first | exact (Kd.R_reads' HO_5.out).2.2 | (with_reducible refine Kd.C_alloc ?_ _) | (with_reducible refine Kd.C_drewN ?_ _) | (with_reducible refine Kd.C_drew ?_))); (case side4 => exact (Kd.R_reads' HO_5.out).2.1); rintro e w' ⟨rfl, ⟨nd, rfl⟩⟩; refine ⟨_, rfl, ?_⟩))
                                          go_ret
                                          exact ⟨by first | rfl | (simp [errW_none, errW_some] <;> rfl) | (simp [*, errW_none, errW_some] <;> rfl), by repeat (first | (with_reducible first | exact HB.out | apply below_alloc | apply pw_below_drewN | apply below_drew1) | exact HB.out)⟩
                                      · replace c51 := Bool.eq_false_iff.mpr c51
                                        subst c51
                                        have H1 : (some false) = some r := by rw [if_neg (show ¬ (false = true) by decide)] at H; exact H
                                        clear H
                                        have H := H1
                                        clear H1
                                        obtain rfl := Option.some.inj H
                                        go_wp2_with (first | ((with_reducible refine gate_callee (f := 22) rfl ?_); refine goesL_ (some 116) rfl rfl Try.func22 (by kernel_rfl) rfl #[.string ((a0 ++ (⟨#[67, 111, 109, 109, 101, 110, 116, 58]⟩ : ByteArray)) ++ t274), .int .u8 6] rfl (by (try simp only [List.map_toArray, List.map_cons, List.map_nil]); first | done | rfl | (simp only [List.length_drop, List.length_take]; rfl)) ?_; (with_reducible refine (fields_Find.calls kj32 ((a0 ++ (⟨#[67, 111, 109, 109, 101, 110, 116, 58]⟩ : ByteArray)) ++ t274) 6 t281 t282 t283 _ A47.out).mono ?_); rintro e w69 ⟨rfl, hb⟩; refine ⟨_, rfl, ?_⟩; have n0_ := Aside0.mk (Kd.R_below (by (with_reducible repeat (first | apply Kd.R_alloc | apply Kd.R_drewN | apply Kd.R_drew)); exact HO_5.out) hb); have n1_ := Aside0.mk (Kd.R_below (by (with_reducible repeat (first | apply Kd.R_alloc | apply Kd.R_drewN | apply Kd.R_drew)); exact HO_10.out) hb); have n2_ := Aside0.mk (below_step (by repeat (first | (with_reducible first | exact HB.out | apply below_alloc | apply pw_below_drewN | apply below_drew1) | exact HB.out)) hb); clear HO_5; clear HO_10; clear HB; have HO_5 := n0_; have HO_10 := n1_; have HB := n2_; clear n0_ n1_ n2_; (try clear hb); (try clear hb2); (try clear hk); (try clear hi); obtain ⟨Ao71, co71, eo71⟩ := Kd.R_slice HO_10.out; subst eo71; have q70 : ((t264.length : Int) : Int) ≤ ((t275.length : Int) : Int) := of_decide_eq_true (by first | (with_reducible assumption) | assumption); obtain ⟨i070, hi070, _, hsz70, _⟩ := info_parts info28; have hroom70 : t275.length ≤ co71 := (Kd.R_reads' HO_10.out).2.1; have hC70 : Kd.C k28 _ Ao71 t275.length t275 := (Kd.R_reads' HO_10.out).2.2; have hcut70 := cut_to (P := Try.prog) 22 28 .i64 Try.underlying22 hi070 Ao71 t275.length co71 (t264.length : Int) (of_decide_eq_true (by first | (with_reducible assumption) | assumption)) q70 hroom70; have hr70 := Kd.C_take (m := ((t264.length : Int) : Int).toNat) hC70 (by omega); have hy70 : y284.length = ((t264.length : Int) : Int).toNat := (by rw [Ny284.out, List.length_take]; omega); rw [← Ny284.out] at hr70; rw [← hy70] at hcut70; have HR287 := Aside0.mk hr70; have HC287 := Aside0.mk (show y284.length ≤ co71 from by omega); clear hr70 hC70 hroom70 hi070 hsz70; have KY70 := Aside0.mk hy70; clear hy70; have KL70 := Aside0.mk (show ((t264.length : Int) : Int).toNat ≤ t275.length from by omega); replace q70 := eq_true q70) | ((with_reducible refine gate_callee (f := 13) rfl ?_); refine goesL_ (some 124) rfl rfl Try.func13 (by kernel_rfl) rfl #[.slice Ao71 y284.length co71, .slice Ao34 t264.length co34] rfl (by (try simp only [List.map_toArray, List.map_cons, List.map_nil]); first | done | rfl | (simp only [List.length_drop, List.length_take]; rfl)) ?_; (with_reducible refine (vouchref13_Same.calls kj32 _ _ y284 _ _ t264 false _ ?side1 ?side2 ?side3 ?side4 A50.out).mono ?_); (case side1 => repeat (first | exact (by repeat (first | (with_reducible exact HR287.out) | (with_reducible refine Kd.C_alloc ?_ _) | (with_reducible refine Kd.C_drewN ?_ _) | (with_reducible refine Kd.C_drew ?_) | exact HR287.out)) | (with_reducible refine Kd.C_alloc ?_ _) | (with_reducible refine Kd.C_drewN ?_ _) | (with_reducible refine Kd.C_drew ?_))); (case side2 => exact HC287.out); (case side3 => repeat (first | exact (Kd.R_reads' HO_5.out).2.2 | (with_reducible refine Kd.C_alloc ?_ _) | (with_reducible refine Kd.C_drewN ?_ _) | (with_reducible refine Kd.C_drew ?_))); (case side4 => exact (Kd.R_reads' HO_5.out).2.1); rintro e w' ⟨rfl, ⟨nd, rfl⟩⟩; refine ⟨_, rfl, ?_⟩))
                                        go_ret
                                        exact ⟨by first | rfl | (simp [errW_none, errW_some] <;> rfl) | (simp [*, errW_none, errW_some] <;> rfl), by repeat (first | (with_reducible first | exact HB.out | apply below_alloc | apply pw_below_drewN | apply below_drew1) | exact HB.out)⟩
                                    · rw [if_neg c49] at H
                                      exact absurd H (by simp)
                                  · rw [if_neg c48] at H
                                    exact absurd H (by simp)
                                · rw [if_neg c46] at H
                                  exact absurd H (by simp)
                              · rw [if_neg c45] at H
                                exact absurd H (by simp)
                      · rw [if_neg c31] at H
                        exact absurd H (by simp)
                    · rw [if_neg c30] at H
                      exact absurd H (by simp)

/-- THE ONE PURE STATEMENT of vouchlaw13_FieldsMore: yours. -/
def vouchlaw13_FieldsMore.Pure : Prop := ∀ (a0 : ByteArray) (a1 : ByteArray), a0.size ≤ 140737488351232 → a1.size ≤ 140737488351232 → ∃ k, vouchlaw13_FieldsMore.f k a0 a1 = some true
theorem vouchlaw13_FieldsMore.walk (P : vouchlaw13_FieldsMore.Pure) (a0 : ByteArray) (a1 : ByteArray) (w : World) (w0 : a0.size ≤ 140737488351232) (w1 : a1.size ≤ 140737488351232) :
    Calls Try.prog 8 #[.string a0, .string a1] w fun e w' => e = .returned (.bool true) ∧ Below w.heap.size w w' := by
  obtain ⟨k, h⟩ := P a0 a1 w0 w1
  refine (vouchlaw13_FieldsMore.calls k a0 a1 true w h).mono ?_
  rintro e w' ⟨rfl, hd⟩
  exact ⟨rfl, hd⟩

end Go.Proofs.Ytiienmifjebdlaa.Q
