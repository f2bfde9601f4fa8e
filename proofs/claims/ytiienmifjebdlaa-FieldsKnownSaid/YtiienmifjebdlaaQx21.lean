/- Go functions as Lean functions, and that each call comes to its Lean function's answer, wherever that is some answer. Written by a program of this session out of the translation. -/
import Derived.Test.YtiienmifjebdlaaQx0
import Derived.Test.YtiienmifjebdlaaQx1
import Derived.Test.YtiienmifjebdlaaQx8
import Derived.Test.YtiienmifjebdlaaQx9
import Derived.Test.YtiienmifjebdlaaQx13
import Derived.Test.YtiienmifjebdlaaQx17
import Derived.Test.YtiienmifjebdlaaQx20
namespace Go.Proofs.Ytiienmifjebdlaa.Q
open Go.RowKit Go.Proofs.YtiienmifjebdlaaW.PrintWords Go.Proofs.YtiienmifjebdlaaW.PrintLast Go.Proofs.YtiienmifjebdlaaW.PrintMore
attribute [local go_sem] max2_int min2_int max_two min_two max_three min_three max_four min_four   -- for this text's walks alone
set_option linter.unusedVariables false
set_option linter.unusedSimpArgs false

attribute [local go_sem high] eqA28
/-! ### vouchlaw13_FieldsKnown: function 10 -/
mutual
def vouchlaw13_FieldsKnown.l0 : Nat → ByteArray → Option (Bool)
  | 0, _ => none
  | k + 1, x1 => if x1.size < 65536 then (if 11 ≤ (x1.size : Int) then (if x1.size + (x1.extract 11 x1.size).size ≤ 9223372036854775807 then (if (x1 ++ (x1.extract 11 x1.size)).size + 1 ≤ 9223372036854775807 then (if (((x1 ++ (x1.extract 11 x1.size)) ++ (⟨#[32]⟩ : ByteArray)).size : Int) > 65536 then (if 0 ≤ 65536 then (if 65536 ≤ (((x1 ++ (x1.extract 11 x1.size)) ++ (⟨#[32]⟩ : ByteArray)).size : Int) then (vouchlaw13_FieldsKnown.l0 k (((x1 ++ (x1.extract 11 x1.size)) ++ (⟨#[32]⟩ : ByteArray)).extract 0 65536)) else (none)) else (none)) else (vouchlaw13_FieldsKnown.l0 k ((x1 ++ (x1.extract 11 x1.size)) ++ (⟨#[32]⟩ : ByteArray)))) else (none)) else (none)) else (none)) else ((fields_Split.f x1).bind fun bt321 => (if bt321.2.2 = 0 then (if (bt321.1.length : Int) = 1 then (if 0 < (bt321.1.length : Int) then (if ((rd_T28 bt321.1 0).f3) = 65536 then (if x1.size + 1 ≤ 9223372036854775807 then ((vouchlaw13_split.f (x1 ++ (⟨#[32]⟩ : ByteArray)) 3 0).bind fun t327 => (vouchlaw13_FieldsKnown.j1 k (!t327))) else (none)) else (vouchlaw13_FieldsKnown.j1 k true)) else (none)) else (vouchlaw13_FieldsKnown.j1 k true)) else (vouchlaw13_FieldsKnown.j1 k true)))
def vouchlaw13_FieldsKnown.j1 : Nat → Bool → Option (Bool)
  | 0, _ => none
  | k + 1, x60 => if x60 = true then (some false) else ((fields_Split.f (⟨#[65, 85, 84, 72, 79, 82, 73, 90, 69, 82, 58, 10, 32, 120, 10, 108, 105, 99, 101, 110, 115, 101, 101, 115, 58, 10]⟩ : ByteArray)).bind fun bt328 => (if bt328.2.2 = 0 then (if (bt328.1.length : Int) = 2 then (if 0 < (bt328.1.length : Int) then (if (!(((rd_T28 bt328.1 0).f0) == 2) || (!(((rd_T28 bt328.1 0).f1) == 0) || (!(((rd_T28 bt328.1 0).f2) == 11) || (!(((rd_T28 bt328.1 0).f3) == 15))))) = true then (vouchlaw13_FieldsKnown.j2 k true) else (if 1 < (bt328.1.length : Int) then (vouchlaw13_FieldsKnown.j2 k (!(((rd_T28 bt328.1 1).f0) == 3) || (!(((rd_T28 bt328.1 1).f1) == 15) || (!(((rd_T28 bt328.1 1).f2) == 25) || (!(((rd_T28 bt328.1 1).f3) == 26)))))) else (none))) else (none)) else (vouchlaw13_FieldsKnown.j2 k true)) else (vouchlaw13_FieldsKnown.j2 k true)))
def vouchlaw13_FieldsKnown.j2 : Nat → Bool → Option (Bool)
  | 0, _ => none
  | k + 1, x86 => if x86 = true then (some false) else ((vouchlaw13_split.f (⟨#[]⟩ : ByteArray) 131 0).bind fun t335 => (if t335 = true then ((vouchlaw13_split.f (⟨#[32, 65, 117, 116, 104, 111, 114, 105, 122, 101, 114, 58]⟩ : ByteArray) 131 0).bind fun t336 => (if t336 = true then ((vouchlaw13_split.f (⟨#[65, 117, 116, 104, 111, 114, 58]⟩ : ByteArray) 131 0).bind fun t337 => (if t337 = true then ((vouchlaw13_split.f (⟨#[10, 65, 117, 116, 104, 111, 114, 105, 122, 101, 114, 58]⟩ : ByteArray) 131 0).bind fun t338 => (if t338 = true then ((vouchlaw13_split.f (⟨#[67, 111, 109, 109, 101, 110, 116, 58, 10]⟩ : ByteArray) 134 9).bind fun t339 => (vouchlaw13_FieldsKnown.j3 k t339)) else (vouchlaw13_FieldsKnown.j3 k false))) else (vouchlaw13_FieldsKnown.j3 k false))) else (vouchlaw13_FieldsKnown.j3 k false))) else (vouchlaw13_FieldsKnown.j3 k false)))
def vouchlaw13_FieldsKnown.j3 : Nat → Bool → Option (Bool)
  | 0, _ => none
  | k + 1, x8 => (vouchlaw13_split.f (⟨#[65, 117, 116, 104, 111, 114, 105, 122, 101, 114, 58, 10, 65, 117, 116, 104, 111, 114, 105, 122, 101, 114, 32, 58, 10]⟩ : ByteArray) 131 12).bind fun t340 => (if t340 = true then ((vouchlaw13_split.f (⟨#[67, 111, 109, 109, 101, 110, 116, 58, 10, 107, 101, 121, 110, 111, 116, 101, 45, 118, 101, 114, 115, 105, 111, 110, 58, 32, 50, 10]⟩ : ByteArray) 133 9).bind fun t341 => (if t341 = true then ((vouchlaw13_split.f (⟨#[83, 105, 103, 110, 97, 116, 117, 114, 101, 58, 10, 65, 117, 116, 104, 111, 114, 105, 122, 101, 114, 58, 10]⟩ : ByteArray) 133 11).bind fun t342 => (if t342 = true then ((vouchlaw13_split.f (⟨#[67, 111, 109, 109, 101, 110, 116, 58, 10, 99, 111, 109, 109, 101, 110, 116, 58, 10]⟩ : ByteArray) 132 9).bind fun t343 => (vouchlaw13_FieldsKnown.j4 k x8 t343)) else (vouchlaw13_FieldsKnown.j4 k x8 false))) else (vouchlaw13_FieldsKnown.j4 k x8 false))) else (vouchlaw13_FieldsKnown.j4 k x8 false))
def vouchlaw13_FieldsKnown.j4 : Nat → Bool → Bool → Option (Bool)
  | 0, _, _ => none
  | k + 1, x8, x9 => (vouchlaw13_split.f (⟨#[65, 117, 116, 104, 111, 114, 105, 122, 101, 114, 58, 200]⟩ : ByteArray) 130 11).bind fun t344 => (if t344 = true then ((vouchlaw13_split.f (⟨#[120, 0]⟩ : ByteArray) 130 1).bind fun t345 => (if t345 = true then ((vouchlaw13_split.f (⟨#[83, 105, 103, 110, 97, 116, 117, 114, 101, 58, 10, 115, 105, 103, 110, 97, 116, 117, 114, 101, 58, 10]⟩ : ByteArray) 132 11).bind fun t346 => (if t346 = true then ((vouchlaw13_split.f (⟨#[65, 117, 116, 104, 111, 114, 105, 122, 101, 114, 58, 10, 120]⟩ : ByteArray) 131 12).bind fun t347 => (vouchlaw13_FieldsKnown.j5 k x8 x9 t347)) else (vouchlaw13_FieldsKnown.j5 k x8 x9 false))) else (vouchlaw13_FieldsKnown.j5 k x8 x9 false))) else (vouchlaw13_FieldsKnown.j5 k x8 x9 false))
def vouchlaw13_FieldsKnown.j5 : Nat → Bool → Bool → Bool → Option (Bool)
  | 0, _, _, _ => none
  | k + 1, x8, x9, x10 => (fields_Find.f k (⟨#[65, 117, 116, 104, 111, 114, 105, 122, 101, 114, 58, 32, 120, 10]⟩ : ByteArray) 2).bind fun bt348 => ((fields_Find.f k (⟨#[65, 117, 116, 104, 111, 114, 105, 122, 101, 114, 58, 32, 120, 10]⟩ : ByteArray) 3).bind fun bt351 => ((fields_Find.f k (⟨#[]⟩ : ByteArray) 8).bind fun bt354 => ((fields_Signed.f (⟨#[65, 117, 116, 104, 111, 114, 105, 122, 101, 114, 58, 10, 32, 120, 10, 83, 105, 103, 110, 97, 116, 117, 114, 101, 58, 32, 121]⟩ : ByteArray)).bind fun bt357 => (if x8 = true then (if x9 = true then (if x10 = true then (if bt348.1.toList = ([32, 120, 10] : List UInt8) then (if bt348.2.1 = true then (if bt348.2.2 = 0 then (if bt351.2.1 = true then (some false) else (if bt351.2.2 = 0 then (if bt354.2.2 = 2 then (if bt357.1.toList = ([65, 117, 116, 104, 111, 114, 105, 122, 101, 114, 58, 10, 32, 120, 10] : List UInt8) then (if bt357.2 = 0 then ((vouchlaw13_works.f).bind fun t359 => (some t359)) else (some false)) else (some false)) else (some false)) else (some false))) else (some false)) else (some false)) else (some false)) else (some false)) else (some false)) else (some false)))))
end
def vouchlaw13_FieldsKnown.f (k : Nat)  : Option (Bool) := vouchlaw13_FieldsKnown.l0 k (⟨#[65, 117, 116, 104, 111, 114, 105, 122, 101, 114, 58]⟩ : ByteArray)
set_option maxRecDepth 100000 in
theorem vouchlaw13_FieldsKnown.mono_l : ∀ k, (∀ y0, LeO (vouchlaw13_FieldsKnown.l0 k y0) (vouchlaw13_FieldsKnown.l0 (k + 1) y0)) ∧ (∀ y0, LeO (vouchlaw13_FieldsKnown.j1 k y0) (vouchlaw13_FieldsKnown.j1 (k + 1) y0)) ∧ (∀ y0, LeO (vouchlaw13_FieldsKnown.j2 k y0) (vouchlaw13_FieldsKnown.j2 (k + 1) y0)) ∧ (∀ y0, LeO (vouchlaw13_FieldsKnown.j3 k y0) (vouchlaw13_FieldsKnown.j3 (k + 1) y0)) ∧ (∀ y0 y1, LeO (vouchlaw13_FieldsKnown.j4 k y0 y1) (vouchlaw13_FieldsKnown.j4 (k + 1) y0 y1)) ∧ (∀ y0 y1 y2, LeO (vouchlaw13_FieldsKnown.j5 k y0 y1 y2) (vouchlaw13_FieldsKnown.j5 (k + 1) y0 y1 y2))
  | 0 => ⟨fun _ r h => by simp [vouchlaw13_FieldsKnown.l0] at h, fun _ r h => by simp [vouchlaw13_FieldsKnown.j1] at h, fun _ r h => by simp [vouchlaw13_FieldsKnown.j2] at h, fun _ r h => by simp [vouchlaw13_FieldsKnown.j3] at h, fun _ _ r h => by simp [vouchlaw13_FieldsKnown.j4] at h, fun _ _ _ r h => by simp [vouchlaw13_FieldsKnown.j5] at h⟩
  | k + 1 => by
    obtain ⟨ih0, ih1, ih2, ih3, ih4, ih5⟩ := vouchlaw13_FieldsKnown.mono_l k
    refine ⟨?_, ?_, ?_, ?_, ?_, ?_⟩
    · intro y0
      unfold vouchlaw13_FieldsKnown.l0
      repeat' first
      | (with_reducible exact ih0 _)
      | (with_reducible exact ih1 _)
      | (with_reducible exact ih2 _)
      | (with_reducible exact ih3 _)
      | (with_reducible exact ih4 _ _)
      | (with_reducible exact ih5 _ _ _)
      | (with_reducible exact fields_Find.mono _ _ _)
      | (with_reducible exact LeO.refl _)
      | (with_reducible exact LeO.none _)
      | (with_reducible refine LeO.ite ?_ ?_)
      | (with_reducible refine LeO.bind ?_ (fun _ => ?_))
      | exact ih0 _
      | exact ih1 _
      | exact ih2 _
      | exact ih3 _
      | exact ih4 _ _
      | exact ih5 _ _ _
      | exact fields_Find.mono _ _ _
      | exact LeO.none _
      | refine LeO.ite ?_ ?_
      | refine LeO.bind ?_ (fun _ => ?_)
    · intro y0
      unfold vouchlaw13_FieldsKnown.j1
      repeat' first
      | (with_reducible exact ih0 _)
      | (with_reducible exact ih1 _)
      | (with_reducible exact ih2 _)
      | (with_reducible exact ih3 _)
      | (with_reducible exact ih4 _ _)
      | (with_reducible exact ih5 _ _ _)
      | (with_reducible exact fields_Find.mono _ _ _)
      | (with_reducible exact LeO.refl _)
      | (with_reducible exact LeO.none _)
      | (with_reducible refine LeO.ite ?_ ?_)
      | (with_reducible refine LeO.bind ?_ (fun _ => ?_))
      | exact ih0 _
      | exact ih1 _
      | exact ih2 _
      | exact ih3 _
      | exact ih4 _ _
      | exact ih5 _ _ _
      | exact fields_Find.mono _ _ _
      | exact LeO.none _
      | refine LeO.ite ?_ ?_
      | refine LeO.bind ?_ (fun _ => ?_)
    · intro y0
      unfold vouchlaw13_FieldsKnown.j2
      repeat' first
      | (with_reducible exact ih0 _)
      | (with_reducible exact ih1 _)
      | (with_reducible exact ih2 _)
      | (with_reducible exact ih3 _)
      | (with_reducible exact ih4 _ _)
      | (with_reducible exact ih5 _ _ _)
      | (with_reducible exact fields_Find.mono _ _ _)
      | (with_reducible exact LeO.refl _)
      | (with_reducible exact LeO.none _)
      | (with_reducible refine LeO.ite ?_ ?_)
      | (with_reducible refine LeO.bind ?_ (fun _ => ?_))
      | exact ih0 _
      | exact ih1 _
      | exact ih2 _
      | exact ih3 _
      | exact ih4 _ _
      | exact ih5 _ _ _
      | exact fields_Find.mono _ _ _
      | exact LeO.none _
      | refine LeO.ite ?_ ?_
      | refine LeO.bind ?_ (fun _ => ?_)
    · intro y0
      unfold vouchlaw13_FieldsKnown.j3
      repeat' first
      | (with_reducible exact ih0 _)
      | (with_reducible exact ih1 _)
      | (with_reducible exact ih2 _)
      | (with_reducible exact ih3 _)
      | (with_reducible exact ih4 _ _)
      | (with_reducible exact ih5 _ _ _)
      | (with_reducible exact fields_Find.mono _ _ _)
      | (with_reducible exact LeO.refl _)
      | (with_reducible exact LeO.none _)
      | (with_reducible refine LeO.ite ?_ ?_)
      | (with_reducible refine LeO.bind ?_ (fun _ => ?_))
      | exact ih0 _
      | exact ih1 _
      | exact ih2 _
      | exact ih3 _
      | exact ih4 _ _
      | exact ih5 _ _ _
      | exact fields_Find.mono _ _ _
      | exact LeO.none _
      | refine LeO.ite ?_ ?_
      | refine LeO.bind ?_ (fun _ => ?_)
    · intro y0 y1
      unfold vouchlaw13_FieldsKnown.j4
      repeat' first
      | (with_reducible exact ih0 _)
      | (with_reducible exact ih1 _)
      | (with_reducible exact ih2 _)
      | (with_reducible exact ih3 _)
      | (with_reducible exact ih4 _ _)
      | (with_reducible exact ih5 _ _ _)
      | (with_reducible exact fields_Find.mono _ _ _)
      | (with_reducible exact LeO.refl _)
      | (with_reducible exact LeO.none _)
      | (with_reducible refine LeO.ite ?_ ?_)
      | (with_reducible refine LeO.bind ?_ (fun _ => ?_))
      | exact ih0 _
      | exact ih1 _
      | exact ih2 _
      | exact ih3 _
      | exact ih4 _ _
      | exact ih5 _ _ _
      | exact fields_Find.mono _ _ _
      | exact LeO.none _
      | refine LeO.ite ?_ ?_
      | refine LeO.bind ?_ (fun _ => ?_)
    · intro y0 y1 y2
      unfold vouchlaw13_FieldsKnown.j5
      repeat' first
      | (with_reducible exact ih0 _)
      | (with_reducible exact ih1 _)
      | (with_reducible exact ih2 _)
      | (with_reducible exact ih3 _)
      | (with_reducible exact ih4 _ _)
      | (with_reducible exact ih5 _ _ _)
      | (with_reducible exact fields_Find.mono _ _ _)
      | (with_reducible exact LeO.refl _)
      | (with_reducible exact LeO.none _)
      | (with_reducible refine LeO.ite ?_ ?_)
      | (with_reducible refine LeO.bind ?_ (fun _ => ?_))
      | exact ih0 _
      | exact ih1 _
      | exact ih2 _
      | exact ih3 _
      | exact ih4 _ _
      | exact ih5 _ _ _
      | exact fields_Find.mono _ _ _
      | exact LeO.none _
      | refine LeO.ite ?_ ?_
      | refine LeO.bind ?_ (fun _ => ?_)
theorem vouchlaw13_FieldsKnown.mono : ∀ k, LeO (vouchlaw13_FieldsKnown.f k ) (vouchlaw13_FieldsKnown.f (k + 1) ) := by
  intro  k
  obtain ⟨ih0, ih1, ih2, ih3, ih4, ih5⟩ := vouchlaw13_FieldsKnown.mono_l k
  unfold vouchlaw13_FieldsKnown.f
  repeat' first
      | (with_reducible exact ih0 _)
      | (with_reducible exact ih1 _)
      | (with_reducible exact ih2 _)
      | (with_reducible exact ih3 _)
      | (with_reducible exact ih4 _ _)
      | (with_reducible exact ih5 _ _ _)
      | (with_reducible exact fields_Find.mono _ _ _)
      | (with_reducible exact LeO.refl _)
      | (with_reducible exact LeO.none _)
      | (with_reducible refine LeO.ite ?_ ?_)
      | (with_reducible refine LeO.bind ?_ (fun _ => ?_))
      | exact ih0 _
      | exact ih1 _
      | exact ih2 _
      | exact ih3 _
      | exact ih4 _ _
      | exact ih5 _ _ _
      | exact fields_Find.mono _ _ _
      | exact LeO.none _
      | refine LeO.ite ?_ ?_
      | refine LeO.bind ?_ (fun _ => ?_)
set_option maxHeartbeats 8000000 in
set_option maxRecDepth 100000 in
theorem vouchlaw13_FieldsKnown.calls (k : Nat)  (r : Bool) (w : World) (h : vouchlaw13_FieldsKnown.f k  = some r) :
    Calls Try.prog 10 #[] w fun e w' => e = .returned (.bool r) ∧ Below w.heap.size w w' := by
  have hu28 := Try.underlying28
  have HB := Aside0.mk (Below.refl w.heap.size w)
  have H : (vouchlaw13_FieldsKnown.l0 k (⟨#[65, 117, 116, 104, 111, 114, 105, 122, 101, 114, 58]⟩ : ByteArray)) = some r := h
  clear h
  have H' := Aside0.mk H
  clear H
  go_enter Try.func10, Try.ntmps10
  go_wp2
  go_loopg [1] k (fun kq v1 w' => ∃ (x1_1 : ByteArray), v1 = .string x1_1 ∧ Aside0 (vouchlaw13_FieldsKnown.l0 kq x1_1 = some r) ∧ Aside0 (kq ≤ k) ∧ Aside0 (Below w.heap.size w w'))
  case atStart => exact ⟨((⟨#[65, 117, 116, 104, 111, 114, 105, 122, 101, 114, 58]⟩ : ByteArray)), (by first | rfl | (simp; done) | (simp [*]; done) | (repeat (first | rfl | (unfold wrap64; omega) | congr 1))), H', ⟨Nat.le_refl _⟩, ⟨by repeat (first | (with_reducible first | exact HB.out | apply below_alloc | apply pw_below_drewN | apply below_drew1) | exact HB.out)⟩⟩
  case round =>
    clear H'
    obtain ⟨x1_1, rfl, HA, HK1, HB⟩ := hrel
    cases gk with
    | zero => exact absurd HA.out (by simp [vouchlaw13_FieldsKnown.l0])
    | succ k1 =>
      have H := HA.out
      clear HA
      simp only [vouchlaw13_FieldsKnown.l0] at H
      by_cases c1 : x1_1.size < 65536
      · rw [if_pos c1] at H
        have c1b0 : decide ((x1_1.size : Int) < 65536) = true := decide_eq_true (by omega)
        have c1b1 : decide (x1_1.size < 65536) = true := decide_eq_true (by omega)
        clear c1
        by_cases c2 : 11 ≤ (x1_1.size : Int)
        · rw [if_pos c2] at H
          have c2b0 := eq_true c2
          have c2b1 : decide (11 ≤ (x1_1.size : Int)) = true := decide_eq_true c2
          clear c2
          by_cases c3 : x1_1.size + (x1_1.extract 11 x1_1.size).size ≤ 9223372036854775807
          · rw [if_pos c3] at H
            have c3b0 := eq_true c3
            have c3b1 : decide (x1_1.size + (x1_1.extract 11 x1_1.size).size ≤ 9223372036854775807) = true := decide_eq_true c3
            try have c3b2 : (9223372036854775807 < x1_1.size + (x1_1.extract 11 x1_1.size).size) = False := eq_false (Nat.not_lt.2 c3)
            by_cases c4 : (x1_1 ++ (x1_1.extract 11 x1_1.size)).size + 1 ≤ 9223372036854775807
            · rw [if_pos c4] at H
              have c4b0 := eq_true c4
              have c4b1 : decide ((x1_1 ++ (x1_1.extract 11 x1_1.size)).size + 1 ≤ 9223372036854775807) = true := decide_eq_true c4
              have c4b3 : (9223372036854775807 < x1_1.size + (x1_1.extract 11 x1_1.size).size + 1) = False := eq_false (Nat.not_lt.2 (by have h_ := c4; simp only [ByteArray.size_append] at h_; exact h_))
              try have c4b2 : (9223372036854775807 < (x1_1 ++ (x1_1.extract 11 x1_1.size)).size + 1) = False := eq_false (Nat.not_lt.2 c4)
              have c4b5 : (x1_1.extract 11 x1_1.size).size = x1_1.size - 11 := by simp [ByteArray.size_extract]
              have c4b4 : (9223372036854775807 < x1_1.size + (x1_1.size - 11) + 1) = False := eq_false (Nat.not_lt.2 (by have h_ := c4; simp only [ByteArray.size_append] at h_; rw [c4b5] at h_; exact h_))
              have c4b6 : ((x1_1 ++ (x1_1.extract 11 x1_1.size)) ++ (⟨#[32]⟩ : ByteArray)).size = x1_1.size + (x1_1.size - 11) + 1 := by rw [ByteArray.size_append, ByteArray.size_append, c4b5]; rfl
              have c4b7 := Aside0.mk c4b6
              clear c4b5 c4b6
              by_cases c5 : (((x1_1 ++ (x1_1.extract 11 x1_1.size)) ++ (⟨#[32]⟩ : ByteArray)).size : Int) > 65536
              · rw [if_pos c5] at H
                have c5b0 : decide (65536 < (((x1_1 ++ (x1_1.extract 11 x1_1.size)) ++ (⟨#[32]⟩ : ByteArray)).size : Int)) = true := decide_eq_true c5
                have c5b1 : decide (65536 < ((x1_1 ++ (x1_1.extract 11 x1_1.size)) ++ (⟨#[32]⟩ : ByteArray)).size) = true := decide_eq_true (by omega)
                have c5n : 65536 < x1_1.size + (x1_1.size - 11) + 1 := by have h_ := c4b7.out; omega
                have c5f0 : decide (65536 < ((x1_1.size + (x1_1.size - 11) + 1 : Nat) : Int)) = true := decide_eq_true (by omega)
                have c5f1 : decide (65536 < (x1_1.size : Int) + ((x1_1.size - 11 : Nat) : Int) + 1) = true := decide_eq_true (by omega)
                have c5f2 : decide (65536 < x1_1.size + (x1_1.size - 11) + 1) = true := decide_eq_true (by omega)
                clear c5 c5n
                by_cases c6 : 0 ≤ 65536
                · rw [if_pos c6] at H
                  have c6b0 := eq_true c6
                  have c6b1 : decide (0 ≤ 65536) = true := decide_eq_true c6
                  clear c6
                  by_cases c7 : 65536 ≤ (((x1_1 ++ (x1_1.extract 11 x1_1.size)) ++ (⟨#[32]⟩ : ByteArray)).size : Int)
                  · rw [if_pos c7] at H
                    have c7b0 := eq_true c7
                    have c7b1 : decide (65536 ≤ (((x1_1 ++ (x1_1.extract 11 x1_1.size)) ++ (⟨#[32]⟩ : ByteArray)).size : Int)) = true := decide_eq_true c7
                    have c7n : 65536 ≤ x1_1.size + (x1_1.size - 11) + 1 := by have h_ := c4b7.out; omega
                    have c7f0 := eq_true c7n
                    have c7f1 : ((65536 : Int) ≤ ((x1_1.size + (x1_1.size - 11) + 1 : Nat) : Int)) = True := eq_true (by omega)
                    have c7f2 : ((65536 : Int) ≤ (x1_1.size : Int) + ((x1_1.size - 11 : Nat) : Int) + 1) = True := eq_true (by omega)
                    clear c7n
                    have H' := Aside0.mk H
                    clear H
                    go_wp2
                    go_roundg k1
                    case measure => have := HK1.out; omega
                    case rel => exact ⟨(((x1_1 ++ (x1_1.extract 11 x1_1.size)) ++ (⟨#[32]⟩ : ByteArray)).extract 0 65536), (by first | rfl | (simp; done) | (simp [*]; done) | (repeat (first | rfl | (unfold wrap64; omega) | congr 1))), H', ⟨by have := HK1.out; omega⟩, ⟨by repeat (first | (with_reducible first | exact HB.out | apply below_alloc | apply pw_below_drewN | apply below_drew1) | exact HB.out)⟩⟩
                  · rw [if_neg c7] at H
                    exact absurd H (by simp)
                · rw [if_neg c6] at H
                  exact absurd H (by simp)
              · rw [if_neg c5] at H
                have c5b0 : decide (65536 < (((x1_1 ++ (x1_1.extract 11 x1_1.size)) ++ (⟨#[32]⟩ : ByteArray)).size : Int)) = false := decide_eq_false c5
                have c5b1 : decide (65536 < ((x1_1 ++ (x1_1.extract 11 x1_1.size)) ++ (⟨#[32]⟩ : ByteArray)).size) = false := decide_eq_false (by omega)
                have c5n : ¬ 65536 < x1_1.size + (x1_1.size - 11) + 1 := by have h_ := c4b7.out; omega
                have c5f0 : decide (65536 < ((x1_1.size + (x1_1.size - 11) + 1 : Nat) : Int)) = false := decide_eq_false (by omega)
                have c5f1 : decide (65536 < (x1_1.size : Int) + ((x1_1.size - 11 : Nat) : Int) + 1) = false := decide_eq_false (by omega)
                have c5f2 : decide (65536 < x1_1.size + (x1_1.size - 11) + 1) = false := decide_eq_false (by omega)
                clear c5 c5n
                have H' := Aside0.mk H
                clear H
                go_wp2
                go_roundg k1
                case measure => have := HK1.out; omega
                case rel => exact ⟨((x1_1 ++ (x1_1.extract 11 x1_1.size)) ++ (⟨#[32]⟩ : ByteArray)), (by first | rfl | (simp; done) | (simp [*]; done) | (repeat (first | rfl | (unfold wrap64; omega) | congr 1))), H', ⟨by have := HK1.out; omega⟩, ⟨by repeat (first | (with_reducible first | exact HB.out | apply below_alloc | apply pw_below_drewN | apply below_drew1) | exact HB.out)⟩⟩
            · rw [if_neg c4] at H
              exact absurd H (by simp)
          · rw [if_neg c3] at H
            exact absurd H (by simp)
        · rw [if_neg c2] at H
          exact absurd H (by simp)
      · rw [if_neg c1] at H
        have c1b0 : decide ((x1_1.size : Int) < 65536) = false := decide_eq_false (by omega)
        have c1b1 : decide (x1_1.size < 65536) = false := decide_eq_false (by omega)
        clear c1
        replace H := Option.bind_eq_some_iff.mp H
        obtain ⟨⟨t321, t322, t323⟩, A80, H⟩ := H
        replace H : (if t323 = 0 then (if (t321.length : Int) = 1 then (if 0 < (t321.length : Int) then (if ((rd_T28 t321 0).f3) = 65536 then (if x1_1.size + 1 ≤ 9223372036854775807 then ((vouchlaw13_split.f (x1_1 ++ (⟨#[32]⟩ : ByteArray)) 3 0).bind fun t327 => (vouchlaw13_FieldsKnown.j1 k1 (!t327))) else (none)) else (vouchlaw13_FieldsKnown.j1 k1 true)) else (none)) else (vouchlaw13_FieldsKnown.j1 k1 true)) else (vouchlaw13_FieldsKnown.j1 k1 true)) = some r := H
        have A8 := Aside0.mk A80
        clear A80
        have HC9 := Aside0.mk H
        clear H
        go_upto_region 7 with (first | ((with_reducible refine gate_callee (f := 12) rfl ?_); refine goesL_ (some 37) rfl rfl Try.func12 (by kernel_rfl) rfl #[.string x1_1] rfl (by (try simp only [List.map_toArray, List.map_cons, List.map_nil]); first | done | rfl | (simp only [List.length_drop, List.length_take]; rfl)) ?_; (with_reducible refine (fields_Split.calls x1_1 t321 t322 t323 _ A8.out).mono ?_); rintro e w10 ⟨v324, rfl, ho0, hb⟩; refine ⟨_, rfl, ?_⟩; have n0_ := Aside0.mk (Kd.R_lower ho0 (below_size (by repeat (first | (with_reducible first | exact HB.out | apply below_alloc | apply pw_below_drewN | apply below_drew1) | exact HB.out)))); have n1_ := Aside0.mk (below_step (by repeat (first | (with_reducible first | exact HB.out | apply below_alloc | apply pw_below_drewN | apply below_drew1) | exact HB.out)) hb); clear HB; have HO325 := n0_; have HB := n1_; clear n0_ n1_; (try clear hb); (try clear hb2); (try clear hk); (try clear hi); (try clear ho0)))
        (try simp only [Act.put, List.setIfInBounds_toArray, List.set_cons_zero, List.set_cons_succ])
        go_cut [60] (fun v60 wc => ∃ (kq : Nat) (x60_8 : Bool), v60 = .bool x60_8 ∧ Aside0 (vouchlaw13_FieldsKnown.j1 kq x60_8 = some r) ∧ Aside0 (kq ≤ k1) ∧ Aside0 (Below w.heap.size w wc))
        case first => as_aux_lemma =>
          have H := HC9.out
          clear HC9
          by_cases c11 : t323 = 0
          · rw [if_pos c11] at H
            have c11b0 : (t323 == 0) = true := beq_iff_eq.mpr c11
            have c11b1 : (t323 != 0) = false := bne_eq_false_iff_eq.mpr c11
            clear c11
            (first | rw [c11b0] | (simp only [i64_w, i32_w]; rw [c11b0]) | skip)
            by_cases c12 : (t321.length : Int) = 1
            · rw [if_pos c12] at H
              have c12b0 : ((t321.length : Int) == 1) = true := beq_iff_eq.mpr c12
              have c12b1 : ((t321.length : Int) != 1) = false := bne_eq_false_iff_eq.mpr c12
              clear c12
              by_cases c13 : 0 < (t321.length : Int)
              · rw [if_pos c13] at H
                have c13b0 : decide (0 < (t321.length : Int)) = true := decide_eq_true c13
                have c13b1 : decide (0 < t321.length) = true := decide_eq_true (by omega)
                clear c13
                by_cases c14 : ((rd_T28 t321 0).f3) = 65536
                · rw [if_pos c14] at H
                  have c14b0 : (((rd_T28 t321 0).f3) == 65536) = true := beq_iff_eq.mpr c14
                  have c14b1 : (((rd_T28 t321 0).f3) != 65536) = false := bne_eq_false_iff_eq.mpr c14
                  clear c14
                  by_cases c15 : x1_1.size + 1 ≤ 9223372036854775807
                  · rw [if_pos c15] at H
                    have c15b0 := eq_true c15
                    have c15b1 : decide (x1_1.size + 1 ≤ 9223372036854775807) = true := decide_eq_true c15
                    try have c15b2 : (9223372036854775807 < x1_1.size + 1) = False := eq_false (Nat.not_lt.2 c15)
                    replace H := Option.bind_eq_some_iff.mp H
                    obtain ⟨t327, A160, H⟩ := H
                    replace H : (vouchlaw13_FieldsKnown.j1 k1 (!t327)) = some r := H
                    have A16 := Aside0.mk A160
                    clear A160
                    have H' := Aside0.mk H
                    clear H
                    obtain ⟨Ao17, co17, eo17⟩ := Kd.R_slice HO325.out
                    subst eo17
                    have p326 : 0 ≤ (0 : Int) := (by omega)
                    have q326 : 0 < (t321.length : Int) := of_decide_eq_true (by first | (with_reducible assumption) | assumption)
                    obtain ⟨ad326, e326, hx326_0, hx326_1, hx326_2, hx326_3⟩ := at_T28 (Kd.R_reads' HO325.out).2.2 0 p326 q326
                    cases e326
                    have qi326 : (0 < t321.length) = True := eq_true (by omega)
                    (try rw [show ((0 : Int)).toNat = 0 from rfl] at hx326_0)
                    (try rw [show 0 * 4 = 0 from rfl] at hx326_0)
                    (try rw [Addr.add_zero'] at hx326_0)
                    (try rw [show ((0 : Int)).toNat = 0 from rfl] at hx326_1)
                    (try rw [show 0 * 4 = 0 from rfl] at hx326_1)
                    (try rw [Addr.add_zero'] at hx326_1)
                    (try rw [show ((0 : Int)).toNat = 0 from rfl] at hx326_2)
                    (try rw [show 0 * 4 = 0 from rfl] at hx326_2)
                    (try rw [Addr.add_zero'] at hx326_2)
                    (try rw [show ((0 : Int)).toNat = 0 from rfl] at hx326_3)
                    (try rw [show 0 * 4 = 0 from rfl] at hx326_3)
                    (try rw [Addr.add_zero'] at hx326_3)
                    replace p326 := eq_true p326
                    replace q326 := eq_true q326
                    go_wp2_with (first | (go_at_call 25; (with_reducible refine (vouchlaw13_split.calls (x1_1 ++ (⟨#[32]⟩ : ByteArray)) 3 0 t327 _ A16.out).mono ?_); rintro e w18 ⟨rfl, hb⟩; have n0_ := Aside0.mk (Kd.R_below (by (with_reducible repeat (first | apply Kd.R_alloc | apply Kd.R_drewN | apply Kd.R_drew)); exact HO325.out) hb); have n1_ := Aside0.mk (below_step (by repeat (first | (with_reducible first | exact HB.out | apply below_alloc | apply pw_below_drewN | apply below_drew1) | exact HB.out)) hb); clear HO325; clear HB; have HO325 := n0_; have HB := n1_; clear n0_ n1_; (try clear hb); (try clear hb2); (try clear hk); (try clear hi)))
                    go_meet
                    case rel => exact ⟨_, (!t327), (by first | rfl | (simp; done) | (simp [*]; done) | (repeat (first | rfl | (unfold wrap64; omega) | congr 1))), H', ⟨by have := HK1.out; first | omega | exact Nat.le_refl _⟩, ⟨by repeat (first | (with_reducible first | exact HB.out | apply below_alloc | apply pw_below_drewN | apply below_drew1) | exact HB.out)⟩⟩
                  · rw [if_neg c15] at H
                    exact absurd H (by simp)
                · rw [if_neg c14] at H
                  have c14b0 : (((rd_T28 t321 0).f3) == 65536) = false := beq_eq_false_iff_ne.mpr c14
                  have c14b1 : (((rd_T28 t321 0).f3) != 65536) = true := bne_iff_ne.mpr c14
                  have H' := Aside0.mk H
                  clear H
                  obtain ⟨Ao19, co19, eo19⟩ := Kd.R_slice HO325.out
                  subst eo19
                  have p326 : 0 ≤ (0 : Int) := (by omega)
                  have q326 : 0 < (t321.length : Int) := of_decide_eq_true (by first | (with_reducible assumption) | assumption)
                  obtain ⟨ad326, e326, hx326_0, hx326_1, hx326_2, hx326_3⟩ := at_T28 (Kd.R_reads' HO325.out).2.2 0 p326 q326
                  cases e326
                  have qi326 : (0 < t321.length) = True := eq_true (by omega)
                  (try rw [show ((0 : Int)).toNat = 0 from rfl] at hx326_0)
                  (try rw [show 0 * 4 = 0 from rfl] at hx326_0)
                  (try rw [Addr.add_zero'] at hx326_0)
                  (try rw [show ((0 : Int)).toNat = 0 from rfl] at hx326_1)
                  (try rw [show 0 * 4 = 0 from rfl] at hx326_1)
                  (try rw [Addr.add_zero'] at hx326_1)
                  (try rw [show ((0 : Int)).toNat = 0 from rfl] at hx326_2)
                  (try rw [show 0 * 4 = 0 from rfl] at hx326_2)
                  (try rw [Addr.add_zero'] at hx326_2)
                  (try rw [show ((0 : Int)).toNat = 0 from rfl] at hx326_3)
                  (try rw [show 0 * 4 = 0 from rfl] at hx326_3)
                  (try rw [Addr.add_zero'] at hx326_3)
                  replace p326 := eq_true p326
                  replace q326 := eq_true q326
                  go_wp2
                  go_meet
                  case rel => exact ⟨_, (true), (by first | rfl | (simp; done) | (simp [*]; done) | (repeat (first | rfl | (unfold wrap64; omega) | congr 1))), H', ⟨by have := HK1.out; first | omega | exact Nat.le_refl _⟩, ⟨by repeat (first | (with_reducible first | exact HB.out | apply below_alloc | apply pw_below_drewN | apply below_drew1) | exact HB.out)⟩⟩
              · rw [if_neg c13] at H
                exact absurd H (by simp)
            · rw [if_neg c12] at H
              have c12b0 : ((t321.length : Int) == 1) = false := beq_eq_false_iff_ne.mpr c12
              have c12b1 : ((t321.length : Int) != 1) = true := bne_iff_ne.mpr c12
              have H' := Aside0.mk H
              clear H
              obtain ⟨Ao20, co20, eo20⟩ := Kd.R_slice HO325.out
              subst eo20
              go_wp2
              go_meet
              case rel => exact ⟨_, (true), (by first | rfl | (simp; done) | (simp [*]; done) | (repeat (first | rfl | (unfold wrap64; omega) | congr 1))), H', ⟨by have := HK1.out; first | omega | exact Nat.le_refl _⟩, ⟨by repeat (first | (with_reducible first | exact HB.out | apply below_alloc | apply pw_below_drewN | apply below_drew1) | exact HB.out)⟩⟩
          · rw [if_neg c11] at H
            have c11b0 : (t323 == 0) = false := beq_eq_false_iff_ne.mpr c11
            have c11b1 : (t323 != 0) = true := bne_iff_ne.mpr c11
            (first | rw [c11b0] | (simp only [i64_w, i32_w]; rw [c11b0]) | skip)
            have H' := Aside0.mk H
            clear H
            go_wp2
            go_meet
            case rel => exact ⟨_, (true), (by first | rfl | (simp; done) | (simp [*]; done) | (repeat (first | rfl | (unfold wrap64; omega) | congr 1))), H', ⟨by have := HK1.out; first | omega | exact Nat.le_refl _⟩, ⟨by repeat (first | (with_reducible first | exact HB.out | apply below_alloc | apply pw_below_drewN | apply below_drew1) | exact HB.out)⟩⟩
        case rest => as_aux_lemma =>
          clear HC9
          try clear c1
          try clear c1b0
          try clear c1b1
          try clear c2
          try clear c2b0
          try clear c2b1
          try clear p2
          try clear c3
          try clear c3b0
          try clear c3b1
          try clear c3b2
          try clear p3
          try clear q3
          try clear hx3
          try clear qi3
          try clear c4
          try clear c4b0
          try clear c4b1
          try clear c4b2
          try clear c5
          try clear c5b0
          try clear c5b1
          try clear c6
          try clear c6b0
          try clear c6b1
          try clear c7
          try clear c7b0
          try clear c7b1
          try clear c10
          try clear c11
          try clear c11b0
          try clear c11b1
          try clear c12
          try clear c12b0
          try clear c12b1
          try clear c13
          try clear c13b0
          try clear c13b1
          try clear c14
          try clear c14b0
          try clear c14b1
          try clear c15
          try clear c15b0
          try clear c15b1
          try clear c15b2
          try clear hx326_0
          try clear hx326_1
          try clear hx326_2
          try clear hx326_3
          try clear p326
          try clear q326
          obtain ⟨kq, x60_8, rfl, HA, HJ8, HB⟩ := hcut
          cases kq with
          | zero => exact absurd HA.out (by simp [vouchlaw13_FieldsKnown.j1])
          | succ kj8 =>
            have H := HA.out
            clear HA
            simp only [vouchlaw13_FieldsKnown.j1] at H
            by_cases c21 : x60_8 = true
            · subst c21
              have H1 : (some false) = some r := by rw [if_pos rfl] at H; exact H
              clear H
              have H := H1
              clear H1
              obtain rfl := Option.some.inj H
              go_wp2
              go_ret
              exact ⟨by first | rfl | (simp [errW_none, errW_some] <;> rfl) | (simp [*, errW_none, errW_some] <;> rfl), by repeat (first | (with_reducible first | exact HB.out | apply below_alloc | apply pw_below_drewN | apply below_drew1) | exact HB.out)⟩
            · replace c21 := Bool.eq_false_iff.mpr c21
              subst c21
              have H1 : ((fields_Split.f (⟨#[65, 85, 84, 72, 79, 82, 73, 90, 69, 82, 58, 10, 32, 120, 10, 108, 105, 99, 101, 110, 115, 101, 101, 115, 58, 10]⟩ : ByteArray)).bind fun bt328 => (if bt328.2.2 = 0 then (if (bt328.1.length : Int) = 2 then (if 0 < (bt328.1.length : Int) then (if (!(((rd_T28 bt328.1 0).f0) == 2) || (!(((rd_T28 bt328.1 0).f1) == 0) || (!(((rd_T28 bt328.1 0).f2) == 11) || (!(((rd_T28 bt328.1 0).f3) == 15))))) = true then (vouchlaw13_FieldsKnown.j2 kj8 true) else (if 1 < (bt328.1.length : Int) then (vouchlaw13_FieldsKnown.j2 kj8 (!(((rd_T28 bt328.1 1).f0) == 3) || (!(((rd_T28 bt328.1 1).f1) == 15) || (!(((rd_T28 bt328.1 1).f2) == 25) || (!(((rd_T28 bt328.1 1).f3) == 26)))))) else (none))) else (none)) else (vouchlaw13_FieldsKnown.j2 kj8 true)) else (vouchlaw13_FieldsKnown.j2 kj8 true))) = some r := by rw [if_neg (show ¬ (false = true) by decide)] at H; exact H
              clear H
              have H := H1
              clear H1
              replace H := Option.bind_eq_some_iff.mp H
              obtain ⟨⟨t328, t329, t330⟩, A220, H⟩ := H
              replace H : (if t330 = 0 then (if (t328.length : Int) = 2 then (if 0 < (t328.length : Int) then (if (!(((rd_T28 t328 0).f0) == 2) || (!(((rd_T28 t328 0).f1) == 0) || (!(((rd_T28 t328 0).f2) == 11) || (!(((rd_T28 t328 0).f3) == 15))))) = true then (vouchlaw13_FieldsKnown.j2 kj8 true) else (if 1 < (t328.length : Int) then (vouchlaw13_FieldsKnown.j2 kj8 (!(((rd_T28 t328 1).f0) == 3) || (!(((rd_T28 t328 1).f1) == 15) || (!(((rd_T28 t328 1).f2) == 25) || (!(((rd_T28 t328 1).f3) == 26)))))) else (none))) else (none)) else (vouchlaw13_FieldsKnown.j2 kj8 true)) else (vouchlaw13_FieldsKnown.j2 kj8 true)) = some r := H
              have A22 := Aside0.mk A220
              clear A220
              have HC23 := Aside0.mk H
              clear H
              go_upto_region 10 with (first | ((with_reducible refine gate_callee (f := 12) rfl ?_); refine goesL_ (some 62) rfl rfl Try.func12 (by kernel_rfl) rfl #[.string (⟨#[65, 85, 84, 72, 79, 82, 73, 90, 69, 82, 58, 10, 32, 120, 10, 108, 105, 99, 101, 110, 115, 101, 101, 115, 58, 10]⟩ : ByteArray)] rfl (by (try simp only [List.map_toArray, List.map_cons, List.map_nil]); first | done | rfl | (simp only [List.length_drop, List.length_take]; rfl)) ?_; (with_reducible refine (fields_Split.calls (⟨#[65, 85, 84, 72, 79, 82, 73, 90, 69, 82, 58, 10, 32, 120, 10, 108, 105, 99, 101, 110, 115, 101, 101, 115, 58, 10]⟩ : ByteArray) t328 t329 t330 _ A22.out).mono ?_); rintro e w24 ⟨v331, rfl, ho0, hb⟩; refine ⟨_, rfl, ?_⟩; have n0_ := Aside0.mk (Kd.R_lower ho0 (below_size (by repeat (first | (with_reducible first | exact HB.out | apply below_alloc | apply pw_below_drewN | apply below_drew1) | exact HB.out)))); have n1_ := Aside0.mk (below_step (by repeat (first | (with_reducible first | exact HB.out | apply below_alloc | apply pw_below_drewN | apply below_drew1) | exact HB.out)) hb); clear HB; have HO332 := n0_; have HB := n1_; clear n0_ n1_; (try clear hb); (try clear hb2); (try clear hk); (try clear hi); (try clear ho0)))
              (try simp only [Act.put, List.setIfInBounds_toArray, List.set_cons_zero, List.set_cons_succ])
              go_cut [86] (fun v86 wc => ∃ (kq : Nat) (x86_22 : Bool), v86 = .bool x86_22 ∧ Aside0 (vouchlaw13_FieldsKnown.j2 kq x86_22 = some r) ∧ Aside0 (kq ≤ kj8) ∧ Aside0 (Below w.heap.size w wc))
              case first => as_aux_lemma =>
                have H := HC23.out
                clear HC23
                by_cases c25 : t330 = 0
                · rw [if_pos c25] at H
                  have c25b0 : (t330 == 0) = true := beq_iff_eq.mpr c25
                  have c25b1 : (t330 != 0) = false := bne_eq_false_iff_eq.mpr c25
                  clear c25
                  (first | rw [c25b0] | (simp only [i64_w, i32_w]; rw [c25b0]) | skip)
                  by_cases c26 : (t328.length : Int) = 2
                  · rw [if_pos c26] at H
                    have c26b0 : ((t328.length : Int) == 2) = true := beq_iff_eq.mpr c26
                    have c26b1 : ((t328.length : Int) != 2) = false := bne_eq_false_iff_eq.mpr c26
                    clear c26
                    by_cases c27 : 0 < (t328.length : Int)
                    · rw [if_pos c27] at H
                      have c27b0 : decide (0 < (t328.length : Int)) = true := decide_eq_true c27
                      have c27b1 : decide (0 < t328.length) = true := decide_eq_true (by omega)
                      clear c27
                      by_cases c28 : (!(((rd_T28 t328 0).f0) == 2) || (!(((rd_T28 t328 0).f1) == 0) || (!(((rd_T28 t328 0).f2) == 11) || (!(((rd_T28 t328 0).f3) == 15))))) = true
                      · rw [if_pos c28] at H
                        have c28b0 : (!(((rd_T28 t328 0).f0) == 2) || (!(((rd_T28 t328 0).f1) == 0) || (!(((rd_T28 t328 0).f2) == 11) || (!(((rd_T28 t328 0).f3) == 15))))) = true := c28
                        clear c28
                        have H' := Aside0.mk H
                        clear H
                        obtain ⟨Ao29, co29, eo29⟩ := Kd.R_slice HO332.out
                        subst eo29
                        have p333 : 0 ≤ (0 : Int) := (by omega)
                        have q333 : 0 < (t328.length : Int) := of_decide_eq_true (by first | (with_reducible assumption) | assumption)
                        obtain ⟨ad333, e333, hx333_0, hx333_1, hx333_2, hx333_3⟩ := at_T28 (Kd.R_reads' HO332.out).2.2 0 p333 q333
                        cases e333
                        have qi333 : (0 < t328.length) = True := eq_true (by omega)
                        (try rw [show ((0 : Int)).toNat = 0 from rfl] at hx333_0)
                        (try rw [show 0 * 4 = 0 from rfl] at hx333_0)
                        (try rw [Addr.add_zero'] at hx333_0)
                        (try rw [show ((0 : Int)).toNat = 0 from rfl] at hx333_1)
                        (try rw [show 0 * 4 = 0 from rfl] at hx333_1)
                        (try rw [Addr.add_zero'] at hx333_1)
                        (try rw [show ((0 : Int)).toNat = 0 from rfl] at hx333_2)
                        (try rw [show 0 * 4 = 0 from rfl] at hx333_2)
                        (try rw [Addr.add_zero'] at hx333_2)
                        (try rw [show ((0 : Int)).toNat = 0 from rfl] at hx333_3)
                        (try rw [show 0 * 4 = 0 from rfl] at hx333_3)
                        (try rw [Addr.add_zero'] at hx333_3)
                        replace p333 := eq_true p333
                        replace q333 := eq_true q333
                        go_wp2
                        go_meet
                        case rel => exact ⟨_, (true), (by first | rfl | (simp; done) | (simp [*]; done) | (repeat (first | rfl | (unfold wrap64; omega) | congr 1))), H', ⟨by have := HK1.out; have := HJ8.out; first | omega | exact Nat.le_refl _⟩, ⟨by repeat (first | (with_reducible first | exact HB.out | apply below_alloc | apply pw_below_drewN | apply below_drew1) | exact HB.out)⟩⟩
                      · rw [if_neg c28] at H
                        have c28b0 : (!(((rd_T28 t328 0).f0) == 2) || (!(((rd_T28 t328 0).f1) == 0) || (!(((rd_T28 t328 0).f2) == 11) || (!(((rd_T28 t328 0).f3) == 15))))) = false := by simpa using c28
                        clear c28
                        by_cases c30 : 1 < (t328.length : Int)
                        · rw [if_pos c30] at H
                          have c30b0 : decide (1 < (t328.length : Int)) = true := decide_eq_true c30
                          have c30b1 : decide (1 < t328.length) = true := decide_eq_true (by omega)
                          clear c30
                          have H' := Aside0.mk H
                          clear H
                          obtain ⟨Ao31, co31, eo31⟩ := Kd.R_slice HO332.out
                          subst eo31
                          have p333 : 0 ≤ (0 : Int) := (by omega)
                          have q333 : 0 < (t328.length : Int) := of_decide_eq_true (by first | (with_reducible assumption) | assumption)
                          obtain ⟨ad333, e333, hx333_0, hx333_1, hx333_2, hx333_3⟩ := at_T28 (Kd.R_reads' HO332.out).2.2 0 p333 q333
                          cases e333
                          have qi333 : (0 < t328.length) = True := eq_true (by omega)
                          (try rw [show ((0 : Int)).toNat = 0 from rfl] at hx333_0)
                          (try rw [show 0 * 4 = 0 from rfl] at hx333_0)
                          (try rw [Addr.add_zero'] at hx333_0)
                          (try rw [show ((0 : Int)).toNat = 0 from rfl] at hx333_1)
                          (try rw [show 0 * 4 = 0 from rfl] at hx333_1)
                          (try rw [Addr.add_zero'] at hx333_1)
                          (try rw [show ((0 : Int)).toNat = 0 from rfl] at hx333_2)
                          (try rw [show 0 * 4 = 0 from rfl] at hx333_2)
                          (try rw [Addr.add_zero'] at hx333_2)
                          (try rw [show ((0 : Int)).toNat = 0 from rfl] at hx333_3)
                          (try rw [show 0 * 4 = 0 from rfl] at hx333_3)
                          (try rw [Addr.add_zero'] at hx333_3)
                          replace p333 := eq_true p333
                          replace q333 := eq_true q333
                          have p334 : 0 ≤ (1 : Int) := (by omega)
                          have q334 : 1 < (t328.length : Int) := of_decide_eq_true (by first | (with_reducible assumption) | assumption)
                          obtain ⟨ad334, e334, hx334_0, hx334_1, hx334_2, hx334_3⟩ := at_T28 (Kd.R_reads' HO332.out).2.2 1 p334 q334
                          obtain rfl : ad333 = ad334 := (by injection e334)
                          (try simp only [show (1 : Int).toNat = 1 from rfl, Nat.reduceMul, Nat.reduceEqDiff, Go.Addr.add, ↓reduceIte] at hx334_0)
                          (try simp only [show (1 : Int).toNat = 1 from rfl, Nat.reduceMul, Nat.reduceEqDiff, Go.Addr.add, ↓reduceIte] at hx334_1)
                          (try simp only [show (1 : Int).toNat = 1 from rfl, Nat.reduceMul, Nat.reduceEqDiff, Go.Addr.add, ↓reduceIte] at hx334_2)
                          (try simp only [show (1 : Int).toNat = 1 from rfl, Nat.reduceMul, Nat.reduceEqDiff, Go.Addr.add, ↓reduceIte] at hx334_3)
                          have qi334 : (1 < t328.length) = True := eq_true (by omega)
                          (try rw [show ((1 : Int)).toNat = 1 from rfl] at hx334_0)
                          (try rw [show 1 * 4 = 4 from rfl] at hx334_0)
                          (try rw [show ((1 : Int)).toNat = 1 from rfl] at hx334_1)
                          (try rw [show 1 * 4 = 4 from rfl] at hx334_1)
                          (try rw [show ((1 : Int)).toNat = 1 from rfl] at hx334_2)
                          (try rw [show 1 * 4 = 4 from rfl] at hx334_2)
                          (try rw [show ((1 : Int)).toNat = 1 from rfl] at hx334_3)
                          (try rw [show 1 * 4 = 4 from rfl] at hx334_3)
                          replace p334 := eq_true p334
                          replace q334 := eq_true q334
                          go_wp2
                          go_meet
                          case rel => exact ⟨_, ((!(((rd_T28 t328 1).f0) == 3) || (!(((rd_T28 t328 1).f1) == 15) || (!(((rd_T28 t328 1).f2) == 25) || (!(((rd_T28 t328 1).f3) == 26)))))), (by first | rfl | (simp; done) | (simp [*]; done) | (repeat (first | rfl | (unfold wrap64; omega) | congr 1))), H', ⟨by have := HK1.out; have := HJ8.out; first | omega | exact Nat.le_refl _⟩, ⟨by repeat (first | (with_reducible first | exact HB.out | apply below_alloc | apply pw_below_drewN | apply below_drew1) | exact HB.out)⟩⟩
                        · rw [if_neg c30] at H
                          exact absurd H (by simp)
                    · rw [if_neg c27] at H
                      exact absurd H (by simp)
                  · rw [if_neg c26] at H
                    have c26b0 : ((t328.length : Int) == 2) = false := beq_eq_false_iff_ne.mpr c26
                    have c26b1 : ((t328.length : Int) != 2) = true := bne_iff_ne.mpr c26
                    have H' := Aside0.mk H
                    clear H
                    obtain ⟨Ao32, co32, eo32⟩ := Kd.R_slice HO332.out
                    subst eo32
                    go_wp2
                    go_meet
                    case rel => exact ⟨_, (true), (by first | rfl | (simp; done) | (simp [*]; done) | (repeat (first | rfl | (unfold wrap64; omega) | congr 1))), H', ⟨by have := HK1.out; have := HJ8.out; first | omega | exact Nat.le_refl _⟩, ⟨by repeat (first | (with_reducible first | exact HB.out | apply below_alloc | apply pw_below_drewN | apply below_drew1) | exact HB.out)⟩⟩
                · rw [if_neg c25] at H
                  have c25b0 : (t330 == 0) = false := beq_eq_false_iff_ne.mpr c25
                  have c25b1 : (t330 != 0) = true := bne_iff_ne.mpr c25
                  (first | rw [c25b0] | (simp only [i64_w, i32_w]; rw [c25b0]) | skip)
                  have H' := Aside0.mk H
                  clear H
                  go_wp2
                  go_meet
                  case rel => exact ⟨_, (true), (by first | rfl | (simp; done) | (simp [*]; done) | (repeat (first | rfl | (unfold wrap64; omega) | congr 1))), H', ⟨by have := HK1.out; have := HJ8.out; first | omega | exact Nat.le_refl _⟩, ⟨by repeat (first | (with_reducible first | exact HB.out | apply below_alloc | apply pw_below_drewN | apply below_drew1) | exact HB.out)⟩⟩
              case rest => as_aux_lemma =>
                clear HC23
                try clear c1
                try clear c1b0
                try clear c1b1
                try clear c2
                try clear c2b0
                try clear c2b1
                try clear p2
                try clear c3
                try clear c3b0
                try clear c3b1
                try clear c3b2
                try clear p3
                try clear q3
                try clear hx3
                try clear qi3
                try clear c4
                try clear c4b0
                try clear c4b1
                try clear c4b2
                try clear c5
                try clear c5b0
                try clear c5b1
                try clear c6
                try clear c6b0
                try clear c6b1
                try clear c7
                try clear c7b0
                try clear c7b1
                try clear c10
                try clear c11
                try clear c11b0
                try clear c11b1
                try clear c12
                try clear c12b0
                try clear c12b1
                try clear c13
                try clear c13b0
                try clear c13b1
                try clear c14
                try clear c14b0
                try clear c14b1
                try clear c15
                try clear c15b0
                try clear c15b1
                try clear c15b2
                try clear c21
                try clear c25
                try clear c25b0
                try clear c25b1
                try clear c26
                try clear c26b0
                try clear c26b1
                try clear c27
                try clear c27b0
                try clear c27b1
                try clear c28
                try clear c28b0
                try clear c30
                try clear c30b0
                try clear c30b1
                try clear p32
                try clear q32
                try clear hx32
                try clear qi32
                try clear hx326_0
                try clear hx326_1
                try clear hx326_2
                try clear hx326_3
                try clear hx333_0
                try clear hx333_1
                try clear hx333_2
                try clear hx333_3
                try clear hx334_0
                try clear hx334_1
                try clear hx334_2
                try clear hx334_3
                try clear p2
                try clear p3
                try clear p326
                try clear p333
                try clear p334
                try clear q3
                try clear q326
                try clear q333
                try clear q334
                obtain ⟨kq, x86_22, rfl, HA, HJ22, HB⟩ := hcut
                cases kq with
                | zero => exact absurd HA.out (by simp [vouchlaw13_FieldsKnown.j2])
                | succ kj22 =>
                  have H := HA.out
                  clear HA
                  simp only [vouchlaw13_FieldsKnown.j2] at H
                  by_cases c33 : x86_22 = true
                  · subst c33
                    have H1 : (some false) = some r := by rw [if_pos rfl] at H; exact H
                    clear H
                    have H := H1
                    clear H1
                    obtain rfl := Option.some.inj H
                    go_wp2
                    go_ret
                    exact ⟨by first | rfl | (simp [errW_none, errW_some] <;> rfl) | (simp [*, errW_none, errW_some] <;> rfl), by repeat (first | (with_reducible first | exact HB.out | apply below_alloc | apply pw_below_drewN | apply below_drew1) | exact HB.out)⟩
                  · replace c33 := Bool.eq_false_iff.mpr c33
                    subst c33
                    have H1 : ((vouchlaw13_split.f (⟨#[]⟩ : ByteArray) 131 0).bind fun t335 => (if t335 = true then ((vouchlaw13_split.f (⟨#[32, 65, 117, 116, 104, 111, 114, 105, 122, 101, 114, 58]⟩ : ByteArray) 131 0).bind fun t336 => (if t336 = true then ((vouchlaw13_split.f (⟨#[65, 117, 116, 104, 111, 114, 58]⟩ : ByteArray) 131 0).bind fun t337 => (if t337 = true then ((vouchlaw13_split.f (⟨#[10, 65, 117, 116, 104, 111, 114, 105, 122, 101, 114, 58]⟩ : ByteArray) 131 0).bind fun t338 => (if t338 = true then ((vouchlaw13_split.f (⟨#[67, 111, 109, 109, 101, 110, 116, 58, 10]⟩ : ByteArray) 134 9).bind fun t339 => (vouchlaw13_FieldsKnown.j3 kj22 t339)) else (vouchlaw13_FieldsKnown.j3 kj22 false))) else (vouchlaw13_FieldsKnown.j3 kj22 false))) else (vouchlaw13_FieldsKnown.j3 kj22 false))) else (vouchlaw13_FieldsKnown.j3 kj22 false))) = some r := by rw [if_neg (show ¬ (false = true) by decide)] at H; exact H
                    clear H
                    have H := H1
                    clear H1
                    have HC34 := Aside0.mk H
                    clear H
                    go_upto_region 12 with (fail)
                    go_cut [8] (fun v8 wc => ∃ (kq : Nat) (x8_33 : Bool), v8 = .bool x8_33 ∧ Aside0 (vouchlaw13_FieldsKnown.j3 kq x8_33 = some r) ∧ Aside0 (kq ≤ kj22) ∧ Aside0 (Below w.heap.size w wc))
                    case first => as_aux_lemma =>
                      have H := HC34.out
                      clear HC34
                      replace H := Option.bind_eq_some_iff.mp H
                      obtain ⟨t335, A350, H⟩ := H
                      replace H : (if t335 = true then ((vouchlaw13_split.f (⟨#[32, 65, 117, 116, 104, 111, 114, 105, 122, 101, 114, 58]⟩ : ByteArray) 131 0).bind fun t336 => (if t336 = true then ((vouchlaw13_split.f (⟨#[65, 117, 116, 104, 111, 114, 58]⟩ : ByteArray) 131 0).bind fun t337 => (if t337 = true then ((vouchlaw13_split.f (⟨#[10, 65, 117, 116, 104, 111, 114, 105, 122, 101, 114, 58]⟩ : ByteArray) 131 0).bind fun t338 => (if t338 = true then ((vouchlaw13_split.f (⟨#[67, 111, 109, 109, 101, 110, 116, 58, 10]⟩ : ByteArray) 134 9).bind fun t339 => (vouchlaw13_FieldsKnown.j3 kj22 t339)) else (vouchlaw13_FieldsKnown.j3 kj22 false))) else (vouchlaw13_FieldsKnown.j3 kj22 false))) else (vouchlaw13_FieldsKnown.j3 kj22 false))) else (vouchlaw13_FieldsKnown.j3 kj22 false)) = some r := H
                      have A35 := Aside0.mk A350
                      clear A350
                      by_cases c36 : t335 = true
                      · subst c36
                        have H1 : ((vouchlaw13_split.f (⟨#[32, 65, 117, 116, 104, 111, 114, 105, 122, 101, 114, 58]⟩ : ByteArray) 131 0).bind fun t336 => (if t336 = true then ((vouchlaw13_split.f (⟨#[65, 117, 116, 104, 111, 114, 58]⟩ : ByteArray) 131 0).bind fun t337 => (if t337 = true then ((vouchlaw13_split.f (⟨#[10, 65, 117, 116, 104, 111, 114, 105, 122, 101, 114, 58]⟩ : ByteArray) 131 0).bind fun t338 => (if t338 = true then ((vouchlaw13_split.f (⟨#[67, 111, 109, 109, 101, 110, 116, 58, 10]⟩ : ByteArray) 134 9).bind fun t339 => (vouchlaw13_FieldsKnown.j3 kj22 t339)) else (vouchlaw13_FieldsKnown.j3 kj22 false))) else (vouchlaw13_FieldsKnown.j3 kj22 false))) else (vouchlaw13_FieldsKnown.j3 kj22 false))) = some r := by rw [if_pos rfl] at H; exact H
                        clear H
                        have H := H1
                        clear H1
                        replace H := Option.bind_eq_some_iff.mp H
                        obtain ⟨t336, A370, H⟩ := H
                        replace H : (if t336 = true then ((vouchlaw13_split.f (⟨#[65, 117, 116, 104, 111, 114, 58]⟩ : ByteArray) 131 0).bind fun t337 => (if t337 = true then ((vouchlaw13_split.f (⟨#[10, 65, 117, 116, 104, 111, 114, 105, 122, 101, 114, 58]⟩ : ByteArray) 131 0).bind fun t338 => (if t338 = true then ((vouchlaw13_split.f (⟨#[67, 111, 109, 109, 101, 110, 116, 58, 10]⟩ : ByteArray) 134 9).bind fun t339 => (vouchlaw13_FieldsKnown.j3 kj22 t339)) else (vouchlaw13_FieldsKnown.j3 kj22 false))) else (vouchlaw13_FieldsKnown.j3 kj22 false))) else (vouchlaw13_FieldsKnown.j3 kj22 false)) = some r := H
                        have A37 := Aside0.mk A370
                        clear A370
                        by_cases c38 : t336 = true
                        · subst c38
                          have H1 : ((vouchlaw13_split.f (⟨#[65, 117, 116, 104, 111, 114, 58]⟩ : ByteArray) 131 0).bind fun t337 => (if t337 = true then ((vouchlaw13_split.f (⟨#[10, 65, 117, 116, 104, 111, 114, 105, 122, 101, 114, 58]⟩ : ByteArray) 131 0).bind fun t338 => (if t338 = true then ((vouchlaw13_split.f (⟨#[67, 111, 109, 109, 101, 110, 116, 58, 10]⟩ : ByteArray) 134 9).bind fun t339 => (vouchlaw13_FieldsKnown.j3 kj22 t339)) else (vouchlaw13_FieldsKnown.j3 kj22 false))) else (vouchlaw13_FieldsKnown.j3 kj22 false))) = some r := by rw [if_pos rfl] at H; exact H
                          clear H
                          have H := H1
                          clear H1
                          replace H := Option.bind_eq_some_iff.mp H
                          obtain ⟨t337, A390, H⟩ := H
                          replace H : (if t337 = true then ((vouchlaw13_split.f (⟨#[10, 65, 117, 116, 104, 111, 114, 105, 122, 101, 114, 58]⟩ : ByteArray) 131 0).bind fun t338 => (if t338 = true then ((vouchlaw13_split.f (⟨#[67, 111, 109, 109, 101, 110, 116, 58, 10]⟩ : ByteArray) 134 9).bind fun t339 => (vouchlaw13_FieldsKnown.j3 kj22 t339)) else (vouchlaw13_FieldsKnown.j3 kj22 false))) else (vouchlaw13_FieldsKnown.j3 kj22 false)) = some r := H
                          have A39 := Aside0.mk A390
                          clear A390
                          by_cases c40 : t337 = true
                          · subst c40
                            have H1 : ((vouchlaw13_split.f (⟨#[10, 65, 117, 116, 104, 111, 114, 105, 122, 101, 114, 58]⟩ : ByteArray) 131 0).bind fun t338 => (if t338 = true then ((vouchlaw13_split.f (⟨#[67, 111, 109, 109, 101, 110, 116, 58, 10]⟩ : ByteArray) 134 9).bind fun t339 => (vouchlaw13_FieldsKnown.j3 kj22 t339)) else (vouchlaw13_FieldsKnown.j3 kj22 false))) = some r := by rw [if_pos rfl] at H; exact H
                            clear H
                            have H := H1
                            clear H1
                            replace H := Option.bind_eq_some_iff.mp H
                            obtain ⟨t338, A410, H⟩ := H
                            replace H : (if t338 = true then ((vouchlaw13_split.f (⟨#[67, 111, 109, 109, 101, 110, 116, 58, 10]⟩ : ByteArray) 134 9).bind fun t339 => (vouchlaw13_FieldsKnown.j3 kj22 t339)) else (vouchlaw13_FieldsKnown.j3 kj22 false)) = some r := H
                            have A41 := Aside0.mk A410
                            clear A410
                            by_cases c42 : t338 = true
                            · subst c42
                              have H1 : ((vouchlaw13_split.f (⟨#[67, 111, 109, 109, 101, 110, 116, 58, 10]⟩ : ByteArray) 134 9).bind fun t339 => (vouchlaw13_FieldsKnown.j3 kj22 t339)) = some r := by rw [if_pos rfl] at H; exact H
                              clear H
                              have H := H1
                              clear H1
                              replace H := Option.bind_eq_some_iff.mp H
                              obtain ⟨t339, A430, H⟩ := H
                              replace H : (vouchlaw13_FieldsKnown.j3 kj22 t339) = some r := H
                              have A43 := Aside0.mk A430
                              clear A430
                              have H' := Aside0.mk H
                              clear H
                              go_wp2_with (first | ((with_reducible refine gate_callee (f := 25) rfl ?_); refine goesL_ (some 87) rfl rfl Try.func25 (by kernel_rfl) rfl #[.string (⟨#[]⟩ : ByteArray), .int .i64 131, .int .i64 0] rfl (by (try simp only [List.map_toArray, List.map_cons, List.map_nil]); first | done | rfl | (simp only [List.length_drop, List.length_take]; rfl)) ?_; (with_reducible refine (vouchlaw13_split.calls (⟨#[]⟩ : ByteArray) 131 0 true _ A35.out).mono ?_); rintro e w44 ⟨rfl, hb⟩; refine ⟨_, rfl, ?_⟩; have n0_ := Aside0.mk (below_step (by repeat (first | (with_reducible first | exact HB.out | apply below_alloc | apply pw_below_drewN | apply below_drew1) | exact HB.out)) hb); clear HB; have HB := n0_; clear n0_; (try clear hb); (try clear hb2); (try clear hk); (try clear hi)) | (go_at_call 25; (with_reducible refine (vouchlaw13_split.calls (⟨#[32, 65, 117, 116, 104, 111, 114, 105, 122, 101, 114, 58]⟩ : ByteArray) 131 0 true _ A37.out).mono ?_); rintro e w45 ⟨rfl, hb⟩; have n0_ := Aside0.mk (below_step (by repeat (first | (with_reducible first | exact HB.out | apply below_alloc | apply pw_below_drewN | apply below_drew1) | exact HB.out)) hb); clear HB; have HB := n0_; clear n0_; (try clear hb); (try clear hb2); (try clear hk); (try clear hi)) | (go_at_call 25; (with_reducible refine (vouchlaw13_split.calls (⟨#[65, 117, 116, 104, 111, 114, 58]⟩ : ByteArray) 131 0 true _ A39.out).mono ?_); rintro e w46 ⟨rfl, hb⟩; have n0_ := Aside0.mk (below_step (by repeat (first | (with_reducible first | exact HB.out | apply below_alloc | apply pw_below_drewN | apply below_drew1) | exact HB.out)) hb); clear HB; have HB := n0_; clear n0_; (try clear hb); (try clear hb2); (try clear hk); (try clear hi)) | (go_at_call 25; (with_reducible refine (vouchlaw13_split.calls (⟨#[10, 65, 117, 116, 104, 111, 114, 105, 122, 101, 114, 58]⟩ : ByteArray) 131 0 true _ A41.out).mono ?_); rintro e w47 ⟨rfl, hb⟩; have n0_ := Aside0.mk (below_step (by repeat (first | (with_reducible first | exact HB.out | apply below_alloc | apply pw_below_drewN | apply below_drew1) | exact HB.out)) hb); clear HB; have HB := n0_; clear n0_; (try clear hb); (try clear hb2); (try clear hk); (try clear hi)) | (go_at_call 25; (with_reducible refine (vouchlaw13_split.calls (⟨#[67, 111, 109, 109, 101, 110, 116, 58, 10]⟩ : ByteArray) 134 9 t339 _ A43.out).mono ?_); rintro e w48 ⟨rfl, hb⟩; have n0_ := Aside0.mk (below_step (by repeat (first | (with_reducible first | exact HB.out | apply below_alloc | apply pw_below_drewN | apply below_drew1) | exact HB.out)) hb); clear HB; have HB := n0_; clear n0_; (try clear hb); (try clear hb2); (try clear hk); (try clear hi)))
                              go_meet
                              case rel => exact ⟨_, (t339), (by first | rfl | (simp; done) | (simp [*]; done) | (repeat (first | rfl | (unfold wrap64; omega) | congr 1))), H', ⟨by have := HK1.out; have := HJ8.out; have := HJ22.out; first | omega | exact Nat.le_refl _⟩, ⟨by repeat (first | (with_reducible first | exact HB.out | apply below_alloc | apply pw_below_drewN | apply below_drew1) | exact HB.out)⟩⟩
                            · replace c42 := Bool.eq_false_iff.mpr c42
                              subst c42
                              have H1 : (vouchlaw13_FieldsKnown.j3 kj22 false) = some r := by rw [if_neg (show ¬ (false = true) by decide)] at H; exact H
                              clear H
                              have H := H1
                              clear H1
                              have H' := Aside0.mk H
                              clear H
                              go_wp2_with (first | ((with_reducible refine gate_callee (f := 25) rfl ?_); refine goesL_ (some 87) rfl rfl Try.func25 (by kernel_rfl) rfl #[.string (⟨#[]⟩ : ByteArray), .int .i64 131, .int .i64 0] rfl (by (try simp only [List.map_toArray, List.map_cons, List.map_nil]); first | done | rfl | (simp only [List.length_drop, List.length_take]; rfl)) ?_; (with_reducible refine (vouchlaw13_split.calls (⟨#[]⟩ : ByteArray) 131 0 true _ A35.out).mono ?_); rintro e w49 ⟨rfl, hb⟩; refine ⟨_, rfl, ?_⟩; have n0_ := Aside0.mk (below_step (by repeat (first | (with_reducible first | exact HB.out | apply below_alloc | apply pw_below_drewN | apply below_drew1) | exact HB.out)) hb); clear HB; have HB := n0_; clear n0_; (try clear hb); (try clear hb2); (try clear hk); (try clear hi)) | (go_at_call 25; (with_reducible refine (vouchlaw13_split.calls (⟨#[32, 65, 117, 116, 104, 111, 114, 105, 122, 101, 114, 58]⟩ : ByteArray) 131 0 true _ A37.out).mono ?_); rintro e w50 ⟨rfl, hb⟩; have n0_ := Aside0.mk (below_step (by repeat (first | (with_reducible first | exact HB.out | apply below_alloc | apply pw_below_drewN | apply below_drew1) | exact HB.out)) hb); clear HB; have HB := n0_; clear n0_; (try clear hb); (try clear hb2); (try clear hk); (try clear hi)) | (go_at_call 25; (with_reducible refine (vouchlaw13_split.calls (⟨#[65, 117, 116, 104, 111, 114, 58]⟩ : ByteArray) 131 0 true _ A39.out).mono ?_); rintro e w51 ⟨rfl, hb⟩; have n0_ := Aside0.mk (below_step (by repeat (first | (with_reducible first | exact HB.out | apply below_alloc | apply pw_below_drewN | apply below_drew1) | exact HB.out)) hb); clear HB; have HB := n0_; clear n0_; (try clear hb); (try clear hb2); (try clear hk); (try clear hi)) | (go_at_call 25; (with_reducible refine (vouchlaw13_split.calls (⟨#[10, 65, 117, 116, 104, 111, 114, 105, 122, 101, 114, 58]⟩ : ByteArray) 131 0 false _ A41.out).mono ?_); rintro e w52 ⟨rfl, hb⟩; have n0_ := Aside0.mk (below_step (by repeat (first | (with_reducible first | exact HB.out | apply below_alloc | apply pw_below_drewN | apply below_drew1) | exact HB.out)) hb); clear HB; have HB := n0_; clear n0_; (try clear hb); (try clear hb2); (try clear hk); (try clear hi)))
                              go_meet
                              case rel => exact ⟨_, (false), (by first | rfl | (simp; done) | (simp [*]; done) | (repeat (first | rfl | (unfold wrap64; omega) | congr 1))), H', ⟨by have := HK1.out; have := HJ8.out; have := HJ22.out; first | omega | exact Nat.le_refl _⟩, ⟨by repeat (first | (with_reducible first | exact HB.out | apply below_alloc | apply pw_below_drewN | apply below_drew1) | exact HB.out)⟩⟩
                          · replace c40 := Bool.eq_false_iff.mpr c40
                            subst c40
                            have H1 : (vouchlaw13_FieldsKnown.j3 kj22 false) = some r := by rw [if_neg (show ¬ (false = true) by decide)] at H; exact H
                            clear H
                            have H := H1
                            clear H1
                            have H' := Aside0.mk H
                            clear H
                            go_wp2_with (first | ((with_reducible refine gate_callee (f := 25) rfl ?_); refine goesL_ (some 87) rfl rfl Try.func25 (by kernel_rfl) rfl #[.string (⟨#[]⟩ : ByteArray), .int .i64 131, .int .i64 0] rfl (by (try simp only [List.map_toArray, List.map_cons, List.map_nil]); first | done | rfl | (simp only [List.length_drop, List.length_take]; rfl)) ?_; (with_reducible refine (vouchlaw13_split.calls (⟨#[]⟩ : ByteArray) 131 0 true _ A35.out).mono ?_); rintro e w53 ⟨rfl, hb⟩; refine ⟨_, rfl, ?_⟩; have n0_ := Aside0.mk (below_step (by repeat (first | (with_reducible first | exact HB.out | apply below_alloc | apply pw_below_drewN | apply below_drew1) | exact HB.out)) hb); clear HB; have HB := n0_; clear n0_; (try clear hb); (try clear hb2); (try clear hk); (try clear hi)) | (go_at_call 25; (with_reducible refine (vouchlaw13_split.calls (⟨#[32, 65, 117, 116, 104, 111, 114, 105, 122, 101, 114, 58]⟩ : ByteArray) 131 0 true _ A37.out).mono ?_); rintro e w54 ⟨rfl, hb⟩; have n0_ := Aside0.mk (below_step (by repeat (first | (with_reducible first | exact HB.out | apply below_alloc | apply pw_below_drewN | apply below_drew1) | exact HB.out)) hb); clear HB; have HB := n0_; clear n0_; (try clear hb); (try clear hb2); (try clear hk); (try clear hi)) | (go_at_call 25; (with_reducible refine (vouchlaw13_split.calls (⟨#[65, 117, 116, 104, 111, 114, 58]⟩ : ByteArray) 131 0 false _ A39.out).mono ?_); rintro e w55 ⟨rfl, hb⟩; have n0_ := Aside0.mk (below_step (by repeat (first | (with_reducible first | exact HB.out | apply below_alloc | apply pw_below_drewN | apply below_drew1) | exact HB.out)) hb); clear HB; have HB := n0_; clear n0_; (try clear hb); (try clear hb2); (try clear hk); (try clear hi)))
                            go_meet
                            case rel => exact ⟨_, (false), (by first | rfl | (simp; done) | (simp [*]; done) | (repeat (first | rfl | (unfold wrap64; omega) | congr 1))), H', ⟨by have := HK1.out; have := HJ8.out; have := HJ22.out; first | omega | exact Nat.le_refl _⟩, ⟨by repeat (first | (with_reducible first | exact HB.out | apply below_alloc | apply pw_below_drewN | apply below_drew1) | exact HB.out)⟩⟩
                        · replace c38 := Bool.eq_false_iff.mpr c38
                          subst c38
                          have H1 : (vouchlaw13_FieldsKnown.j3 kj22 false) = some r := by rw [if_neg (show ¬ (false = true) by decide)] at H; exact H
                          clear H
                          have H := H1
                          clear H1
                          have H' := Aside0.mk H
                          clear H
                          go_wp2_with (first | ((with_reducible refine gate_callee (f := 25) rfl ?_); refine goesL_ (some 87) rfl rfl Try.func25 (by kernel_rfl) rfl #[.string (⟨#[]⟩ : ByteArray), .int .i64 131, .int .i64 0] rfl (by (try simp only [List.map_toArray, List.map_cons, List.map_nil]); first | done | rfl | (simp only [List.length_drop, List.length_take]; rfl)) ?_; (with_reducible refine (vouchlaw13_split.calls (⟨#[]⟩ : ByteArray) 131 0 true _ A35.out).mono ?_); rintro e w56 ⟨rfl, hb⟩; refine ⟨_, rfl, ?_⟩; have n0_ := Aside0.mk (below_step (by repeat (first | (with_reducible first | exact HB.out | apply below_alloc | apply pw_below_drewN | apply below_drew1) | exact HB.out)) hb); clear HB; have HB := n0_; clear n0_; (try clear hb); (try clear hb2); (try clear hk); (try clear hi)) | (go_at_call 25; (with_reducible refine (vouchlaw13_split.calls (⟨#[32, 65, 117, 116, 104, 111, 114, 105, 122, 101, 114, 58]⟩ : ByteArray) 131 0 false _ A37.out).mono ?_); rintro e w57 ⟨rfl, hb⟩; have n0_ := Aside0.mk (below_step (by repeat (first | (with_reducible first | exact HB.out | apply below_alloc | apply pw_below_drewN | apply below_drew1) | exact HB.out)) hb); clear HB; have HB := n0_; clear n0_; (try clear hb); (try clear hb2); (try clear hk); (try clear hi)))
                          go_meet
                          case rel => exact ⟨_, (false), (by first | rfl | (simp; done) | (simp [*]; done) | (repeat (first | rfl | (unfold wrap64; omega) | congr 1))), H', ⟨by have := HK1.out; have := HJ8.out; have := HJ22.out; first | omega | exact Nat.le_refl _⟩, ⟨by repeat (first | (with_reducible first | exact HB.out | apply below_alloc | apply pw_below_drewN | apply below_drew1) | exact HB.out)⟩⟩
                      · replace c36 := Bool.eq_false_iff.mpr c36
                        subst c36
                        have H1 : (vouchlaw13_FieldsKnown.j3 kj22 false) = some r := by rw [if_neg (show ¬ (false = true) by decide)] at H; exact H
                        clear H
                        have H := H1
                        clear H1
                        have H' := Aside0.mk H
                        clear H
                        go_wp2_with (first | ((with_reducible refine gate_callee (f := 25) rfl ?_); refine goesL_ (some 87) rfl rfl Try.func25 (by kernel_rfl) rfl #[.string (⟨#[]⟩ : ByteArray), .int .i64 131, .int .i64 0] rfl (by (try simp only [List.map_toArray, List.map_cons, List.map_nil]); first | done | rfl | (simp only [List.length_drop, List.length_take]; rfl)) ?_; (with_reducible refine (vouchlaw13_split.calls (⟨#[]⟩ : ByteArray) 131 0 false _ A35.out).mono ?_); rintro e w58 ⟨rfl, hb⟩; refine ⟨_, rfl, ?_⟩; have n0_ := Aside0.mk (below_step (by repeat (first | (with_reducible first | exact HB.out | apply below_alloc | apply pw_below_drewN | apply below_drew1) | exact HB.out)) hb); clear HB; have HB := n0_; clear n0_; (try clear hb); (try clear hb2); (try clear hk); (try clear hi)))
                        go_meet
                        case rel => exact ⟨_, (false), (by first | rfl | (simp; done) | (simp [*]; done) | (repeat (first | rfl | (unfold wrap64; omega) | congr 1))), H', ⟨by have := HK1.out; have := HJ8.out; have := HJ22.out; first | omega | exact Nat.le_refl _⟩, ⟨by repeat (first | (with_reducible first | exact HB.out | apply below_alloc | apply pw_below_drewN | apply below_drew1) | exact HB.out)⟩⟩
                    case rest => as_aux_lemma =>
                      clear HC34
                      try clear c1
                      try clear c1b0
                      try clear c1b1
                      try clear c2
                      try clear c2b0
                      try clear c2b1
                      try clear p2
                      try clear c3
                      try clear c3b0
                      try clear c3b1
                      try clear c3b2
                      try clear p3
                      try clear q3
                      try clear hx3
                      try clear qi3
                      try clear c4
                      try clear c4b0
                      try clear c4b1
                      try clear c4b2
                      try clear c5
                      try clear c5b0
                      try clear c5b1
                      try clear c6
                      try clear c6b0
                      try clear c6b1
                      try clear c7
                      try clear c7b0
                      try clear c7b1
                      try clear c10
                      try clear c11
                      try clear c11b0
                      try clear c11b1
                      try clear c12
                      try clear c12b0
                      try clear c12b1
                      try clear c13
                      try clear c13b0
                      try clear c13b1
                      try clear c14
                      try clear c14b0
                      try clear c14b1
                      try clear c15
                      try clear c15b0
                      try clear c15b1
                      try clear c15b2
                      try clear c21
                      try clear c25
                      try clear c25b0
                      try clear c25b1
                      try clear c26
                      try clear c26b0
                      try clear c26b1
                      try clear c27
                      try clear c27b0
                      try clear c27b1
                      try clear c28
                      try clear c28b0
                      try clear c30
                      try clear c30b0
                      try clear c30b1
                      try clear p32
                      try clear q32
                      try clear hx32
                      try clear qi32
                      try clear c33
                      try clear p33
                      try clear q33
                      try clear hx33
                      try clear qi33
                      try clear c36
                      try clear c38
                      try clear c40
                      try clear c42
                      try clear hx326_0
                      try clear hx326_1
                      try clear hx326_2
                      try clear hx326_3
                      try clear hx333_0
                      try clear hx333_1
                      try clear hx333_2
                      try clear hx333_3
                      try clear hx334_0
                      try clear hx334_1
                      try clear hx334_2
                      try clear hx334_3
                      try clear p2
                      try clear p3
                      try clear p32
                      try clear p326
                      try clear p333
                      try clear p334
                      try clear q3
                      try clear q32
                      try clear q326
                      try clear q333
                      try clear q334
                      obtain ⟨kq, x8_33, rfl, HA, HJ33, HB⟩ := hcut
                      cases kq with
                      | zero => exact absurd HA.out (by simp [vouchlaw13_FieldsKnown.j3])
                      | succ kj33 =>
                        have H := HA.out
                        clear HA
                        simp only [vouchlaw13_FieldsKnown.j3] at H
                        have HC59 := Aside0.mk H
                        clear H
                        go_upto_region 13 with (fail)
                        go_cut [9] (fun v9 wc => ∃ (kq : Nat) (x9_58 : Bool), v9 = .bool x9_58 ∧ Aside0 (vouchlaw13_FieldsKnown.j4 kq x8_33 x9_58 = some r) ∧ Aside0 (kq ≤ kj33) ∧ Aside0 (Below w.heap.size w wc))
                        case first => as_aux_lemma =>
                          have H := HC59.out
                          clear HC59
                          replace H := Option.bind_eq_some_iff.mp H
                          obtain ⟨t340, A600, H⟩ := H
                          replace H : (if t340 = true then ((vouchlaw13_split.f (⟨#[67, 111, 109, 109, 101, 110, 116, 58, 10, 107, 101, 121, 110, 111, 116, 101, 45, 118, 101, 114, 115, 105, 111, 110, 58, 32, 50, 10]⟩ : ByteArray) 133 9).bind fun t341 => (if t341 = true then ((vouchlaw13_split.f (⟨#[83, 105, 103, 110, 97, 116, 117, 114, 101, 58, 10, 65, 117, 116, 104, 111, 114, 105, 122, 101, 114, 58, 10]⟩ : ByteArray) 133 11).bind fun t342 => (if t342 = true then ((vouchlaw13_split.f (⟨#[67, 111, 109, 109, 101, 110, 116, 58, 10, 99, 111, 109, 109, 101, 110, 116, 58, 10]⟩ : ByteArray) 132 9).bind fun t343 => (vouchlaw13_FieldsKnown.j4 kj33 x8_33 t343)) else (vouchlaw13_FieldsKnown.j4 kj33 x8_33 false))) else (vouchlaw13_FieldsKnown.j4 kj33 x8_33 false))) else (vouchlaw13_FieldsKnown.j4 kj33 x8_33 false)) = some r := H
                          have A60 := Aside0.mk A600
                          clear A600
                          by_cases c61 : t340 = true
                          · subst c61
                            have H1 : ((vouchlaw13_split.f (⟨#[67, 111, 109, 109, 101, 110, 116, 58, 10, 107, 101, 121, 110, 111, 116, 101, 45, 118, 101, 114, 115, 105, 111, 110, 58, 32, 50, 10]⟩ : ByteArray) 133 9).bind fun t341 => (if t341 = true then ((vouchlaw13_split.f (⟨#[83, 105, 103, 110, 97, 116, 117, 114, 101, 58, 10, 65, 117, 116, 104, 111, 114, 105, 122, 101, 114, 58, 10]⟩ : ByteArray) 133 11).bind fun t342 => (if t342 = true then ((vouchlaw13_split.f (⟨#[67, 111, 109, 109, 101, 110, 116, 58, 10, 99, 111, 109, 109, 101, 110, 116, 58, 10]⟩ : ByteArray) 132 9).bind fun t343 => (vouchlaw13_FieldsKnown.j4 kj33 x8_33 t343)) else (vouchlaw13_FieldsKnown.j4 kj33 x8_33 false))) else (vouchlaw13_FieldsKnown.j4 kj33 x8_33 false))) = some r := by rw [if_pos rfl] at H; exact H
                            clear H
                            have H := H1
                            clear H1
                            replace H := Option.bind_eq_some_iff.mp H
                            obtain ⟨t341, A620, H⟩ := H
                            replace H : (if t341 = true then ((vouchlaw13_split.f (⟨#[83, 105, 103, 110, 97, 116, 117, 114, 101, 58, 10, 65, 117, 116, 104, 111, 114, 105, 122, 101, 114, 58, 10]⟩ : ByteArray) 133 11).bind fun t342 => (if t342 = true then ((vouchlaw13_split.f (⟨#[67, 111, 109, 109, 101, 110, 116, 58, 10, 99, 111, 109, 109, 101, 110, 116, 58, 10]⟩ : ByteArray) 132 9).bind fun t343 => (vouchlaw13_FieldsKnown.j4 kj33 x8_33 t343)) else (vouchlaw13_FieldsKnown.j4 kj33 x8_33 false))) else (vouchlaw13_FieldsKnown.j4 kj33 x8_33 false)) = some r := H
                            have A62 := Aside0.mk A620
                            clear A620
                            by_cases c63 : t341 = true
                            · subst c63
                              have H1 : ((vouchlaw13_split.f (⟨#[83, 105, 103, 110, 97, 116, 117, 114, 101, 58, 10, 65, 117, 116, 104, 111, 114, 105, 122, 101, 114, 58, 10]⟩ : ByteArray) 133 11).bind fun t342 => (if t342 = true then ((vouchlaw13_split.f (⟨#[67, 111, 109, 109, 101, 110, 116, 58, 10, 99, 111, 109, 109, 101, 110, 116, 58, 10]⟩ : ByteArray) 132 9).bind fun t343 => (vouchlaw13_FieldsKnown.j4 kj33 x8_33 t343)) else (vouchlaw13_FieldsKnown.j4 kj33 x8_33 false))) = some r := by rw [if_pos rfl] at H; exact H
                              clear H
                              have H := H1
                              clear H1
                              replace H := Option.bind_eq_some_iff.mp H
                              obtain ⟨t342, A640, H⟩ := H
                              replace H : (if t342 = true then ((vouchlaw13_split.f (⟨#[67, 111, 109, 109, 101, 110, 116, 58, 10, 99, 111, 109, 109, 101, 110, 116, 58, 10]⟩ : ByteArray) 132 9).bind fun t343 => (vouchlaw13_FieldsKnown.j4 kj33 x8_33 t343)) else (vouchlaw13_FieldsKnown.j4 kj33 x8_33 false)) = some r := H
                              have A64 := Aside0.mk A640
                              clear A640
                              by_cases c65 : t342 = true
                              · subst c65
                                have H1 : ((vouchlaw13_split.f (⟨#[67, 111, 109, 109, 101, 110, 116, 58, 10, 99, 111, 109, 109, 101, 110, 116, 58, 10]⟩ : ByteArray) 132 9).bind fun t343 => (vouchlaw13_FieldsKnown.j4 kj33 x8_33 t343)) = some r := by rw [if_pos rfl] at H; exact H
                                clear H
                                have H := H1
                                clear H1
                                replace H := Option.bind_eq_some_iff.mp H
                                obtain ⟨t343, A660, H⟩ := H
                                replace H : (vouchlaw13_FieldsKnown.j4 kj33 x8_33 t343) = some r := H
                                have A66 := Aside0.mk A660
                                clear A660
                                have H' := Aside0.mk H
                                clear H
                                go_wp2_with (first | ((with_reducible refine gate_callee (f := 25) rfl ?_); refine goesL_ (some 100) rfl rfl Try.func25 (by kernel_rfl) rfl #[.string (⟨#[65, 117, 116, 104, 111, 114, 105, 122, 101, 114, 58, 10, 65, 117, 116, 104, 111, 114, 105, 122, 101, 114, 32, 58, 10]⟩ : ByteArray), .int .i64 131, .int .i64 12] rfl (by (try simp only [List.map_toArray, List.map_cons, List.map_nil]); first | done | rfl | (simp only [List.length_drop, List.length_take]; rfl)) ?_; (with_reducible refine (vouchlaw13_split.calls (⟨#[65, 117, 116, 104, 111, 114, 105, 122, 101, 114, 58, 10, 65, 117, 116, 104, 111, 114, 105, 122, 101, 114, 32, 58, 10]⟩ : ByteArray) 131 12 true _ A60.out).mono ?_); rintro e w67 ⟨rfl, hb⟩; refine ⟨_, rfl, ?_⟩; have n0_ := Aside0.mk (below_step (by repeat (first | (with_reducible first | exact HB.out | apply below_alloc | apply pw_below_drewN | apply below_drew1) | exact HB.out)) hb); clear HB; have HB := n0_; clear n0_; (try clear hb); (try clear hb2); (try clear hk); (try clear hi)) | (go_at_call 25; (with_reducible refine (vouchlaw13_split.calls (⟨#[67, 111, 109, 109, 101, 110, 116, 58, 10, 107, 101, 121, 110, 111, 116, 101, 45, 118, 101, 114, 115, 105, 111, 110, 58, 32, 50, 10]⟩ : ByteArray) 133 9 true _ A62.out).mono ?_); rintro e w68 ⟨rfl, hb⟩; have n0_ := Aside0.mk (below_step (by repeat (first | (with_reducible first | exact HB.out | apply below_alloc | apply pw_below_drewN | apply below_drew1) | exact HB.out)) hb); clear HB; have HB := n0_; clear n0_; (try clear hb); (try clear hb2); (try clear hk); (try clear hi)) | (go_at_call 25; (with_reducible refine (vouchlaw13_split.calls (⟨#[83, 105, 103, 110, 97, 116, 117, 114, 101, 58, 10, 65, 117, 116, 104, 111, 114, 105, 122, 101, 114, 58, 10]⟩ : ByteArray) 133 11 true _ A64.out).mono ?_); rintro e w69 ⟨rfl, hb⟩; have n0_ := Aside0.mk (below_step (by repeat (first | (with_reducible first | exact HB.out | apply below_alloc | apply pw_below_drewN | apply below_drew1) | exact HB.out)) hb); clear HB; have HB := n0_; clear n0_; (try clear hb); (try clear hb2); (try clear hk); (try clear hi)) | (go_at_call 25; (with_reducible refine (vouchlaw13_split.calls (⟨#[67, 111, 109, 109, 101, 110, 116, 58, 10, 99, 111, 109, 109, 101, 110, 116, 58, 10]⟩ : ByteArray) 132 9 t343 _ A66.out).mono ?_); rintro e w70 ⟨rfl, hb⟩; have n0_ := Aside0.mk (below_step (by repeat (first | (with_reducible first | exact HB.out | apply below_alloc | apply pw_below_drewN | apply below_drew1) | exact HB.out)) hb); clear HB; have HB := n0_; clear n0_; (try clear hb); (try clear hb2); (try clear hk); (try clear hi)))
                                go_meet
                                case rel => exact ⟨_, (t343), (by first | rfl | (simp; done) | (simp [*]; done) | (repeat (first | rfl | (unfold wrap64; omega) | congr 1))), H', ⟨by have := HK1.out; have := HJ8.out; have := HJ22.out; have := HJ33.out; first | omega | exact Nat.le_refl _⟩, ⟨by repeat (first | (with_reducible first | exact HB.out | apply below_alloc | apply pw_below_drewN | apply below_drew1) | exact HB.out)⟩⟩
                              · replace c65 := Bool.eq_false_iff.mpr c65
                                subst c65
                                have H1 : (vouchlaw13_FieldsKnown.j4 kj33 x8_33 false) = some r := by rw [if_neg (show ¬ (false = true) by decide)] at H; exact H
                                clear H
                                have H := H1
                                clear H1
                                have H' := Aside0.mk H
                                clear H
                                go_wp2_with (first | ((with_reducible refine gate_callee (f := 25) rfl ?_); refine goesL_ (some 100) rfl rfl Try.func25 (by kernel_rfl) rfl #[.string (⟨#[65, 117, 116, 104, 111, 114, 105, 122, 101, 114, 58, 10, 65, 117, 116, 104, 111, 114, 105, 122, 101, 114, 32, 58, 10]⟩ : ByteArray), .int .i64 131, .int .i64 12] rfl (by (try simp only [List.map_toArray, List.map_cons, List.map_nil]); first | done | rfl | (simp only [List.length_drop, List.length_take]; rfl)) ?_; (with_reducible refine (vouchlaw13_split.calls (⟨#[65, 117, 116, 104, 111, 114, 105, 122, 101, 114, 58, 10, 65, 117, 116, 104, 111, 114, 105, 122, 101, 114, 32, 58, 10]⟩ : ByteArray) 131 12 true _ A60.out).mono ?_); rintro e w71 ⟨rfl, hb⟩; refine ⟨_, rfl, ?_⟩; have n0_ := Aside0.mk (below_step (by repeat (first | (with_reducible first | exact HB.out | apply below_alloc | apply pw_below_drewN | apply below_drew1) | exact HB.out)) hb); clear HB; have HB := n0_; clear n0_; (try clear hb); (try clear hb2); (try clear hk); (try clear hi)) | (go_at_call 25; (with_reducible refine (vouchlaw13_split.calls (⟨#[67, 111, 109, 109, 101, 110, 116, 58, 10, 107, 101, 121, 110, 111, 116, 101, 45, 118, 101, 114, 115, 105, 111, 110, 58, 32, 50, 10]⟩ : ByteArray) 133 9 true _ A62.out).mono ?_); rintro e w72 ⟨rfl, hb⟩; have n0_ := Aside0.mk (below_step (by repeat (first | (with_reducible first | exact HB.out | apply below_alloc | apply pw_below_drewN | apply below_drew1) | exact HB.out)) hb); clear HB; have HB := n0_; clear n0_; (try clear hb); (try clear hb2); (try clear hk); (try clear hi)) | (go_at_call 25; (with_reducible refine (vouchlaw13_split.calls (⟨#[83, 105, 103, 110, 97, 116, 117, 114, 101, 58, 10, 65, 117, 116, 104, 111, 114, 105, 122, 101, 114, 58, 10]⟩ : ByteArray) 133 11 false _ A64.out).mono ?_); rintro e w73 ⟨rfl, hb⟩; have n0_ := Aside0.mk (below_step (by repeat (first | (with_reducible first | exact HB.out | apply below_alloc | apply pw_below_drewN | apply below_drew1) | exact HB.out)) hb); clear HB; have HB := n0_; clear n0_; (try clear hb); (try clear hb2); (try clear hk); (try clear hi)))
                                go_meet
                                case rel => exact ⟨_, (false), (by first | rfl | (simp; done) | (simp [*]; done) | (repeat (first | rfl | (unfold wrap64; omega) | congr 1))), H', ⟨by have := HK1.out; have := HJ8.out; have := HJ22.out; have := HJ33.out; first | omega | exact Nat.le_refl _⟩, ⟨by repeat (first | (with_reducible first | exact HB.out | apply below_alloc | apply pw_below_drewN | apply below_drew1) | exact HB.out)⟩⟩
                            · replace c63 := Bool.eq_false_iff.mpr c63
                              subst c63
                              have H1 : (vouchlaw13_FieldsKnown.j4 kj33 x8_33 false) = some r := by rw [if_neg (show ¬ (false = true) by decide)] at H; exact H
                              clear H
                              have H := H1
                              clear H1
                              have H' := Aside0.mk H
                              clear H
                              go_wp2_with (first | ((with_reducible refine gate_callee (f := 25) rfl ?_); refine goesL_ (some 100) rfl rfl Try.func25 (by kernel_rfl) rfl #[.string (⟨#[65, 117, 116, 104, 111, 114, 105, 122, 101, 114, 58, 10, 65, 117, 116, 104, 111, 114, 105, 122, 101, 114, 32, 58, 10]⟩ : ByteArray), .int .i64 131, .int .i64 12] rfl (by (try simp only [List.map_toArray, List.map_cons, List.map_nil]); first | done | rfl | (simp only [List.length_drop, List.length_take]; rfl)) ?_; (with_reducible refine (vouchlaw13_split.calls (⟨#[65, 117, 116, 104, 111, 114, 105, 122, 101, 114, 58, 10, 65, 117, 116, 104, 111, 114, 105, 122, 101, 114, 32, 58, 10]⟩ : ByteArray) 131 12 true _ A60.out).mono ?_); rintro e w74 ⟨rfl, hb⟩; refine ⟨_, rfl, ?_⟩; have n0_ := Aside0.mk (below_step (by repeat (first | (with_reducible first | exact HB.out | apply below_alloc | apply pw_below_drewN | apply below_drew1) | exact HB.out)) hb); clear HB; have HB := n0_; clear n0_; (try clear hb); (try clear hb2); (try clear hk); (try clear hi)) | (go_at_call 25; (with_reducible refine (vouchlaw13_split.calls (⟨#[67, 111, 109, 109, 101, 110, 116, 58, 10, 107, 101, 121, 110, 111, 116, 101, 45, 118, 101, 114, 115, 105, 111, 110, 58, 32, 50, 10]⟩ : ByteArray) 133 9 false _ A62.out).mono ?_); rintro e w75 ⟨rfl, hb⟩; have n0_ := Aside0.mk (below_step (by repeat (first | (with_reducible first | exact HB.out | apply below_alloc | apply pw_below_drewN | apply below_drew1) | exact HB.out)) hb); clear HB; have HB := n0_; clear n0_; (try clear hb); (try clear hb2); (try clear hk); (try clear hi)))
                              go_meet
                              case rel => exact ⟨_, (false), (by first | rfl | (simp; done) | (simp [*]; done) | (repeat (first | rfl | (unfold wrap64; omega) | congr 1))), H', ⟨by have := HK1.out; have := HJ8.out; have := HJ22.out; have := HJ33.out; first | omega | exact Nat.le_refl _⟩, ⟨by repeat (first | (with_reducible first | exact HB.out | apply below_alloc | apply pw_below_drewN | apply below_drew1) | exact HB.out)⟩⟩
                          · replace c61 := Bool.eq_false_iff.mpr c61
                            subst c61
                            have H1 : (vouchlaw13_FieldsKnown.j4 kj33 x8_33 false) = some r := by rw [if_neg (show ¬ (false = true) by decide)] at H; exact H
                            clear H
                            have H := H1
                            clear H1
                            have H' := Aside0.mk H
                            clear H
                            go_wp2_with (first | ((with_reducible refine gate_callee (f := 25) rfl ?_); refine goesL_ (some 100) rfl rfl Try.func25 (by kernel_rfl) rfl #[.string (⟨#[65, 117, 116, 104, 111, 114, 105, 122, 101, 114, 58, 10, 65, 117, 116, 104, 111, 114, 105, 122, 101, 114, 32, 58, 10]⟩ : ByteArray), .int .i64 131, .int .i64 12] rfl (by (try simp only [List.map_toArray, List.map_cons, List.map_nil]); first | done | rfl | (simp only [List.length_drop, List.length_take]; rfl)) ?_; (with_reducible refine (vouchlaw13_split.calls (⟨#[65, 117, 116, 104, 111, 114, 105, 122, 101, 114, 58, 10, 65, 117, 116, 104, 111, 114, 105, 122, 101, 114, 32, 58, 10]⟩ : ByteArray) 131 12 false _ A60.out).mono ?_); rintro e w76 ⟨rfl, hb⟩; refine ⟨_, rfl, ?_⟩; have n0_ := Aside0.mk (below_step (by repeat (first | (with_reducible first | exact HB.out | apply below_alloc | apply pw_below_drewN | apply below_drew1) | exact HB.out)) hb); clear HB; have HB := n0_; clear n0_; (try clear hb); (try clear hb2); (try clear hk); (try clear hi)))
                            go_meet
                            case rel => exact ⟨_, (false), (by first | rfl | (simp; done) | (simp [*]; done) | (repeat (first | rfl | (unfold wrap64; omega) | congr 1))), H', ⟨by have := HK1.out; have := HJ8.out; have := HJ22.out; have := HJ33.out; first | omega | exact Nat.le_refl _⟩, ⟨by repeat (first | (with_reducible first | exact HB.out | apply below_alloc | apply pw_below_drewN | apply below_drew1) | exact HB.out)⟩⟩
                        case rest => as_aux_lemma =>
                          clear HC59
                          try clear c1
                          try clear c1b0
                          try clear c1b1
                          try clear c2
                          try clear c2b0
                          try clear c2b1
                          try clear p2
                          try clear c3
                          try clear c3b0
                          try clear c3b1
                          try clear c3b2
                          try clear p3
                          try clear q3
                          try clear hx3
                          try clear qi3
                          try clear c4
                          try clear c4b0
                          try clear c4b1
                          try clear c4b2
                          try clear c5
                          try clear c5b0
                          try clear c5b1
                          try clear c6
                          try clear c6b0
                          try clear c6b1
                          try clear c7
                          try clear c7b0
                          try clear c7b1
                          try clear c10
                          try clear c11
                          try clear c11b0
                          try clear c11b1
                          try clear c12
                          try clear c12b0
                          try clear c12b1
                          try clear c13
                          try clear c13b0
                          try clear c13b1
                          try clear c14
                          try clear c14b0
                          try clear c14b1
                          try clear c15
                          try clear c15b0
                          try clear c15b1
                          try clear c15b2
                          try clear c21
                          try clear c25
                          try clear c25b0
                          try clear c25b1
                          try clear c26
                          try clear c26b0
                          try clear c26b1
                          try clear c27
                          try clear c27b0
                          try clear c27b1
                          try clear c28
                          try clear c28b0
                          try clear c30
                          try clear c30b0
                          try clear c30b1
                          try clear p32
                          try clear q32
                          try clear hx32
                          try clear qi32
                          try clear c33
                          try clear p33
                          try clear q33
                          try clear hx33
                          try clear qi33
                          try clear c36
                          try clear c38
                          try clear c40
                          try clear c42
                          try clear c61
                          try clear c63
                          try clear c65
                          try clear hx326_0
                          try clear hx326_1
                          try clear hx326_2
                          try clear hx326_3
                          try clear hx333_0
                          try clear hx333_1
                          try clear hx333_2
                          try clear hx333_3
                          try clear hx334_0
                          try clear hx334_1
                          try clear hx334_2
                          try clear hx334_3
                          try clear p2
                          try clear p3
                          try clear p32
                          try clear p326
                          try clear p33
                          try clear p333
                          try clear p334
                          try clear q3
                          try clear q32
                          try clear q326
                          try clear q33
                          try clear q333
                          try clear q334
                          obtain ⟨kq, x9_58, rfl, HA, HJ58, HB⟩ := hcut
                          cases kq with
                          | zero => exact absurd HA.out (by simp [vouchlaw13_FieldsKnown.j4])
                          | succ kj58 =>
                            have H := HA.out
                            clear HA
                            simp only [vouchlaw13_FieldsKnown.j4] at H
                            have HC77 := Aside0.mk H
                            clear H
                            go_upto_region 14 with (fail)
                            go_cut [10] (fun v10 wc => ∃ (kq : Nat) (x10_76 : Bool), v10 = .bool x10_76 ∧ Aside0 (vouchlaw13_FieldsKnown.j5 kq x8_33 x9_58 x10_76 = some r) ∧ Aside0 (kq ≤ kj58) ∧ Aside0 (Below w.heap.size w wc))
                            case first => as_aux_lemma =>
                              have H := HC77.out
                              clear HC77
                              replace H := Option.bind_eq_some_iff.mp H
                              obtain ⟨t344, A780, H⟩ := H
                              replace H : (if t344 = true then ((vouchlaw13_split.f (⟨#[120, 0]⟩ : ByteArray) 130 1).bind fun t345 => (if t345 = true then ((vouchlaw13_split.f (⟨#[83, 105, 103, 110, 97, 116, 117, 114, 101, 58, 10, 115, 105, 103, 110, 97, 116, 117, 114, 101, 58, 10]⟩ : ByteArray) 132 11).bind fun t346 => (if t346 = true then ((vouchlaw13_split.f (⟨#[65, 117, 116, 104, 111, 114, 105, 122, 101, 114, 58, 10, 120]⟩ : ByteArray) 131 12).bind fun t347 => (vouchlaw13_FieldsKnown.j5 kj58 x8_33 x9_58 t347)) else (vouchlaw13_FieldsKnown.j5 kj58 x8_33 x9_58 false))) else (vouchlaw13_FieldsKnown.j5 kj58 x8_33 x9_58 false))) else (vouchlaw13_FieldsKnown.j5 kj58 x8_33 x9_58 false)) = some r := H
                              have A78 := Aside0.mk A780
                              clear A780
                              by_cases c79 : t344 = true
                              · subst c79
                                have H1 : ((vouchlaw13_split.f (⟨#[120, 0]⟩ : ByteArray) 130 1).bind fun t345 => (if t345 = true then ((vouchlaw13_split.f (⟨#[83, 105, 103, 110, 97, 116, 117, 114, 101, 58, 10, 115, 105, 103, 110, 97, 116, 117, 114, 101, 58, 10]⟩ : ByteArray) 132 11).bind fun t346 => (if t346 = true then ((vouchlaw13_split.f (⟨#[65, 117, 116, 104, 111, 114, 105, 122, 101, 114, 58, 10, 120]⟩ : ByteArray) 131 12).bind fun t347 => (vouchlaw13_FieldsKnown.j5 kj58 x8_33 x9_58 t347)) else (vouchlaw13_FieldsKnown.j5 kj58 x8_33 x9_58 false))) else (vouchlaw13_FieldsKnown.j5 kj58 x8_33 x9_58 false))) = some r := by rw [if_pos rfl] at H; exact H
                                clear H
                                have H := H1
                                clear H1
                                replace H := Option.bind_eq_some_iff.mp H
                                obtain ⟨t345, A800, H⟩ := H
                                replace H : (if t345 = true then ((vouchlaw13_split.f (⟨#[83, 105, 103, 110, 97, 116, 117, 114, 101, 58, 10, 115, 105, 103, 110, 97, 116, 117, 114, 101, 58, 10]⟩ : ByteArray) 132 11).bind fun t346 => (if t346 = true then ((vouchlaw13_split.f (⟨#[65, 117, 116, 104, 111, 114, 105, 122, 101, 114, 58, 10, 120]⟩ : ByteArray) 131 12).bind fun t347 => (vouchlaw13_FieldsKnown.j5 kj58 x8_33 x9_58 t347)) else (vouchlaw13_FieldsKnown.j5 kj58 x8_33 x9_58 false))) else (vouchlaw13_FieldsKnown.j5 kj58 x8_33 x9_58 false)) = some r := H
                                have A80 := Aside0.mk A800
                                clear A800
                                by_cases c81 : t345 = true
                                · subst c81
                                  have H1 : ((vouchlaw13_split.f (⟨#[83, 105, 103, 110, 97, 116, 117, 114, 101, 58, 10, 115, 105, 103, 110, 97, 116, 117, 114, 101, 58, 10]⟩ : ByteArray) 132 11).bind fun t346 => (if t346 = true then ((vouchlaw13_split.f (⟨#[65, 117, 116, 104, 111, 114, 105, 122, 101, 114, 58, 10, 120]⟩ : ByteArray) 131 12).bind fun t347 => (vouchlaw13_FieldsKnown.j5 kj58 x8_33 x9_58 t347)) else (vouchlaw13_FieldsKnown.j5 kj58 x8_33 x9_58 false))) = some r := by rw [if_pos rfl] at H; exact H
                                  clear H
                                  have H := H1
                                  clear H1
                                  replace H := Option.bind_eq_some_iff.mp H
                                  obtain ⟨t346, A820, H⟩ := H
                                  replace H : (if t346 = true then ((vouchlaw13_split.f (⟨#[65, 117, 116, 104, 111, 114, 105, 122, 101, 114, 58, 10, 120]⟩ : ByteArray) 131 12).bind fun t347 => (vouchlaw13_FieldsKnown.j5 kj58 x8_33 x9_58 t347)) else (vouchlaw13_FieldsKnown.j5 kj58 x8_33 x9_58 false)) = some r := H
                                  have A82 := Aside0.mk A820
                                  clear A820
                                  by_cases c83 : t346 = true
                                  · subst c83
                                    have H1 : ((vouchlaw13_split.f (⟨#[65, 117, 116, 104, 111, 114, 105, 122, 101, 114, 58, 10, 120]⟩ : ByteArray) 131 12).bind fun t347 => (vouchlaw13_FieldsKnown.j5 kj58 x8_33 x9_58 t347)) = some r := by rw [if_pos rfl] at H; exact H
                                    clear H
                                    have H := H1
                                    clear H1
                                    replace H := Option.bind_eq_some_iff.mp H
                                    obtain ⟨t347, A840, H⟩ := H
                                    replace H : (vouchlaw13_FieldsKnown.j5 kj58 x8_33 x9_58 t347) = some r := H
                                    have A84 := Aside0.mk A840
                                    clear A840
                                    have H' := Aside0.mk H
                                    clear H
                                    go_wp2_with (first | ((with_reducible refine gate_callee (f := 25) rfl ?_); refine goesL_ (some 110) rfl rfl Try.func25 (by kernel_rfl) rfl #[.string (⟨#[65, 117, 116, 104, 111, 114, 105, 122, 101, 114, 58, 200]⟩ : ByteArray), .int .i64 130, .int .i64 11] rfl (by (try simp only [List.map_toArray, List.map_cons, List.map_nil]); first | done | rfl | (simp only [List.length_drop, List.length_take]; rfl)) ?_; (with_reducible refine (vouchlaw13_split.calls (⟨#[65, 117, 116, 104, 111, 114, 105, 122, 101, 114, 58, 200]⟩ : ByteArray) 130 11 true _ A78.out).mono ?_); rintro e w85 ⟨rfl, hb⟩; refine ⟨_, rfl, ?_⟩; have n0_ := Aside0.mk (below_step (by repeat (first | (with_reducible first | exact HB.out | apply below_alloc | apply pw_below_drewN | apply below_drew1) | exact HB.out)) hb); clear HB; have HB := n0_; clear n0_; (try clear hb); (try clear hb2); (try clear hk); (try clear hi)) | (go_at_call 25; (with_reducible refine (vouchlaw13_split.calls (⟨#[120, 0]⟩ : ByteArray) 130 1 true _ A80.out).mono ?_); rintro e w86 ⟨rfl, hb⟩; have n0_ := Aside0.mk (below_step (by repeat (first | (with_reducible first | exact HB.out | apply below_alloc | apply pw_below_drewN | apply below_drew1) | exact HB.out)) hb); clear HB; have HB := n0_; clear n0_; (try clear hb); (try clear hb2); (try clear hk); (try clear hi)) | (go_at_call 25; (with_reducible refine (vouchlaw13_split.calls (⟨#[83, 105, 103, 110, 97, 116, 117, 114, 101, 58, 10, 115, 105, 103, 110, 97, 116, 117, 114, 101, 58, 10]⟩ : ByteArray) 132 11 true _ A82.out).mono ?_); rintro e w87 ⟨rfl, hb⟩; have n0_ := Aside0.mk (below_step (by repeat (first | (with_reducible first | exact HB.out | apply below_alloc | apply pw_below_drewN | apply below_drew1) | exact HB.out)) hb); clear HB; have HB := n0_; clear n0_; (try clear hb); (try clear hb2); (try clear hk); (try clear hi)) | (go_at_call 25; (with_reducible refine (vouchlaw13_split.calls (⟨#[65, 117, 116, 104, 111, 114, 105, 122, 101, 114, 58, 10, 120]⟩ : ByteArray) 131 12 t347 _ A84.out).mono ?_); rintro e w88 ⟨rfl, hb⟩; have n0_ := Aside0.mk (below_step (by repeat (first | (with_reducible first | exact HB.out | apply below_alloc | apply pw_below_drewN | apply below_drew1) | exact HB.out)) hb); clear HB; have HB := n0_; clear n0_; (try clear hb); (try clear hb2); (try clear hk); (try clear hi)))
                                    go_meet
                                    case rel => exact ⟨_, (t347), (by first | rfl | (simp; done) | (simp [*]; done) | (repeat (first | rfl | (unfold wrap64; omega) | congr 1))), H', ⟨by have := HK1.out; have := HJ8.out; have := HJ22.out; have := HJ33.out; have := HJ58.out; first | omega | exact Nat.le_refl _⟩, ⟨by repeat (first | (with_reducible first | exact HB.out | apply below_alloc | apply pw_below_drewN | apply below_drew1) | exact HB.out)⟩⟩
                                  · replace c83 := Bool.eq_false_iff.mpr c83
                                    subst c83
                                    have H1 : (vouchlaw13_FieldsKnown.j5 kj58 x8_33 x9_58 false) = some r := by rw [if_neg (show ¬ (false = true) by decide)] at H; exact H
                                    clear H
                                    have H := H1
                                    clear H1
                                    have H' := Aside0.mk H
                                    clear H
                                    go_wp2_with (first | ((with_reducible refine gate_callee (f := 25) rfl ?_); refine goesL_ (some 110) rfl rfl Try.func25 (by kernel_rfl) rfl #[.string (⟨#[65, 117, 116, 104, 111, 114, 105, 122, 101, 114, 58, 200]⟩ : ByteArray), .int .i64 130, .int .i64 11] rfl (by (try simp only [List.map_toArray, List.map_cons, List.map_nil]); first | done | rfl | (simp only [List.length_drop, List.length_take]; rfl)) ?_; (with_reducible refine (vouchlaw13_split.calls (⟨#[65, 117, 116, 104, 111, 114, 105, 122, 101, 114, 58, 200]⟩ : ByteArray) 130 11 true _ A78.out).mono ?_); rintro e w89 ⟨rfl, hb⟩; refine ⟨_, rfl, ?_⟩; have n0_ := Aside0.mk (below_step (by repeat (first | (with_reducible first | exact HB.out | apply below_alloc | apply pw_below_drewN | apply below_drew1) | exact HB.out)) hb); clear HB; have HB := n0_; clear n0_; (try clear hb); (try clear hb2); (try clear hk); (try clear hi)) | (go_at_call 25; (with_reducible refine (vouchlaw13_split.calls (⟨#[120, 0]⟩ : ByteArray) 130 1 true _ A80.out).mono ?_); rintro e w90 ⟨rfl, hb⟩; have n0_ := Aside0.mk (below_step (by repeat (first | (with_reducible first | exact HB.out | apply below_alloc | apply pw_below_drewN | apply below_drew1) | exact HB.out)) hb); clear HB; have HB := n0_; clear n0_; (try clear hb); (try clear hb2); (try clear hk); (try clear hi)) | (go_at_call 25; (with_reducible refine (vouchlaw13_split.calls (⟨#[83, 105, 103, 110, 97, 116, 117, 114, 101, 58, 10, 115, 105, 103, 110, 97, 116, 117, 114, 101, 58, 10]⟩ : ByteArray) 132 11 false _ A82.out).mono ?_); rintro e w91 ⟨rfl, hb⟩; have n0_ := Aside0.mk (below_step (by repeat (first | (with_reducible first | exact HB.out | apply below_alloc | apply pw_below_drewN | apply below_drew1) | exact HB.out)) hb); clear HB; have HB := n0_; clear n0_; (try clear hb); (try clear hb2); (try clear hk); (try clear hi)))
                                    go_meet
                                    case rel => exact ⟨_, (false), (by first | rfl | (simp; done) | (simp [*]; done) | (repeat (first | rfl | (unfold wrap64; omega) | congr 1))), H', ⟨by have := HK1.out; have := HJ8.out; have := HJ22.out; have := HJ33.out; have := HJ58.out; first | omega | exact Nat.le_refl _⟩, ⟨by repeat (first | (with_reducible first | exact HB.out | apply below_alloc | apply pw_below_drewN | apply below_drew1) | exact HB.out)⟩⟩
                                · replace c81 := Bool.eq_false_iff.mpr c81
                                  subst c81
                                  have H1 : (vouchlaw13_FieldsKnown.j5 kj58 x8_33 x9_58 false) = some r := by rw [if_neg (show ¬ (false = true) by decide)] at H; exact H
                                  clear H
                                  have H := H1
                                  clear H1
                                  have H' := Aside0.mk H
                                  clear H
                                  go_wp2_with (first | ((with_reducible refine gate_callee (f := 25) rfl ?_); refine goesL_ (some 110) rfl rfl Try.func25 (by kernel_rfl) rfl #[.string (⟨#[65, 117, 116, 104, 111, 114, 105, 122, 101, 114, 58, 200]⟩ : ByteArray), .int .i64 130, .int .i64 11] rfl (by (try simp only [List.map_toArray, List.map_cons, List.map_nil]); first | done | rfl | (simp only [List.length_drop, List.length_take]; rfl)) ?_; (with_reducible refine (vouchlaw13_split.calls (⟨#[65, 117, 116, 104, 111, 114, 105, 122, 101, 114, 58, 200]⟩ : ByteArray) 130 11 true _ A78.out).mono ?_); rintro e w92 ⟨rfl, hb⟩; refine ⟨_, rfl, ?_⟩; have n0_ := Aside0.mk (below_step (by repeat (first | (with_reducible first | exact HB.out | apply below_alloc | apply pw_below_drewN | apply below_drew1) | exact HB.out)) hb); clear HB; have HB := n0_; clear n0_; (try clear hb); (try clear hb2); (try clear hk); (try clear hi)) | (go_at_call 25; (with_reducible refine (vouchlaw13_split.calls (⟨#[120, 0]⟩ : ByteArray) 130 1 false _ A80.out).mono ?_); rintro e w93 ⟨rfl, hb⟩; have n0_ := Aside0.mk (below_step (by repeat (first | (with_reducible first | exact HB.out | apply below_alloc | apply pw_below_drewN | apply below_drew1) | exact HB.out)) hb); clear HB; have HB := n0_; clear n0_; (try clear hb); (try clear hb2); (try clear hk); (try clear hi)))
                                  go_meet
                                  case rel => exact ⟨_, (false), (by first | rfl | (simp; done) | (simp [*]; done) | (repeat (first | rfl | (unfold wrap64; omega) | congr 1))), H', ⟨by have := HK1.out; have := HJ8.out; have := HJ22.out; have := HJ33.out; have := HJ58.out; first | omega | exact Nat.le_refl _⟩, ⟨by repeat (first | (with_reducible first | exact HB.out | apply below_alloc | apply pw_below_drewN | apply below_drew1) | exact HB.out)⟩⟩
                              · replace c79 := Bool.eq_false_iff.mpr c79
                                subst c79
                                have H1 : (vouchlaw13_FieldsKnown.j5 kj58 x8_33 x9_58 false) = some r := by rw [if_neg (show ¬ (false = true) by decide)] at H; exact H
                                clear H
                                have H := H1
                                clear H1
                                have H' := Aside0.mk H
                                clear H
                                go_wp2_with (first | ((with_reducible refine gate_callee (f := 25) rfl ?_); refine goesL_ (some 110) rfl rfl Try.func25 (by kernel_rfl) rfl #[.string (⟨#[65, 117, 116, 104, 111, 114, 105, 122, 101, 114, 58, 200]⟩ : ByteArray), .int .i64 130, .int .i64 11] rfl (by (try simp only [List.map_toArray, List.map_cons, List.map_nil]); first | done | rfl | (simp only [List.length_drop, List.length_take]; rfl)) ?_; (with_reducible refine (vouchlaw13_split.calls (⟨#[65, 117, 116, 104, 111, 114, 105, 122, 101, 114, 58, 200]⟩ : ByteArray) 130 11 false _ A78.out).mono ?_); rintro e w94 ⟨rfl, hb⟩; refine ⟨_, rfl, ?_⟩; have n0_ := Aside0.mk (below_step (by repeat (first | (with_reducible first | exact HB.out | apply below_alloc | apply pw_below_drewN | apply below_drew1) | exact HB.out)) hb); clear HB; have HB := n0_; clear n0_; (try clear hb); (try clear hb2); (try clear hk); (try clear hi)))
                                go_meet
                                case rel => exact ⟨_, (false), (by first | rfl | (simp; done) | (simp [*]; done) | (repeat (first | rfl | (unfold wrap64; omega) | congr 1))), H', ⟨by have := HK1.out; have := HJ8.out; have := HJ22.out; have := HJ33.out; have := HJ58.out; first | omega | exact Nat.le_refl _⟩, ⟨by repeat (first | (with_reducible first | exact HB.out | apply below_alloc | apply pw_below_drewN | apply below_drew1) | exact HB.out)⟩⟩
                            case rest => as_aux_lemma =>
                              clear HC77
                              try clear c1
                              try clear c1b0
                              try clear c1b1
                              try clear c2
                              try clear c2b0
                              try clear c2b1
                              try clear p2
                              try clear c3
                              try clear c3b0
                              try clear c3b1
                              try clear c3b2
                              try clear p3
                              try clear q3
                              try clear hx3
                              try clear qi3
                              try clear c4
                              try clear c4b0
                              try clear c4b1
                              try clear c4b2
                              try clear c5
                              try clear c5b0
                              try clear c5b1
                              try clear c6
                              try clear c6b0
                              try clear c6b1
                              try clear c7
                              try clear c7b0
                              try clear c7b1
                              try clear c8
                              try clear c10
                              try clear c11
                              try clear c11b0
                              try clear c11b1
                              try clear c12
                              try clear c12b0
                              try clear c12b1
                              try clear c13
                              try clear c13b0
                              try clear c13b1
                              try clear c14
                              try clear c14b0
                              try clear c14b1
                              try clear c15
                              try clear c15b0
                              try clear c15b1
                              try clear c15b2
                              try clear c21
                              try clear c25
                              try clear c25b0
                              try clear c25b1
                              try clear c26
                              try clear c26b0
                              try clear c26b1
                              try clear c27
                              try clear c27b0
                              try clear c27b1
                              try clear c28
                              try clear c28b0
                              try clear c30
                              try clear c30b0
                              try clear c30b1
                              try clear p32
                              try clear q32
                              try clear hx32
                              try clear qi32
                              try clear c33
                              try clear p33
                              try clear q33
                              try clear hx33
                              try clear qi33
                              try clear c36
                              try clear c38
                              try clear c40
                              try clear c42
                              try clear c61
                              try clear c63
                              try clear c65
                              try clear c79
                              try clear c81
                              try clear c83
                              try clear hx326_0
                              try clear hx326_1
                              try clear hx326_2
                              try clear hx326_3
                              try clear hx333_0
                              try clear hx333_1
                              try clear hx333_2
                              try clear hx333_3
                              try clear hx334_0
                              try clear hx334_1
                              try clear hx334_2
                              try clear hx334_3
                              try clear p2
                              try clear p3
                              try clear p32
                              try clear p326
                              try clear p33
                              try clear p333
                              try clear p334
                              try clear q3
                              try clear q32
                              try clear q326
                              try clear q33
                              try clear q333
                              try clear q334
                              obtain ⟨kq, x10_76, rfl, HA, HJ76, HB⟩ := hcut
                              cases kq with
                              | zero => exact absurd HA.out (by simp [vouchlaw13_FieldsKnown.j5])
                              | succ kj76 =>
                                have H := HA.out
                                clear HA
                                simp only [vouchlaw13_FieldsKnown.j5] at H
                                replace H := Option.bind_eq_some_iff.mp H
                                obtain ⟨⟨t348, t349, t350⟩, A950, H⟩ := H
                                replace H : ((fields_Find.f kj76 (⟨#[65, 117, 116, 104, 111, 114, 105, 122, 101, 114, 58, 32, 120, 10]⟩ : ByteArray) 3).bind fun bt351 => ((fields_Find.f kj76 (⟨#[]⟩ : ByteArray) 8).bind fun bt354 => ((fields_Signed.f (⟨#[65, 117, 116, 104, 111, 114, 105, 122, 101, 114, 58, 10, 32, 120, 10, 83, 105, 103, 110, 97, 116, 117, 114, 101, 58, 32, 121]⟩ : ByteArray)).bind fun bt357 => (if x8_33 = true then (if x9_58 = true then (if x10_76 = true then (if t348.toList = ([32, 120, 10] : List UInt8) then (if t349 = true then (if t350 = 0 then (if bt351.2.1 = true then (some false) else (if bt351.2.2 = 0 then (if bt354.2.2 = 2 then (if bt357.1.toList = ([65, 117, 116, 104, 111, 114, 105, 122, 101, 114, 58, 10, 32, 120, 10] : List UInt8) then (if bt357.2 = 0 then ((vouchlaw13_works.f).bind fun t359 => (some t359)) else (some false)) else (some false)) else (some false)) else (some false))) else (some false)) else (some false)) else (some false)) else (some false)) else (some false)) else (some false))))) = some r := H
                                have A95 := Aside0.mk A950
                                clear A950
                                replace H := Option.bind_eq_some_iff.mp H
                                obtain ⟨⟨t351, t352, t353⟩, A960, H⟩ := H
                                replace H : ((fields_Find.f kj76 (⟨#[]⟩ : ByteArray) 8).bind fun bt354 => ((fields_Signed.f (⟨#[65, 117, 116, 104, 111, 114, 105, 122, 101, 114, 58, 10, 32, 120, 10, 83, 105, 103, 110, 97, 116, 117, 114, 101, 58, 32, 121]⟩ : ByteArray)).bind fun bt357 => (if x8_33 = true then (if x9_58 = true then (if x10_76 = true then (if t348.toList = ([32, 120, 10] : List UInt8) then (if t349 = true then (if t350 = 0 then (if t352 = true then (some false) else (if t353 = 0 then (if bt354.2.2 = 2 then (if bt357.1.toList = ([65, 117, 116, 104, 111, 114, 105, 122, 101, 114, 58, 10, 32, 120, 10] : List UInt8) then (if bt357.2 = 0 then ((vouchlaw13_works.f).bind fun t359 => (some t359)) else (some false)) else (some false)) else (some false)) else (some false))) else (some false)) else (some false)) else (some false)) else (some false)) else (some false)) else (some false)))) = some r := H
                                have A96 := Aside0.mk A960
                                clear A960
                                replace H := Option.bind_eq_some_iff.mp H
                                obtain ⟨⟨t354, t355, t356⟩, A970, H⟩ := H
                                replace H : ((fields_Signed.f (⟨#[65, 117, 116, 104, 111, 114, 105, 122, 101, 114, 58, 10, 32, 120, 10, 83, 105, 103, 110, 97, 116, 117, 114, 101, 58, 32, 121]⟩ : ByteArray)).bind fun bt357 => (if x8_33 = true then (if x9_58 = true then (if x10_76 = true then (if t348.toList = ([32, 120, 10] : List UInt8) then (if t349 = true then (if t350 = 0 then (if t352 = true then (some false) else (if t353 = 0 then (if t356 = 2 then (if bt357.1.toList = ([65, 117, 116, 104, 111, 114, 105, 122, 101, 114, 58, 10, 32, 120, 10] : List UInt8) then (if bt357.2 = 0 then ((vouchlaw13_works.f).bind fun t359 => (some t359)) else (some false)) else (some false)) else (some false)) else (some false))) else (some false)) else (some false)) else (some false)) else (some false)) else (some false)) else (some false))) = some r := H
                                have A97 := Aside0.mk A970
                                clear A970
                                replace H := Option.bind_eq_some_iff.mp H
                                obtain ⟨⟨t357, t358⟩, A980, H⟩ := H
                                replace H : (if x8_33 = true then (if x9_58 = true then (if x10_76 = true then (if t348.toList = ([32, 120, 10] : List UInt8) then (if t349 = true then (if t350 = 0 then (if t352 = true then (some false) else (if t353 = 0 then (if t356 = 2 then (if t357.toList = ([65, 117, 116, 104, 111, 114, 105, 122, 101, 114, 58, 10, 32, 120, 10] : List UInt8) then (if t358 = 0 then ((vouchlaw13_works.f).bind fun t359 => (some t359)) else (some false)) else (some false)) else (some false)) else (some false))) else (some false)) else (some false)) else (some false)) else (some false)) else (some false)) else (some false)) = some r := H
                                have A98 := Aside0.mk A980
                                clear A980
                                by_cases c99 : x8_33 = true
                                · subst c99
                                  have H1 : (if x9_58 = true then (if x10_76 = true then (if t348.toList = ([32, 120, 10] : List UInt8) then (if t349 = true then (if t350 = 0 then (if t352 = true then (some false) else (if t353 = 0 then (if t356 = 2 then (if t357.toList = ([65, 117, 116, 104, 111, 114, 105, 122, 101, 114, 58, 10, 32, 120, 10] : List UInt8) then (if t358 = 0 then ((vouchlaw13_works.f).bind fun t359 => (some t359)) else (some false)) else (some false)) else (some false)) else (some false))) else (some false)) else (some false)) else (some false)) else (some false)) else (some false)) = some r := by rw [if_pos rfl] at H; exact H
                                  clear H
                                  have H := H1
                                  clear H1
                                  by_cases c100 : x9_58 = true
                                  · subst c100
                                    have H1 : (if x10_76 = true then (if t348.toList = ([32, 120, 10] : List UInt8) then (if t349 = true then (if t350 = 0 then (if t352 = true then (some false) else (if t353 = 0 then (if t356 = 2 then (if t357.toList = ([65, 117, 116, 104, 111, 114, 105, 122, 101, 114, 58, 10, 32, 120, 10] : List UInt8) then (if t358 = 0 then ((vouchlaw13_works.f).bind fun t359 => (some t359)) else (some false)) else (some false)) else (some false)) else (some false))) else (some false)) else (some false)) else (some false)) else (some false)) = some r := by rw [if_pos rfl] at H; exact H
                                    clear H
                                    have H := H1
                                    clear H1
                                    by_cases c101 : x10_76 = true
                                    · subst c101
                                      have H1 : (if t348.toList = ([32, 120, 10] : List UInt8) then (if t349 = true then (if t350 = 0 then (if t352 = true then (some false) else (if t353 = 0 then (if t356 = 2 then (if t357.toList = ([65, 117, 116, 104, 111, 114, 105, 122, 101, 114, 58, 10, 32, 120, 10] : List UInt8) then (if t358 = 0 then ((vouchlaw13_works.f).bind fun t359 => (some t359)) else (some false)) else (some false)) else (some false)) else (some false))) else (some false)) else (some false)) else (some false)) = some r := by rw [if_pos rfl] at H; exact H
                                      clear H
                                      have H := H1
                                      clear H1
                                      by_cases c102 : t348.toList = ([32, 120, 10] : List UInt8)
                                      · rw [if_pos c102] at H
                                        have c102b0 : (t348.toList == ([32, 120, 10] : List UInt8)) = true := beq_iff_eq.mpr c102
                                        have c102b1 : (t348.toList != ([32, 120, 10] : List UInt8)) = false := bne_eq_false_iff_eq.mpr c102
                                        clear c102
                                        by_cases c103 : t349 = true
                                        · subst c103
                                          have H1 : (if t350 = 0 then (if t352 = true then (some false) else (if t353 = 0 then (if t356 = 2 then (if t357.toList = ([65, 117, 116, 104, 111, 114, 105, 122, 101, 114, 58, 10, 32, 120, 10] : List UInt8) then (if t358 = 0 then ((vouchlaw13_works.f).bind fun t359 => (some t359)) else (some false)) else (some false)) else (some false)) else (some false))) else (some false)) = some r := by rw [if_pos rfl] at H; exact H
                                          clear H
                                          have H := H1
                                          clear H1
                                          by_cases c104 : t350 = 0
                                          · rw [if_pos c104] at H
                                            have c104b0 : (t350 == 0) = true := beq_iff_eq.mpr c104
                                            have c104b1 : (t350 != 0) = false := bne_eq_false_iff_eq.mpr c104
                                            clear c104
                                            by_cases c105 : t352 = true
                                            · subst c105
                                              have H1 : (some false) = some r := by rw [if_pos rfl] at H; exact H
                                              clear H
                                              have H := H1
                                              clear H1
                                              obtain rfl := Option.some.inj H
                                              go_wp2_with (first | ((with_reducible refine gate_callee (f := 22) rfl ?_); refine goesL_ (some 121) rfl rfl Try.func22 (by kernel_rfl) rfl #[.string (⟨#[65, 117, 116, 104, 111, 114, 105, 122, 101, 114, 58, 32, 120, 10]⟩ : ByteArray), .int .u8 2] rfl (by (try simp only [List.map_toArray, List.map_cons, List.map_nil]); first | done | rfl | (simp only [List.length_drop, List.length_take]; rfl)) ?_; (with_reducible refine (fields_Find.calls kj76 (⟨#[65, 117, 116, 104, 111, 114, 105, 122, 101, 114, 58, 32, 120, 10]⟩ : ByteArray) 2 t348 true t350 _ A95.out).mono ?_); rintro e w106 ⟨rfl, hb⟩; refine ⟨_, rfl, ?_⟩; have n0_ := Aside0.mk (below_step (by repeat (first | (with_reducible first | exact HB.out | apply below_alloc | apply pw_below_drewN | apply below_drew1) | exact HB.out)) hb); clear HB; have HB := n0_; clear n0_; (try clear hb); (try clear hb2); (try clear hk); (try clear hi)) | ((with_reducible refine gate_callee (f := 22) rfl ?_); refine goesL_ (some 126) rfl rfl Try.func22 (by kernel_rfl) rfl #[.string (⟨#[65, 117, 116, 104, 111, 114, 105, 122, 101, 114, 58, 32, 120, 10]⟩ : ByteArray), .int .u8 3] rfl (by (try simp only [List.map_toArray, List.map_cons, List.map_nil]); first | done | rfl | (simp only [List.length_drop, List.length_take]; rfl)) ?_; (with_reducible refine (fields_Find.calls kj76 (⟨#[65, 117, 116, 104, 111, 114, 105, 122, 101, 114, 58, 32, 120, 10]⟩ : ByteArray) 3 t351 true t353 _ A96.out).mono ?_); rintro e w107 ⟨rfl, hb⟩; refine ⟨_, rfl, ?_⟩; have n0_ := Aside0.mk (below_step (by repeat (first | (with_reducible first | exact HB.out | apply below_alloc | apply pw_below_drewN | apply below_drew1) | exact HB.out)) hb); clear HB; have HB := n0_; clear n0_; (try clear hb); (try clear hb2); (try clear hk); (try clear hi)) | ((with_reducible refine gate_callee (f := 22) rfl ?_); refine goesL_ (some 131) rfl rfl Try.func22 (by kernel_rfl) rfl #[.string (⟨#[]⟩ : ByteArray), .int .u8 8] rfl (by (try simp only [List.map_toArray, List.map_cons, List.map_nil]); first | done | rfl | (simp only [List.length_drop, List.length_take]; rfl)) ?_; (with_reducible refine (fields_Find.calls kj76 (⟨#[]⟩ : ByteArray) 8 t354 t355 t356 _ A97.out).mono ?_); rintro e w108 ⟨rfl, hb⟩; refine ⟨_, rfl, ?_⟩; have n0_ := Aside0.mk (below_step (by repeat (first | (with_reducible first | exact HB.out | apply below_alloc | apply pw_below_drewN | apply below_drew1) | exact HB.out)) hb); clear HB; have HB := n0_; clear n0_; (try clear hb); (try clear hb2); (try clear hk); (try clear hi)) | ((with_reducible refine gate_callee (f := 19) rfl ?_); refine goesL_ (some 136) rfl rfl Try.func19 (by kernel_rfl) rfl #[.string (⟨#[65, 117, 116, 104, 111, 114, 105, 122, 101, 114, 58, 10, 32, 120, 10, 83, 105, 103, 110, 97, 116, 117, 114, 101, 58, 32, 121]⟩ : ByteArray)] rfl (by (try simp only [List.map_toArray, List.map_cons, List.map_nil]); first | done | rfl | (simp only [List.length_drop, List.length_take]; rfl)) ?_; (with_reducible refine (fields_Signed.calls (⟨#[65, 117, 116, 104, 111, 114, 105, 122, 101, 114, 58, 10, 32, 120, 10, 83, 105, 103, 110, 97, 116, 117, 114, 101, 58, 32, 121]⟩ : ByteArray) t357 t358 _ A98.out).mono ?_); rintro e w109 ⟨rfl, hb⟩; refine ⟨_, rfl, ?_⟩; have n0_ := Aside0.mk (below_step (by repeat (first | (with_reducible first | exact HB.out | apply below_alloc | apply pw_below_drewN | apply below_drew1) | exact HB.out)) hb); clear HB; have HB := n0_; clear n0_; (try clear hb); (try clear hb2); (try clear hk); (try clear hi)))
                                              go_ret
                                              exact ⟨by first | rfl | (simp [errW_none, errW_some] <;> rfl) | (simp [*, errW_none, errW_some] <;> rfl), by repeat (first | (with_reducible first | exact HB.out | apply below_alloc | apply pw_below_drewN | apply below_drew1) | exact HB.out)⟩
                                            · replace c105 := Bool.eq_false_iff.mpr c105
                                              subst c105
                                              have H1 : (if t353 = 0 then (if t356 = 2 then (if t357.toList = ([65, 117, 116, 104, 111, 114, 105, 122, 101, 114, 58, 10, 32, 120, 10] : List UInt8) then (if t358 = 0 then ((vouchlaw13_works.f).bind fun t359 => (some t359)) else (some false)) else (some false)) else (some false)) else (some false)) = some r := by rw [if_neg (show ¬ (false = true) by decide)] at H; exact H
                                              clear H
                                              have H := H1
                                              clear H1
                                              by_cases c110 : t353 = 0
                                              · rw [if_pos c110] at H
                                                have c110b0 : (t353 == 0) = true := beq_iff_eq.mpr c110
                                                have c110b1 : (t353 != 0) = false := bne_eq_false_iff_eq.mpr c110
                                                clear c110
                                                by_cases c111 : t356 = 2
                                                · rw [if_pos c111] at H
                                                  have c111b0 : (t356 == 2) = true := beq_iff_eq.mpr c111
                                                  have c111b1 : (t356 != 2) = false := bne_eq_false_iff_eq.mpr c111
                                                  clear c111
                                                  by_cases c112 : t357.toList = ([65, 117, 116, 104, 111, 114, 105, 122, 101, 114, 58, 10, 32, 120, 10] : List UInt8)
                                                  · rw [if_pos c112] at H
                                                    have c112b0 : (t357.toList == ([65, 117, 116, 104, 111, 114, 105, 122, 101, 114, 58, 10, 32, 120, 10] : List UInt8)) = true := beq_iff_eq.mpr c112
                                                    have c112b1 : (t357.toList != ([65, 117, 116, 104, 111, 114, 105, 122, 101, 114, 58, 10, 32, 120, 10] : List UInt8)) = false := bne_eq_false_iff_eq.mpr c112
                                                    clear c112
                                                    by_cases c113 : t358 = 0
                                                    · rw [if_pos c113] at H
                                                      have c113b0 : (t358 == 0) = true := beq_iff_eq.mpr c113
                                                      have c113b1 : (t358 != 0) = false := bne_eq_false_iff_eq.mpr c113
                                                      clear c113
                                                      replace H := Option.bind_eq_some_iff.mp H
                                                      obtain ⟨t359, A1140, H⟩ := H
                                                      replace H : (some t359) = some r := H
                                                      have A114 := Aside0.mk A1140
                                                      clear A1140
                                                      obtain rfl := Option.some.inj H
                                                      go_wp2_with (first | ((with_reducible refine gate_callee (f := 22) rfl ?_); refine goesL_ (some 121) rfl rfl Try.func22 (by kernel_rfl) rfl #[.string (⟨#[65, 117, 116, 104, 111, 114, 105, 122, 101, 114, 58, 32, 120, 10]⟩ : ByteArray), .int .u8 2] rfl (by (try simp only [List.map_toArray, List.map_cons, List.map_nil]); first | done | rfl | (simp only [List.length_drop, List.length_take]; rfl)) ?_; (with_reducible refine (fields_Find.calls kj76 (⟨#[65, 117, 116, 104, 111, 114, 105, 122, 101, 114, 58, 32, 120, 10]⟩ : ByteArray) 2 t348 true t350 _ A95.out).mono ?_); rintro e w115 ⟨rfl, hb⟩; refine ⟨_, rfl, ?_⟩; have n0_ := Aside0.mk (below_step (by repeat (first | (with_reducible first | exact HB.out | apply below_alloc | apply pw_below_drewN | apply below_drew1) | exact HB.out)) hb); clear HB; have HB := n0_; clear n0_; (try clear hb); (try clear hb2); (try clear hk); (try clear hi)) | ((with_reducible refine gate_callee (f := 22) rfl ?_); refine goesL_ (some 126) rfl rfl Try.func22 (by kernel_rfl) rfl #[.string (⟨#[65, 117, 116, 104, 111, 114, 105, 122, 101, 114, 58, 32, 120, 10]⟩ : ByteArray), .int .u8 3] rfl (by (try simp only [List.map_toArray, List.map_cons, List.map_nil]); first | done | rfl | (simp only [List.length_drop, List.length_take]; rfl)) ?_; (with_reducible refine (fields_Find.calls kj76 (⟨#[65, 117, 116, 104, 111, 114, 105, 122, 101, 114, 58, 32, 120, 10]⟩ : ByteArray) 3 t351 false t353 _ A96.out).mono ?_); rintro e w116 ⟨rfl, hb⟩; refine ⟨_, rfl, ?_⟩; have n0_ := Aside0.mk (below_step (by repeat (first | (with_reducible first | exact HB.out | apply below_alloc | apply pw_below_drewN | apply below_drew1) | exact HB.out)) hb); clear HB; have HB := n0_; clear n0_; (try clear hb); (try clear hb2); (try clear hk); (try clear hi)) | ((with_reducible refine gate_callee (f := 22) rfl ?_); refine goesL_ (some 131) rfl rfl Try.func22 (by kernel_rfl) rfl #[.string (⟨#[]⟩ : ByteArray), .int .u8 8] rfl (by (try simp only [List.map_toArray, List.map_cons, List.map_nil]); first | done | rfl | (simp only [List.length_drop, List.length_take]; rfl)) ?_; (with_reducible refine (fields_Find.calls kj76 (⟨#[]⟩ : ByteArray) 8 t354 t355 t356 _ A97.out).mono ?_); rintro e w117 ⟨rfl, hb⟩; refine ⟨_, rfl, ?_⟩; have n0_ := Aside0.mk (below_step (by repeat (first | (with_reducible first | exact HB.out | apply below_alloc | apply pw_below_drewN | apply below_drew1) | exact HB.out)) hb); clear HB; have HB := n0_; clear n0_; (try clear hb); (try clear hb2); (try clear hk); (try clear hi)) | ((with_reducible refine gate_callee (f := 19) rfl ?_); refine goesL_ (some 136) rfl rfl Try.func19 (by kernel_rfl) rfl #[.string (⟨#[65, 117, 116, 104, 111, 114, 105, 122, 101, 114, 58, 10, 32, 120, 10, 83, 105, 103, 110, 97, 116, 117, 114, 101, 58, 32, 121]⟩ : ByteArray)] rfl (by (try simp only [List.map_toArray, List.map_cons, List.map_nil]); first | done | rfl | (simp only [List.length_drop, List.length_take]; rfl)) ?_; (with_reducible refine (fields_Signed.calls (⟨#[65, 117, 116, 104, 111, 114, 105, 122, 101, 114, 58, 10, 32, 120, 10, 83, 105, 103, 110, 97, 116, 117, 114, 101, 58, 32, 121]⟩ : ByteArray) t357 t358 _ A98.out).mono ?_); rintro e w118 ⟨rfl, hb⟩; refine ⟨_, rfl, ?_⟩; have n0_ := Aside0.mk (below_step (by repeat (first | (with_reducible first | exact HB.out | apply below_alloc | apply pw_below_drewN | apply below_drew1) | exact HB.out)) hb); clear HB; have HB := n0_; clear n0_; (try clear hb); (try clear hb2); (try clear hk); (try clear hi)) | (go_at_call 14; (with_reducible refine (vouchlaw13_works.calls  t359 _ A114.out).mono ?_); rintro e w119 ⟨rfl, hb⟩; have n0_ := Aside0.mk (below_step (by repeat (first | (with_reducible first | exact HB.out | apply below_alloc | apply pw_below_drewN | apply below_drew1) | exact HB.out)) hb); clear HB; have HB := n0_; clear n0_; (try clear hb); (try clear hb2); (try clear hk); (try clear hi)))
                                                      go_ret
                                                      exact ⟨by first | rfl | (simp [errW_none, errW_some] <;> rfl) | (simp [*, errW_none, errW_some] <;> rfl), by repeat (first | (with_reducible first | exact HB.out | apply below_alloc | apply pw_below_drewN | apply below_drew1) | exact HB.out)⟩
                                                    · rw [if_neg c113] at H
                                                      have c113b0 : (t358 == 0) = false := beq_eq_false_iff_ne.mpr c113
                                                      have c113b1 : (t358 != 0) = true := bne_iff_ne.mpr c113
                                                      obtain rfl := Option.some.inj H
                                                      go_wp2_with (first | ((with_reducible refine gate_callee (f := 22) rfl ?_); refine goesL_ (some 121) rfl rfl Try.func22 (by kernel_rfl) rfl #[.string (⟨#[65, 117, 116, 104, 111, 114, 105, 122, 101, 114, 58, 32, 120, 10]⟩ : ByteArray), .int .u8 2] rfl (by (try simp only [List.map_toArray, List.map_cons, List.map_nil]); first | done | rfl | (simp only [List.length_drop, List.length_take]; rfl)) ?_; (with_reducible refine (fields_Find.calls kj76 (⟨#[65, 117, 116, 104, 111, 114, 105, 122, 101, 114, 58, 32, 120, 10]⟩ : ByteArray) 2 t348 true t350 _ A95.out).mono ?_); rintro e w120 ⟨rfl, hb⟩; refine ⟨_, rfl, ?_⟩; have n0_ := Aside0.mk (below_step (by repeat (first | (with_reducible first | exact HB.out | apply below_alloc | apply pw_below_drewN | apply below_drew1) | exact HB.out)) hb); clear HB; have HB := n0_; clear n0_; (try clear hb); (try clear hb2); (try clear hk); (try clear hi)) | ((with_reducible refine gate_callee (f := 22) rfl ?_); refine goesL_ (some 126) rfl rfl Try.func22 (by kernel_rfl) rfl #[.string (⟨#[65, 117, 116, 104, 111, 114, 105, 122, 101, 114, 58, 32, 120, 10]⟩ : ByteArray), .int .u8 3] rfl (by (try simp only [List.map_toArray, List.map_cons, List.map_nil]); first | done | rfl | (simp only [List.length_drop, List.length_take]; rfl)) ?_; (with_reducible refine (fields_Find.calls kj76 (⟨#[65, 117, 116, 104, 111, 114, 105, 122, 101, 114, 58, 32, 120, 10]⟩ : ByteArray) 3 t351 false t353 _ A96.out).mono ?_); rintro e w121 ⟨rfl, hb⟩; refine ⟨_, rfl, ?_⟩; have n0_ := Aside0.mk (below_step (by repeat (first | (with_reducible first | exact HB.out | apply below_alloc | apply pw_below_drewN | apply below_drew1) | exact HB.out)) hb); clear HB; have HB := n0_; clear n0_; (try clear hb); (try clear hb2); (try clear hk); (try clear hi)) | ((with_reducible refine gate_callee (f := 22) rfl ?_); refine goesL_ (some 131) rfl rfl Try.func22 (by kernel_rfl) rfl #[.string (⟨#[]⟩ : ByteArray), .int .u8 8] rfl (by (try simp only [List.map_toArray, List.map_cons, List.map_nil]); first | done | rfl | (simp only [List.length_drop, List.length_take]; rfl)) ?_; (with_reducible refine (fields_Find.calls kj76 (⟨#[]⟩ : ByteArray) 8 t354 t355 t356 _ A97.out).mono ?_); rintro e w122 ⟨rfl, hb⟩; refine ⟨_, rfl, ?_⟩; have n0_ := Aside0.mk (below_step (by repeat (first | (with_reducible first | exact HB.out | apply below_alloc | apply pw_below_drewN | apply below_drew1) | exact HB.out)) hb); clear HB; have HB := n0_; clear n0_; (try clear hb); (try clear hb2); (try clear hk); (try clear hi)) | ((with_reducible refine gate_callee (f := 19) rfl ?_); refine goesL_ (some 136) rfl rfl Try.func19 (by kernel_rfl) rfl #[.string (⟨#[65, 117, 116, 104, 111, 114, 105, 122, 101, 114, 58, 10, 32, 120, 10, 83, 105, 103, 110, 97, 116, 117, 114, 101, 58, 32, 121]⟩ : ByteArray)] rfl (by (try simp only [List.map_toArray, List.map_cons, List.map_nil]); first | done | rfl | (simp only [List.length_drop, List.length_take]; rfl)) ?_; (with_reducible refine (fields_Signed.calls (⟨#[65, 117, 116, 104, 111, 114, 105, 122, 101, 114, 58, 10, 32, 120, 10, 83, 105, 103, 110, 97, 116, 117, 114, 101, 58, 32, 121]⟩ : ByteArray) t357 t358 _ A98.out).mono ?_); rintro e w123 ⟨rfl, hb⟩; refine ⟨_, rfl, ?_⟩; have n0_ := Aside0.mk (below_step (by repeat (first | (with_reducible first | exact HB.out | apply below_alloc | apply pw_below_drewN | apply below_drew1) | exact HB.out)) hb); clear HB; have HB := n0_; clear n0_; (try clear hb); (try clear hb2); (try clear hk); (try clear hi)))
                                                      go_ret
                                                      exact ⟨by first | rfl | (simp [errW_none, errW_some] <;> rfl) | (simp [*, errW_none, errW_some] <;> rfl), by repeat (first | (with_reducible first | exact HB.out | apply below_alloc | apply pw_below_drewN | apply below_drew1) | exact HB.out)⟩
                                                  · rw [if_neg c112] at H
                                                    have c112b0 : (t357.toList == ([65, 117, 116, 104, 111, 114, 105, 122, 101, 114, 58, 10, 32, 120, 10] : List UInt8)) = false := beq_eq_false_iff_ne.mpr c112
                                                    have c112b1 : (t357.toList != ([65, 117, 116, 104, 111, 114, 105, 122, 101, 114, 58, 10, 32, 120, 10] : List UInt8)) = true := bne_iff_ne.mpr c112
                                                    obtain rfl := Option.some.inj H
                                                    go_wp2_with (first | ((with_reducible refine gate_callee (f := 22) rfl ?_); refine goesL_ (some 121) rfl rfl Try.func22 (by kernel_rfl) rfl #[.string (⟨#[65, 117, 116, 104, 111, 114, 105, 122, 101, 114, 58, 32, 120, 10]⟩ : ByteArray), .int .u8 2] rfl (by (try simp only [List.map_toArray, List.map_cons, List.map_nil]); first | done | rfl | (simp only [List.length_drop, List.length_take]; rfl)) ?_; (with_reducible refine (fields_Find.calls kj76 (⟨#[65, 117, 116, 104, 111, 114, 105, 122, 101, 114, 58, 32, 120, 10]⟩ : ByteArray) 2 t348 true t350 _ A95.out).mono ?_); rintro e w124 ⟨rfl, hb⟩; refine ⟨_, rfl, ?_⟩; have n0_ := Aside0.mk (below_step (by repeat (first | (with_reducible first | exact HB.out | apply below_alloc | apply pw_below_drewN | apply below_drew1) | exact HB.out)) hb); clear HB; have HB := n0_; clear n0_; (try clear hb); (try clear hb2); (try clear hk); (try clear hi)) | ((with_reducible refine gate_callee (f := 22) rfl ?_); refine goesL_ (some 126) rfl rfl Try.func22 (by kernel_rfl) rfl #[.string (⟨#[65, 117, 116, 104, 111, 114, 105, 122, 101, 114, 58, 32, 120, 10]⟩ : ByteArray), .int .u8 3] rfl (by (try simp only [List.map_toArray, List.map_cons, List.map_nil]); first | done | rfl | (simp only [List.length_drop, List.length_take]; rfl)) ?_; (with_reducible refine (fields_Find.calls kj76 (⟨#[65, 117, 116, 104, 111, 114, 105, 122, 101, 114, 58, 32, 120, 10]⟩ : ByteArray) 3 t351 false t353 _ A96.out).mono ?_); rintro e w125 ⟨rfl, hb⟩; refine ⟨_, rfl, ?_⟩; have n0_ := Aside0.mk (below_step (by repeat (first | (with_reducible first | exact HB.out | apply below_alloc | apply pw_below_drewN | apply below_drew1) | exact HB.out)) hb); clear HB; have HB := n0_; clear n0_; (try clear hb); (try clear hb2); (try clear hk); (try clear hi)) | ((with_reducible refine gate_callee (f := 22) rfl ?_); refine goesL_ (some 131) rfl rfl Try.func22 (by kernel_rfl) rfl #[.string (⟨#[]⟩ : ByteArray), .int .u8 8] rfl (by (try simp only [List.map_toArray, List.map_cons, List.map_nil]); first | done | rfl | (simp only [List.length_drop, List.length_take]; rfl)) ?_; (with_reducible refine (fields_Find.calls kj76 (⟨#[]⟩ : ByteArray) 8 t354 t355 t356 _ A97.out).mono ?_); rintro e w126 ⟨rfl, hb⟩; refine ⟨_, rfl, ?_⟩; have n0_ := Aside0.mk (below_step (by repeat (first | (with_reducible first | exact HB.out | apply below_alloc | apply pw_below_drewN | apply below_drew1) | exact HB.out)) hb); clear HB; have HB := n0_; clear n0_; (try clear hb); (try clear hb2); (try clear hk); (try clear hi)) | ((with_reducible refine gate_callee (f := 19) rfl ?_); refine goesL_ (some 136) rfl rfl Try.func19 (by kernel_rfl) rfl #[.string (⟨#[65, 117, 116, 104, 111, 114, 105, 122, 101, 114, 58, 10, 32, 120, 10, 83, 105, 103, 110, 97, 116, 117, 114, 101, 58, 32, 121]⟩ : ByteArray)] rfl (by (try simp only [List.map_toArray, List.map_cons, List.map_nil]); first | done | rfl | (simp only [List.length_drop, List.length_take]; rfl)) ?_; (with_reducible refine (fields_Signed.calls (⟨#[65, 117, 116, 104, 111, 114, 105, 122, 101, 114, 58, 10, 32, 120, 10, 83, 105, 103, 110, 97, 116, 117, 114, 101, 58, 32, 121]⟩ : ByteArray) t357 t358 _ A98.out).mono ?_); rintro e w127 ⟨rfl, hb⟩; refine ⟨_, rfl, ?_⟩; have n0_ := Aside0.mk (below_step (by repeat (first | (with_reducible first | exact HB.out | apply below_alloc | apply pw_below_drewN | apply below_drew1) | exact HB.out)) hb); clear HB; have HB := n0_; clear n0_; (try clear hb); (try clear hb2); (try clear hk); (try clear hi)))
                                                    go_ret
                                                    exact ⟨by first | rfl | (simp [errW_none, errW_some] <;> rfl) | (simp [*, errW_none, errW_some] <;> rfl), by repeat (first | (with_reducible first | exact HB.out | apply below_alloc | apply pw_below_drewN | apply below_drew1) | exact HB.out)⟩
                                                · rw [if_neg c111] at H
                                                  have c111b0 : (t356 == 2) = false := beq_eq_false_iff_ne.mpr c111
                                                  have c111b1 : (t356 != 2) = true := bne_iff_ne.mpr c111
                                                  obtain rfl := Option.some.inj H
                                                  go_wp2_with (first | ((with_reducible refine gate_callee (f := 22) rfl ?_); refine goesL_ (some 121) rfl rfl Try.func22 (by kernel_rfl) rfl #[.string (⟨#[65, 117, 116, 104, 111, 114, 105, 122, 101, 114, 58, 32, 120, 10]⟩ : ByteArray), .int .u8 2] rfl (by (try simp only [List.map_toArray, List.map_cons, List.map_nil]); first | done | rfl | (simp only [List.length_drop, List.length_take]; rfl)) ?_; (with_reducible refine (fields_Find.calls kj76 (⟨#[65, 117, 116, 104, 111, 114, 105, 122, 101, 114, 58, 32, 120, 10]⟩ : ByteArray) 2 t348 true t350 _ A95.out).mono ?_); rintro e w128 ⟨rfl, hb⟩; refine ⟨_, rfl, ?_⟩; have n0_ := Aside0.mk (below_step (by repeat (first | (with_reducible first | exact HB.out | apply below_alloc | apply pw_below_drewN | apply below_drew1) | exact HB.out)) hb); clear HB; have HB := n0_; clear n0_; (try clear hb); (try clear hb2); (try clear hk); (try clear hi)) | ((with_reducible refine gate_callee (f := 22) rfl ?_); refine goesL_ (some 126) rfl rfl Try.func22 (by kernel_rfl) rfl #[.string (⟨#[65, 117, 116, 104, 111, 114, 105, 122, 101, 114, 58, 32, 120, 10]⟩ : ByteArray), .int .u8 3] rfl (by (try simp only [List.map_toArray, List.map_cons, List.map_nil]); first | done | rfl | (simp only [List.length_drop, List.length_take]; rfl)) ?_; (with_reducible refine (fields_Find.calls kj76 (⟨#[65, 117, 116, 104, 111, 114, 105, 122, 101, 114, 58, 32, 120, 10]⟩ : ByteArray) 3 t351 false t353 _ A96.out).mono ?_); rintro e w129 ⟨rfl, hb⟩; refine ⟨_, rfl, ?_⟩; have n0_ := Aside0.mk (below_step (by repeat (first | (with_reducible first | exact HB.out | apply below_alloc | apply pw_below_drewN | apply below_drew1) | exact HB.out)) hb); clear HB; have HB := n0_; clear n0_; (try clear hb); (try clear hb2); (try clear hk); (try clear hi)) | ((with_reducible refine gate_callee (f := 22) rfl ?_); refine goesL_ (some 131) rfl rfl Try.func22 (by kernel_rfl) rfl #[.string (⟨#[]⟩ : ByteArray), .int .u8 8] rfl (by (try simp only [List.map_toArray, List.map_cons, List.map_nil]); first | done | rfl | (simp only [List.length_drop, List.length_take]; rfl)) ?_; (with_reducible refine (fields_Find.calls kj76 (⟨#[]⟩ : ByteArray) 8 t354 t355 t356 _ A97.out).mono ?_); rintro e w130 ⟨rfl, hb⟩; refine ⟨_, rfl, ?_⟩; have n0_ := Aside0.mk (below_step (by repeat (first | (with_reducible first | exact HB.out | apply below_alloc | apply pw_below_drewN | apply below_drew1) | exact HB.out)) hb); clear HB; have HB := n0_; clear n0_; (try clear hb); (try clear hb2); (try clear hk); (try clear hi)) | ((with_reducible refine gate_callee (f := 19) rfl ?_); refine goesL_ (some 136) rfl rfl Try.func19 (by kernel_rfl) rfl #[.string (⟨#[65, 117, 116, 104, 111, 114, 105, 122, 101, 114, 58, 10, 32, 120, 10, 83, 105, 103, 110, 97, 116, 117, 114, 101, 58, 32, 121]⟩ : ByteArray)] rfl (by (try simp only [List.map_toArray, List.map_cons, List.map_nil]); first | done | rfl | (simp only [List.length_drop, List.length_take]; rfl)) ?_; (with_reducible refine (fields_Signed.calls (⟨#[65, 117, 116, 104, 111, 114, 105, 122, 101, 114, 58, 10, 32, 120, 10, 83, 105, 103, 110, 97, 116, 117, 114, 101, 58, 32, 121]⟩ : ByteArray) t357 t358 _ A98.out).mono ?_); rintro e w131 ⟨rfl, hb⟩; refine ⟨_, rfl, ?_⟩; have n0_ := Aside0.mk (below_step (by repeat (first | (with_reducible first | exact HB.out | apply below_alloc | apply pw_below_drewN | apply below_drew1) | exact HB.out)) hb); clear HB; have HB := n0_; clear n0_; (try clear hb); (try clear hb2); (try clear hk); (try clear hi)))
                                                  go_ret
                                                  exact ⟨by first | rfl | (simp [errW_none, errW_some] <;> rfl) | (simp [*, errW_none, errW_some] <;> rfl), by repeat (first | (with_reducible first | exact HB.out | apply below_alloc | apply pw_below_drewN | apply below_drew1) | exact HB.out)⟩
                                              · rw [if_neg c110] at H
                                                have c110b0 : (t353 == 0) = false := beq_eq_false_iff_ne.mpr c110
                                                have c110b1 : (t353 != 0) = true := bne_iff_ne.mpr c110
                                                obtain rfl := Option.some.inj H
                                                go_wp2_with (first | ((with_reducible refine gate_callee (f := 22) rfl ?_); refine goesL_ (some 121) rfl rfl Try.func22 (by kernel_rfl) rfl #[.string (⟨#[65, 117, 116, 104, 111, 114, 105, 122, 101, 114, 58, 32, 120, 10]⟩ : ByteArray), .int .u8 2] rfl (by (try simp only [List.map_toArray, List.map_cons, List.map_nil]); first | done | rfl | (simp only [List.length_drop, List.length_take]; rfl)) ?_; (with_reducible refine (fields_Find.calls kj76 (⟨#[65, 117, 116, 104, 111, 114, 105, 122, 101, 114, 58, 32, 120, 10]⟩ : ByteArray) 2 t348 true t350 _ A95.out).mono ?_); rintro e w132 ⟨rfl, hb⟩; refine ⟨_, rfl, ?_⟩; have n0_ := Aside0.mk (below_step (by repeat (first | (with_reducible first | exact HB.out | apply below_alloc | apply pw_below_drewN | apply below_drew1) | exact HB.out)) hb); clear HB; have HB := n0_; clear n0_; (try clear hb); (try clear hb2); (try clear hk); (try clear hi)) | ((with_reducible refine gate_callee (f := 22) rfl ?_); refine goesL_ (some 126) rfl rfl Try.func22 (by kernel_rfl) rfl #[.string (⟨#[65, 117, 116, 104, 111, 114, 105, 122, 101, 114, 58, 32, 120, 10]⟩ : ByteArray), .int .u8 3] rfl (by (try simp only [List.map_toArray, List.map_cons, List.map_nil]); first | done | rfl | (simp only [List.length_drop, List.length_take]; rfl)) ?_; (with_reducible refine (fields_Find.calls kj76 (⟨#[65, 117, 116, 104, 111, 114, 105, 122, 101, 114, 58, 32, 120, 10]⟩ : ByteArray) 3 t351 false t353 _ A96.out).mono ?_); rintro e w133 ⟨rfl, hb⟩; refine ⟨_, rfl, ?_⟩; have n0_ := Aside0.mk (below_step (by repeat (first | (with_reducible first | exact HB.out | apply below_alloc | apply pw_below_drewN | apply below_drew1) | exact HB.out)) hb); clear HB; have HB := n0_; clear n0_; (try clear hb); (try clear hb2); (try clear hk); (try clear hi)) | ((with_reducible refine gate_callee (f := 22) rfl ?_); refine goesL_ (some 131) rfl rfl Try.func22 (by kernel_rfl) rfl #[.string (⟨#[]⟩ : ByteArray), .int .u8 8] rfl (by (try simp only [List.map_toArray, List.map_cons, List.map_nil]); first | done | rfl | (simp only [List.length_drop, List.length_take]; rfl)) ?_; (with_reducible refine (fields_Find.calls kj76 (⟨#[]⟩ : ByteArray) 8 t354 t355 t356 _ A97.out).mono ?_); rintro e w134 ⟨rfl, hb⟩; refine ⟨_, rfl, ?_⟩; have n0_ := Aside0.mk (below_step (by repeat (first | (with_reducible first | exact HB.out | apply below_alloc | apply pw_below_drewN | apply below_drew1) | exact HB.out)) hb); clear HB; have HB := n0_; clear n0_; (try clear hb); (try clear hb2); (try clear hk); (try clear hi)) | ((with_reducible refine gate_callee (f := 19) rfl ?_); refine goesL_ (some 136) rfl rfl Try.func19 (by kernel_rfl) rfl #[.string (⟨#[65, 117, 116, 104, 111, 114, 105, 122, 101, 114, 58, 10, 32, 120, 10, 83, 105, 103, 110, 97, 116, 117, 114, 101, 58, 32, 121]⟩ : ByteArray)] rfl (by (try simp only [List.map_toArray, List.map_cons, List.map_nil]); first | done | rfl | (simp only [List.length_drop, List.length_take]; rfl)) ?_; (with_reducible refine (fields_Signed.calls (⟨#[65, 117, 116, 104, 111, 114, 105, 122, 101, 114, 58, 10, 32, 120, 10, 83, 105, 103, 110, 97, 116, 117, 114, 101, 58, 32, 121]⟩ : ByteArray) t357 t358 _ A98.out).mono ?_); rintro e w135 ⟨rfl, hb⟩; refine ⟨_, rfl, ?_⟩; have n0_ := Aside0.mk (below_step (by repeat (first | (with_reducible first | exact HB.out | apply below_alloc | apply pw_below_drewN | apply below_drew1) | exact HB.out)) hb); clear HB; have HB := n0_; clear n0_; (try clear hb); (try clear hb2); (try clear hk); (try clear hi)))
                                                go_ret
                                                exact ⟨by first | rfl | (simp [errW_none, errW_some] <;> rfl) | (simp [*, errW_none, errW_some] <;> rfl), by repeat (first | (with_reducible first | exact HB.out | apply below_alloc | apply pw_below_drewN | apply below_drew1) | exact HB.out)⟩
                                          · rw [if_neg c104] at H
                                            have c104b0 : (t350 == 0) = false := beq_eq_false_iff_ne.mpr c104
                                            have c104b1 : (t350 != 0) = true := bne_iff_ne.mpr c104
                                            obtain rfl := Option.some.inj H
                                            go_wp2_with (first | ((with_reducible refine gate_callee (f := 22) rfl ?_); refine goesL_ (some 121) rfl rfl Try.func22 (by kernel_rfl) rfl #[.string (⟨#[65, 117, 116, 104, 111, 114, 105, 122, 101, 114, 58, 32, 120, 10]⟩ : ByteArray), .int .u8 2] rfl (by (try simp only [List.map_toArray, List.map_cons, List.map_nil]); first | done | rfl | (simp only [List.length_drop, List.length_take]; rfl)) ?_; (with_reducible refine (fields_Find.calls kj76 (⟨#[65, 117, 116, 104, 111, 114, 105, 122, 101, 114, 58, 32, 120, 10]⟩ : ByteArray) 2 t348 true t350 _ A95.out).mono ?_); rintro e w136 ⟨rfl, hb⟩; refine ⟨_, rfl, ?_⟩; have n0_ := Aside0.mk (below_step (by repeat (first | (with_reducible first | exact HB.out | apply below_alloc | apply pw_below_drewN | apply below_drew1) | exact HB.out)) hb); clear HB; have HB := n0_; clear n0_; (try clear hb); (try clear hb2); (try clear hk); (try clear hi)) | ((with_reducible refine gate_callee (f := 22) rfl ?_); refine goesL_ (some 126) rfl rfl Try.func22 (by kernel_rfl) rfl #[.string (⟨#[65, 117, 116, 104, 111, 114, 105, 122, 101, 114, 58, 32, 120, 10]⟩ : ByteArray), .int .u8 3] rfl (by (try simp only [List.map_toArray, List.map_cons, List.map_nil]); first | done | rfl | (simp only [List.length_drop, List.length_take]; rfl)) ?_; (with_reducible refine (fields_Find.calls kj76 (⟨#[65, 117, 116, 104, 111, 114, 105, 122, 101, 114, 58, 32, 120, 10]⟩ : ByteArray) 3 t351 t352 t353 _ A96.out).mono ?_); rintro e w137 ⟨rfl, hb⟩; refine ⟨_, rfl, ?_⟩; have n0_ := Aside0.mk (below_step (by repeat (first | (with_reducible first | exact HB.out | apply below_alloc | apply pw_below_drewN | apply below_drew1) | exact HB.out)) hb); clear HB; have HB := n0_; clear n0_; (try clear hb); (try clear hb2); (try clear hk); (try clear hi)) | ((with_reducible refine gate_callee (f := 22) rfl ?_); refine goesL_ (some 131) rfl rfl Try.func22 (by kernel_rfl) rfl #[.string (⟨#[]⟩ : ByteArray), .int .u8 8] rfl (by (try simp only [List.map_toArray, List.map_cons, List.map_nil]); first | done | rfl | (simp only [List.length_drop, List.length_take]; rfl)) ?_; (with_reducible refine (fields_Find.calls kj76 (⟨#[]⟩ : ByteArray) 8 t354 t355 t356 _ A97.out).mono ?_); rintro e w138 ⟨rfl, hb⟩; refine ⟨_, rfl, ?_⟩; have n0_ := Aside0.mk (below_step (by repeat (first | (with_reducible first | exact HB.out | apply below_alloc | apply pw_below_drewN | apply below_drew1) | exact HB.out)) hb); clear HB; have HB := n0_; clear n0_; (try clear hb); (try clear hb2); (try clear hk); (try clear hi)) | ((with_reducible refine gate_callee (f := 19) rfl ?_); refine goesL_ (some 136) rfl rfl Try.func19 (by kernel_rfl) rfl #[.string (⟨#[65, 117, 116, 104, 111, 114, 105, 122, 101, 114, 58, 10, 32, 120, 10, 83, 105, 103, 110, 97, 116, 117, 114, 101, 58, 32, 121]⟩ : ByteArray)] rfl (by (try simp only [List.map_toArray, List.map_cons, List.map_nil]); first | done | rfl | (simp only [List.length_drop, List.length_take]; rfl)) ?_; (with_reducible refine (fields_Signed.calls (⟨#[65, 117, 116, 104, 111, 114, 105, 122, 101, 114, 58, 10, 32, 120, 10, 83, 105, 103, 110, 97, 116, 117, 114, 101, 58, 32, 121]⟩ : ByteArray) t357 t358 _ A98.out).mono ?_); rintro e w139 ⟨rfl, hb⟩; refine ⟨_, rfl, ?_⟩; have n0_ := Aside0.mk (below_step (by repeat (first | (with_reducible first | exact HB.out | apply below_alloc | apply pw_below_drewN | apply below_drew1) | exact HB.out)) hb); clear HB; have HB := n0_; clear n0_; (try clear hb); (try clear hb2); (try clear hk); (try clear hi)))
                                            go_ret
                                            exact ⟨by first | rfl | (simp [errW_none, errW_some] <;> rfl) | (simp [*, errW_none, errW_some] <;> rfl), by repeat (first | (with_reducible first | exact HB.out | apply below_alloc | apply pw_below_drewN | apply below_drew1) | exact HB.out)⟩
                                        · replace c103 := Bool.eq_false_iff.mpr c103
                                          subst c103
                                          have H1 : (some false) = some r := by rw [if_neg (show ¬ (false = true) by decide)] at H; exact H
                                          clear H
                                          have H := H1
                                          clear H1
                                          obtain rfl := Option.some.inj H
                                          go_wp2_with (first | ((with_reducible refine gate_callee (f := 22) rfl ?_); refine goesL_ (some 121) rfl rfl Try.func22 (by kernel_rfl) rfl #[.string (⟨#[65, 117, 116, 104, 111, 114, 105, 122, 101, 114, 58, 32, 120, 10]⟩ : ByteArray), .int .u8 2] rfl (by (try simp only [List.map_toArray, List.map_cons, List.map_nil]); first | done | rfl | (simp only [List.length_drop, List.length_take]; rfl)) ?_; (with_reducible refine (fields_Find.calls kj76 (⟨#[65, 117, 116, 104, 111, 114, 105, 122, 101, 114, 58, 32, 120, 10]⟩ : ByteArray) 2 t348 false t350 _ A95.out).mono ?_); rintro e w140 ⟨rfl, hb⟩; refine ⟨_, rfl, ?_⟩; have n0_ := Aside0.mk (below_step (by repeat (first | (with_reducible first | exact HB.out | apply below_alloc | apply pw_below_drewN | apply below_drew1) | exact HB.out)) hb); clear HB; have HB := n0_; clear n0_; (try clear hb); (try clear hb2); (try clear hk); (try clear hi)) | ((with_reducible refine gate_callee (f := 22) rfl ?_); refine goesL_ (some 126) rfl rfl Try.func22 (by kernel_rfl) rfl #[.string (⟨#[65, 117, 116, 104, 111, 114, 105, 122, 101, 114, 58, 32, 120, 10]⟩ : ByteArray), .int .u8 3] rfl (by (try simp only [List.map_toArray, List.map_cons, List.map_nil]); first | done | rfl | (simp only [List.length_drop, List.length_take]; rfl)) ?_; (with_reducible refine (fields_Find.calls kj76 (⟨#[65, 117, 116, 104, 111, 114, 105, 122, 101, 114, 58, 32, 120, 10]⟩ : ByteArray) 3 t351 t352 t353 _ A96.out).mono ?_); rintro e w141 ⟨rfl, hb⟩; refine ⟨_, rfl, ?_⟩; have n0_ := Aside0.mk (below_step (by repeat (first | (with_reducible first | exact HB.out | apply below_alloc | apply pw_below_drewN | apply below_drew1) | exact HB.out)) hb); clear HB; have HB := n0_; clear n0_; (try clear hb); (try clear hb2); (try clear hk); (try clear hi)) | ((with_reducible refine gate_callee (f := 22) rfl ?_); refine goesL_ (some 131) rfl rfl Try.func22 (by kernel_rfl) rfl #[.string (⟨#[]⟩ : ByteArray), .int .u8 8] rfl (by (try simp only [List.map_toArray, List.map_cons, List.map_nil]); first | done | rfl | (simp only [List.length_drop, List.length_take]; rfl)) ?_; (with_reducible refine (fields_Find.calls kj76 (⟨#[]⟩ : ByteArray) 8 t354 t355 t356 _ A97.out).mono ?_); rintro e w142 ⟨rfl, hb⟩; refine ⟨_, rfl, ?_⟩; have n0_ := Aside0.mk (below_step (by repeat (first | (with_reducible first | exact HB.out | apply below_alloc | apply pw_below_drewN | apply below_drew1) | exact HB.out)) hb); clear HB; have HB := n0_; clear n0_; (try clear hb); (try clear hb2); (try clear hk); (try clear hi)) | ((with_reducible refine gate_callee (f := 19) rfl ?_); refine goesL_ (some 136) rfl rfl Try.func19 (by kernel_rfl) rfl #[.string (⟨#[65, 117, 116, 104, 111, 114, 105, 122, 101, 114, 58, 10, 32, 120, 10, 83, 105, 103, 110, 97, 116, 117, 114, 101, 58, 32, 121]⟩ : ByteArray)] rfl (by (try simp only [List.map_toArray, List.map_cons, List.map_nil]); first | done | rfl | (simp only [List.length_drop, List.length_take]; rfl)) ?_; (with_reducible refine (fields_Signed.calls (⟨#[65, 117, 116, 104, 111, 114, 105, 122, 101, 114, 58, 10, 32, 120, 10, 83, 105, 103, 110, 97, 116, 117, 114, 101, 58, 32, 121]⟩ : ByteArray) t357 t358 _ A98.out).mono ?_); rintro e w143 ⟨rfl, hb⟩; refine ⟨_, rfl, ?_⟩; have n0_ := Aside0.mk (below_step (by repeat (first | (with_reducible first | exact HB.out | apply below_alloc | apply pw_below_drewN | apply below_drew1) | exact HB.out)) hb); clear HB; have HB := n0_; clear n0_; (try clear hb); (try clear hb2); (try clear hk); (try clear hi)))
                                          go_ret
                                          exact ⟨by first | rfl | (simp [errW_none, errW_some] <;> rfl) | (simp [*, errW_none, errW_some] <;> rfl), by repeat (first | (with_reducible first | exact HB.out | apply below_alloc | apply pw_below_drewN | apply below_drew1) | exact HB.out)⟩
                                      · rw [if_neg c102] at H
                                        have c102b0 : (t348.toList == ([32, 120, 10] : List UInt8)) = false := beq_eq_false_iff_ne.mpr c102
                                        have c102b1 : (t348.toList != ([32, 120, 10] : List UInt8)) = true := bne_iff_ne.mpr c102
                                        obtain rfl := Option.some.inj H
                                        go_wp2_with (first | ((with_reducible refine gate_callee (f := 22) rfl ?_); refine goesL_ (some 121) rfl rfl Try.func22 (by kernel_rfl) rfl #[.string (⟨#[65, 117, 116, 104, 111, 114, 105, 122, 101, 114, 58, 32, 120, 10]⟩ : ByteArray), .int .u8 2] rfl (by (try simp only [List.map_toArray, List.map_cons, List.map_nil]); first | done | rfl | (simp only [List.length_drop, List.length_take]; rfl)) ?_; (with_reducible refine (fields_Find.calls kj76 (⟨#[65, 117, 116, 104, 111, 114, 105, 122, 101, 114, 58, 32, 120, 10]⟩ : ByteArray) 2 t348 t349 t350 _ A95.out).mono ?_); rintro e w144 ⟨rfl, hb⟩; refine ⟨_, rfl, ?_⟩; have n0_ := Aside0.mk (below_step (by repeat (first | (with_reducible first | exact HB.out | apply below_alloc | apply pw_below_drewN | apply below_drew1) | exact HB.out)) hb); clear HB; have HB := n0_; clear n0_; (try clear hb); (try clear hb2); (try clear hk); (try clear hi)) | ((with_reducible refine gate_callee (f := 22) rfl ?_); refine goesL_ (some 126) rfl rfl Try.func22 (by kernel_rfl) rfl #[.string (⟨#[65, 117, 116, 104, 111, 114, 105, 122, 101, 114, 58, 32, 120, 10]⟩ : ByteArray), .int .u8 3] rfl (by (try simp only [List.map_toArray, List.map_cons, List.map_nil]); first | done | rfl | (simp only [List.length_drop, List.length_take]; rfl)) ?_; (with_reducible refine (fields_Find.calls kj76 (⟨#[65, 117, 116, 104, 111, 114, 105, 122, 101, 114, 58, 32, 120, 10]⟩ : ByteArray) 3 t351 t352 t353 _ A96.out).mono ?_); rintro e w145 ⟨rfl, hb⟩; refine ⟨_, rfl, ?_⟩; have n0_ := Aside0.mk (below_step (by repeat (first | (with_reducible first | exact HB.out | apply below_alloc | apply pw_below_drewN | apply below_drew1) | exact HB.out)) hb); clear HB; have HB := n0_; clear n0_; (try clear hb); (try clear hb2); (try clear hk); (try clear hi)) | ((with_reducible refine gate_callee (f := 22) rfl ?_); refine goesL_ (some 131) rfl rfl Try.func22 (by kernel_rfl) rfl #[.string (⟨#[]⟩ : ByteArray), .int .u8 8] rfl (by (try simp only [List.map_toArray, List.map_cons, List.map_nil]); first | done | rfl | (simp only [List.length_drop, List.length_take]; rfl)) ?_; (with_reducible refine (fields_Find.calls kj76 (⟨#[]⟩ : ByteArray) 8 t354 t355 t356 _ A97.out).mono ?_); rintro e w146 ⟨rfl, hb⟩; refine ⟨_, rfl, ?_⟩; have n0_ := Aside0.mk (below_step (by repeat (first | (with_reducible first | exact HB.out | apply below_alloc | apply pw_below_drewN | apply below_drew1) | exact HB.out)) hb); clear HB; have HB := n0_; clear n0_; (try clear hb); (try clear hb2); (try clear hk); (try clear hi)) | ((with_reducible refine gate_callee (f := 19) rfl ?_); refine goesL_ (some 136) rfl rfl Try.func19 (by kernel_rfl) rfl #[.string (⟨#[65, 117, 116, 104, 111, 114, 105, 122, 101, 114, 58, 10, 32, 120, 10, 83, 105, 103, 110, 97, 116, 117, 114, 101, 58, 32, 121]⟩ : ByteArray)] rfl (by (try simp only [List.map_toArray, List.map_cons, List.map_nil]); first | done | rfl | (simp only [List.length_drop, List.length_take]; rfl)) ?_; (with_reducible refine (fields_Signed.calls (⟨#[65, 117, 116, 104, 111, 114, 105, 122, 101, 114, 58, 10, 32, 120, 10, 83, 105, 103, 110, 97, 116, 117, 114, 101, 58, 32, 121]⟩ : ByteArray) t357 t358 _ A98.out).mono ?_); rintro e w147 ⟨rfl, hb⟩; refine ⟨_, rfl, ?_⟩; have n0_ := Aside0.mk (below_step (by repeat (first | (with_reducible first | exact HB.out | apply below_alloc | apply pw_below_drewN | apply below_drew1) | exact HB.out)) hb); clear HB; have HB := n0_; clear n0_; (try clear hb); (try clear hb2); (try clear hk); (try clear hi)))
                                        go_ret
                                        exact ⟨by first | rfl | (simp [errW_none, errW_some] <;> rfl) | (simp [*, errW_none, errW_some] <;> rfl), by repeat (first | (with_reducible first | exact HB.out | apply below_alloc | apply pw_below_drewN | apply below_drew1) | exact HB.out)⟩
                                    · replace c101 := Bool.eq_false_iff.mpr c101
                                      subst c101
                                      have H1 : (some false) = some r := by rw [if_neg (show ¬ (false = true) by decide)] at H; exact H
                                      clear H
                                      have H := H1
                                      clear H1
                                      obtain rfl := Option.some.inj H
                                      go_wp2_with (first | ((with_reducible refine gate_callee (f := 22) rfl ?_); refine goesL_ (some 121) rfl rfl Try.func22 (by kernel_rfl) rfl #[.string (⟨#[65, 117, 116, 104, 111, 114, 105, 122, 101, 114, 58, 32, 120, 10]⟩ : ByteArray), .int .u8 2] rfl (by (try simp only [List.map_toArray, List.map_cons, List.map_nil]); first | done | rfl | (simp only [List.length_drop, List.length_take]; rfl)) ?_; (with_reducible refine (fields_Find.calls kj76 (⟨#[65, 117, 116, 104, 111, 114, 105, 122, 101, 114, 58, 32, 120, 10]⟩ : ByteArray) 2 t348 t349 t350 _ A95.out).mono ?_); rintro e w148 ⟨rfl, hb⟩; refine ⟨_, rfl, ?_⟩; have n0_ := Aside0.mk (below_step (by repeat (first | (with_reducible first | exact HB.out | apply below_alloc | apply pw_below_drewN | apply below_drew1) | exact HB.out)) hb); clear HB; have HB := n0_; clear n0_; (try clear hb); (try clear hb2); (try clear hk); (try clear hi)) | ((with_reducible refine gate_callee (f := 22) rfl ?_); refine goesL_ (some 126) rfl rfl Try.func22 (by kernel_rfl) rfl #[.string (⟨#[65, 117, 116, 104, 111, 114, 105, 122, 101, 114, 58, 32, 120, 10]⟩ : ByteArray), .int .u8 3] rfl (by (try simp only [List.map_toArray, List.map_cons, List.map_nil]); first | done | rfl | (simp only [List.length_drop, List.length_take]; rfl)) ?_; (with_reducible refine (fields_Find.calls kj76 (⟨#[65, 117, 116, 104, 111, 114, 105, 122, 101, 114, 58, 32, 120, 10]⟩ : ByteArray) 3 t351 t352 t353 _ A96.out).mono ?_); rintro e w149 ⟨rfl, hb⟩; refine ⟨_, rfl, ?_⟩; have n0_ := Aside0.mk (below_step (by repeat (first | (with_reducible first | exact HB.out | apply below_alloc | apply pw_below_drewN | apply below_drew1) | exact HB.out)) hb); clear HB; have HB := n0_; clear n0_; (try clear hb); (try clear hb2); (try clear hk); (try clear hi)) | ((with_reducible refine gate_callee (f := 22) rfl ?_); refine goesL_ (some 131) rfl rfl Try.func22 (by kernel_rfl) rfl #[.string (⟨#[]⟩ : ByteArray), .int .u8 8] rfl (by (try simp only [List.map_toArray, List.map_cons, List.map_nil]); first | done | rfl | (simp only [List.length_drop, List.length_take]; rfl)) ?_; (with_reducible refine (fields_Find.calls kj76 (⟨#[]⟩ : ByteArray) 8 t354 t355 t356 _ A97.out).mono ?_); rintro e w150 ⟨rfl, hb⟩; refine ⟨_, rfl, ?_⟩; have n0_ := Aside0.mk (below_step (by repeat (first | (with_reducible first | exact HB.out | apply below_alloc | apply pw_below_drewN | apply below_drew1) | exact HB.out)) hb); clear HB; have HB := n0_; clear n0_; (try clear hb); (try clear hb2); (try clear hk); (try clear hi)) | ((with_reducible refine gate_callee (f := 19) rfl ?_); refine goesL_ (some 136) rfl rfl Try.func19 (by kernel_rfl) rfl #[.string (⟨#[65, 117, 116, 104, 111, 114, 105, 122, 101, 114, 58, 10, 32, 120, 10, 83, 105, 103, 110, 97, 116, 117, 114, 101, 58, 32, 121]⟩ : ByteArray)] rfl (by (try simp only [List.map_toArray, List.map_cons, List.map_nil]); first | done | rfl | (simp only [List.length_drop, List.length_take]; rfl)) ?_; (with_reducible refine (fields_Signed.calls (⟨#[65, 117, 116, 104, 111, 114, 105, 122, 101, 114, 58, 10, 32, 120, 10, 83, 105, 103, 110, 97, 116, 117, 114, 101, 58, 32, 121]⟩ : ByteArray) t357 t358 _ A98.out).mono ?_); rintro e w151 ⟨rfl, hb⟩; refine ⟨_, rfl, ?_⟩; have n0_ := Aside0.mk (below_step (by repeat (first | (with_reducible first | exact HB.out | apply below_alloc | apply pw_below_drewN | apply below_drew1) | exact HB.out)) hb); clear HB; have HB := n0_; clear n0_; (try clear hb); (try clear hb2); (try clear hk); (try clear hi)))
                                      go_ret
                                      exact ⟨by first | rfl | (simp [errW_none, errW_some] <;> rfl) | (simp [*, errW_none, errW_some] <;> rfl), by repeat (first | (with_reducible first | exact HB.out | apply below_alloc | apply pw_below_drewN | apply below_drew1) | exact HB.out)⟩
                                  · replace c100 := Bool.eq_false_iff.mpr c100
                                    subst c100
                                    have H1 : (some false) = some r := by rw [if_neg (show ¬ (false = true) by decide)] at H; exact H
                                    clear H
                                    have H := H1
                                    clear H1
                                    obtain rfl := Option.some.inj H
                                    go_wp2_with (first | ((with_reducible refine gate_callee (f := 22) rfl ?_); refine goesL_ (some 121) rfl rfl Try.func22 (by kernel_rfl) rfl #[.string (⟨#[65, 117, 116, 104, 111, 114, 105, 122, 101, 114, 58, 32, 120, 10]⟩ : ByteArray), .int .u8 2] rfl (by (try simp only [List.map_toArray, List.map_cons, List.map_nil]); first | done | rfl | (simp only [List.length_drop, List.length_take]; rfl)) ?_; (with_reducible refine (fields_Find.calls kj76 (⟨#[65, 117, 116, 104, 111, 114, 105, 122, 101, 114, 58, 32, 120, 10]⟩ : ByteArray) 2 t348 t349 t350 _ A95.out).mono ?_); rintro e w152 ⟨rfl, hb⟩; refine ⟨_, rfl, ?_⟩; have n0_ := Aside0.mk (below_step (by repeat (first | (with_reducible first | exact HB.out | apply below_alloc | apply pw_below_drewN | apply below_drew1) | exact HB.out)) hb); clear HB; have HB := n0_; clear n0_; (try clear hb); (try clear hb2); (try clear hk); (try clear hi)) | ((with_reducible refine gate_callee (f := 22) rfl ?_); refine goesL_ (some 126) rfl rfl Try.func22 (by kernel_rfl) rfl #[.string (⟨#[65, 117, 116, 104, 111, 114, 105, 122, 101, 114, 58, 32, 120, 10]⟩ : ByteArray), .int .u8 3] rfl (by (try simp only [List.map_toArray, List.map_cons, List.map_nil]); first | done | rfl | (simp only [List.length_drop, List.length_take]; rfl)) ?_; (with_reducible refine (fields_Find.calls kj76 (⟨#[65, 117, 116, 104, 111, 114, 105, 122, 101, 114, 58, 32, 120, 10]⟩ : ByteArray) 3 t351 t352 t353 _ A96.out).mono ?_); rintro e w153 ⟨rfl, hb⟩; refine ⟨_, rfl, ?_⟩; have n0_ := Aside0.mk (below_step (by repeat (first | (with_reducible first | exact HB.out | apply below_alloc | apply pw_below_drewN | apply below_drew1) | exact HB.out)) hb); clear HB; have HB := n0_; clear n0_; (try clear hb); (try clear hb2); (try clear hk); (try clear hi)) | ((with_reducible refine gate_callee (f := 22) rfl ?_); refine goesL_ (some 131) rfl rfl Try.func22 (by kernel_rfl) rfl #[.string (⟨#[]⟩ : ByteArray), .int .u8 8] rfl (by (try simp only [List.map_toArray, List.map_cons, List.map_nil]); first | done | rfl | (simp only [List.length_drop, List.length_take]; rfl)) ?_; (with_reducible refine (fields_Find.calls kj76 (⟨#[]⟩ : ByteArray) 8 t354 t355 t356 _ A97.out).mono ?_); rintro e w154 ⟨rfl, hb⟩; refine ⟨_, rfl, ?_⟩; have n0_ := Aside0.mk (below_step (by repeat (first | (with_reducible first | exact HB.out | apply below_alloc | apply pw_below_drewN | apply below_drew1) | exact HB.out)) hb); clear HB; have HB := n0_; clear n0_; (try clear hb); (try clear hb2); (try clear hk); (try clear hi)) | ((with_reducible refine gate_callee (f := 19) rfl ?_); refine goesL_ (some 136) rfl rfl Try.func19 (by kernel_rfl) rfl #[.string (⟨#[65, 117, 116, 104, 111, 114, 105, 122, 101, 114, 58, 10, 32, 120, 10, 83, 105, 103, 110, 97, 116, 117, 114, 101, 58, 32, 121]⟩ : ByteArray)] rfl (by (try simp only [List.map_toArray, List.map_cons, List.map_nil]); first | done | rfl | (simp only [List.length_drop, List.length_take]; rfl)) ?_; (with_reducible refine (fields_Signed.calls (⟨#[65, 117, 116, 104, 111, 114, 105, 122, 101, 114, 58, 10, 32, 120, 10, 83, 105, 103, 110, 97, 116, 117, 114, 101, 58, 32, 121]⟩ : ByteArray) t357 t358 _ A98.out).mono ?_); rintro e w155 ⟨rfl, hb⟩; refine ⟨_, rfl, ?_⟩; have n0_ := Aside0.mk (below_step (by repeat (first | (with_reducible first | exact HB.out | apply below_alloc | apply pw_below_drewN | apply below_drew1) | exact HB.out)) hb); clear HB; have HB := n0_; clear n0_; (try clear hb); (try clear hb2); (try clear hk); (try clear hi)))
                                    go_ret
                                    exact ⟨by first | rfl | (simp [errW_none, errW_some] <;> rfl) | (simp [*, errW_none, errW_some] <;> rfl), by repeat (first | (with_reducible first | exact HB.out | apply below_alloc | apply pw_below_drewN | apply below_drew1) | exact HB.out)⟩
                                · replace c99 := Bool.eq_false_iff.mpr c99
                                  subst c99
                                  have H1 : (some false) = some r := by rw [if_neg (show ¬ (false = true) by decide)] at H; exact H
                                  clear H
                                  have H := H1
                                  clear H1
                                  obtain rfl := Option.some.inj H
                                  go_wp2_with (first | ((with_reducible refine gate_callee (f := 22) rfl ?_); refine goesL_ (some 121) rfl rfl Try.func22 (by kernel_rfl) rfl #[.string (⟨#[65, 117, 116, 104, 111, 114, 105, 122, 101, 114, 58, 32, 120, 10]⟩ : ByteArray), .int .u8 2] rfl (by (try simp only [List.map_toArray, List.map_cons, List.map_nil]); first | done | rfl | (simp only [List.length_drop, List.length_take]; rfl)) ?_; (with_reducible refine (fields_Find.calls kj76 (⟨#[65, 117, 116, 104, 111, 114, 105, 122, 101, 114, 58, 32, 120, 10]⟩ : ByteArray) 2 t348 t349 t350 _ A95.out).mono ?_); rintro e w156 ⟨rfl, hb⟩; refine ⟨_, rfl, ?_⟩; have n0_ := Aside0.mk (below_step (by repeat (first | (with_reducible first | exact HB.out | apply below_alloc | apply pw_below_drewN | apply below_drew1) | exact HB.out)) hb); clear HB; have HB := n0_; clear n0_; (try clear hb); (try clear hb2); (try clear hk); (try clear hi)) | ((with_reducible refine gate_callee (f := 22) rfl ?_); refine goesL_ (some 126) rfl rfl Try.func22 (by kernel_rfl) rfl #[.string (⟨#[65, 117, 116, 104, 111, 114, 105, 122, 101, 114, 58, 32, 120, 10]⟩ : ByteArray), .int .u8 3] rfl (by (try simp only [List.map_toArray, List.map_cons, List.map_nil]); first | done | rfl | (simp only [List.length_drop, List.length_take]; rfl)) ?_; (with_reducible refine (fields_Find.calls kj76 (⟨#[65, 117, 116, 104, 111, 114, 105, 122, 101, 114, 58, 32, 120, 10]⟩ : ByteArray) 3 t351 t352 t353 _ A96.out).mono ?_); rintro e w157 ⟨rfl, hb⟩; refine ⟨_, rfl, ?_⟩; have n0_ := Aside0.mk (below_step (by repeat (first | (with_reducible first | exact HB.out | apply below_alloc | apply pw_below_drewN | apply below_drew1) | exact HB.out)) hb); clear HB; have HB := n0_; clear n0_; (try clear hb); (try clear hb2); (try clear hk); (try clear hi)) | ((with_reducible refine gate_callee (f := 22) rfl ?_); refine goesL_ (some 131) rfl rfl Try.func22 (by kernel_rfl) rfl #[.string (⟨#[]⟩ : ByteArray), .int .u8 8] rfl (by (try simp only [List.map_toArray, List.map_cons, List.map_nil]); first | done | rfl | (simp only [List.length_drop, List.length_take]; rfl)) ?_; (with_reducible refine (fields_Find.calls kj76 (⟨#[]⟩ : ByteArray) 8 t354 t355 t356 _ A97.out).mono ?_); rintro e w158 ⟨rfl, hb⟩; refine ⟨_, rfl, ?_⟩; have n0_ := Aside0.mk (below_step (by repeat (first | (with_reducible first | exact HB.out | apply below_alloc | apply pw_below_drewN | apply below_drew1) | exact HB.out)) hb); clear HB; have HB := n0_; clear n0_; (try clear hb); (try clear hb2); (try clear hk); (try clear hi)) | ((with_reducible refine gate_callee (f := 19) rfl ?_); refine goesL_ (some 136) rfl rfl Try.func19 (by kernel_rfl) rfl #[.string (⟨#[65, 117, 116, 104, 111, 114, 105, 122, 101, 114, 58, 10, 32, 120, 10, 83, 105, 103, 110, 97, 116, 117, 114, 101, 58, 32, 121]⟩ : ByteArray)] rfl (by (try simp only [List.map_toArray, List.map_cons, List.map_nil]); first | done | rfl | (simp only [List.length_drop, List.length_take]; rfl)) ?_; (with_reducible refine (fields_Signed.calls (⟨#[65, 117, 116, 104, 111, 114, 105, 122, 101, 114, 58, 10, 32, 120, 10, 83, 105, 103, 110, 97, 116, 117, 114, 101, 58, 32, 121]⟩ : ByteArray) t357 t358 _ A98.out).mono ?_); rintro e w159 ⟨rfl, hb⟩; refine ⟨_, rfl, ?_⟩; have n0_ := Aside0.mk (below_step (by repeat (first | (with_reducible first | exact HB.out | apply below_alloc | apply pw_below_drewN | apply below_drew1) | exact HB.out)) hb); clear HB; have HB := n0_; clear n0_; (try clear hb); (try clear hb2); (try clear hk); (try clear hi)))
                                  go_ret
                                  exact ⟨by first | rfl | (simp [errW_none, errW_some] <;> rfl) | (simp [*, errW_none, errW_some] <;> rfl), by repeat (first | (with_reducible first | exact HB.out | apply below_alloc | apply pw_below_drewN | apply below_drew1) | exact HB.out)⟩

/-- THE ONE PURE STATEMENT of vouchlaw13_FieldsKnown: yours. -/
def vouchlaw13_FieldsKnown.Pure : Prop := ∃ k, vouchlaw13_FieldsKnown.f k  = some true
theorem vouchlaw13_FieldsKnown.walk (P : vouchlaw13_FieldsKnown.Pure)  (w : World)  :
    Calls Try.prog 10 #[] w fun e w' => e = .returned (.bool true) ∧ Below w.heap.size w w' := by
  obtain ⟨k, h⟩ := P  
  refine (vouchlaw13_FieldsKnown.calls k  true w h).mono ?_
  rintro e w' ⟨rfl, hd⟩
  exact ⟨rfl, hd⟩

end Go.Proofs.Ytiienmifjebdlaa.Q
