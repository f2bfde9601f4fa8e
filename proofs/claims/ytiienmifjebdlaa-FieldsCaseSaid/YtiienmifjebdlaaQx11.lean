/- Go functions as Lean functions, and that each call comes to its Lean function's answer, wherever that is some answer. Written by a program of this session out of the translation. -/
import Derived.Test.YtiienmifjebdlaaQx0
import Derived.Test.YtiienmifjebdlaaQx6
import Derived.Test.YtiienmifjebdlaaQx8
import Derived.Test.YtiienmifjebdlaaQx9
namespace Go.Proofs.Ytiienmifjebdlaa.Q
open Go.RowKit Go.Proofs.YtiienmifjebdlaaW.PrintWords Go.Proofs.YtiienmifjebdlaaW.PrintLast Go.Proofs.YtiienmifjebdlaaW.PrintMore
attribute [local go_sem] max2_int min2_int max_two min_two max_three min_three max_four min_four   -- for this text's walks alone
set_option linter.unusedVariables false
set_option linter.unusedSimpArgs false

/-! ### vouchlaw13_FieldsTile: function 4 -/
mutual
def vouchlaw13_FieldsTile.l0 : Nat → ByteArray → List (S28) → Int → Int → Bool → Int → Option (Bool)
  | 0, _, _, _, _, _, _ => none
  | k + 1, x0, x3, x4, x6, x7, x8 => if x8 < (x3.length : Int) then (if 0 ≤ x8 then (if ((rd_T28 x3 x8).f1) = x6 then (if ((rd_T28 x3 x8).f2) ≤ ((rd_T28 x3 x8).f1) then (vouchlaw13_FieldsTile.j1 k x0 x3 x4 x7 x8 true ((rd_T28 x3 x8).f0) ((rd_T28 x3 x8).f1) ((rd_T28 x3 x8).f2) ((rd_T28 x3 x8).f3)) else (if ((rd_T28 x3 x8).f3) < ((rd_T28 x3 x8).f2) then (vouchlaw13_FieldsTile.j1 k x0 x3 x4 x7 x8 true ((rd_T28 x3 x8).f0) ((rd_T28 x3 x8).f1) ((rd_T28 x3 x8).f2) ((rd_T28 x3 x8).f3)) else (if ((rd_T28 x3 x8).f3) > (x0.size : Int) then (vouchlaw13_FieldsTile.j1 k x0 x3 x4 x7 x8 true ((rd_T28 x3 x8).f0) ((rd_T28 x3 x8).f1) ((rd_T28 x3 x8).f2) ((rd_T28 x3 x8).f3)) else (if 0 ≤ (wrap64 (((rd_T28 x3 x8).f2) - 1)) then (if (wrap64 (((rd_T28 x3 x8).f2) - 1)) < (x0.size : Int) then (vouchlaw13_FieldsTile.j1 k x0 x3 x4 x7 x8 ((bt x0 (wrap64 (((rd_T28 x3 x8).f2) - 1))) != 58) ((rd_T28 x3 x8).f0) ((rd_T28 x3 x8).f1) ((rd_T28 x3 x8).f2) ((rd_T28 x3 x8).f3)) else (none)) else (none))))) else (vouchlaw13_FieldsTile.j1 k x0 x3 x4 x7 x8 true ((rd_T28 x3 x8).f0) ((rd_T28 x3 x8).f1) ((rd_T28 x3 x8).f2) ((rd_T28 x3 x8).f3))) else (none)) else (if x4 = 0 then (if x7 = true then (if x6 = (x0.size : Int) then ((vouchlaw13_works.f).bind fun t179 => (some t179)) else (some false)) else (some false)) else (some false))
def vouchlaw13_FieldsTile.j1 : Nat → ByteArray → List (S28) → Int → Bool → Int → Bool → Int → Int → Int → Int → Option (Bool)
  | 0, _, _, _, _, _, _, _, _, _, _ => none
  | k + 1, x0, x3, x4, x7, x8, x79, x182000, x182001, x182002, x182003 => if x79 = true then (some false) else (if 0 ≤ x182001 then (if x182001 ≤ (wrap64 (x182002 - 1)) then (if (wrap64 (x182002 - 1)) ≤ (x0.size : Int) then ((fields_Kind.f (x0.extract (x182001 : Int).toNat ((wrap64 (x182002 - 1)) : Int).toNat)).bind fun bt182 => (if bt182.2 = true then (if bt182.1 = x182000 then (if x8 > 0 then (if 0 ≤ (wrap64 (x182001 - 1)) then (if (wrap64 (x182001 - 1)) < (x0.size : Int) then (vouchlaw13_FieldsTile.j2 k x0 x3 x4 x7 x8 bt182.1 ((bt x0 (wrap64 (x182001 - 1))) != 10) x182000 x182001 x182002 x182003) else (none)) else (none)) else (vouchlaw13_FieldsTile.j2 k x0 x3 x4 x7 x8 bt182.1 false x182000 x182001 x182002 x182003)) else (vouchlaw13_FieldsTile.j2 k x0 x3 x4 x7 x8 bt182.1 true x182000 x182001 x182002 x182003)) else (vouchlaw13_FieldsTile.j2 k x0 x3 x4 x7 x8 bt182.1 true x182000 x182001 x182002 x182003))) else (none)) else (none)) else (none))
def vouchlaw13_FieldsTile.j2 : Nat → ByteArray → List (S28) → Int → Bool → Int → Int → Bool → Int → Int → Int → Int → Option (Bool)
  | 0, _, _, _, _, _, _, _, _, _, _, _ => none
  | k + 1, x0, x3, x4, x7, x8, x10, x110, x182000, x182001, x182002, x182003 => if x110 = true then (some false) else (vouchlaw13_FieldsTile.l1 k x0 x3 x4 x7 x8 x10 0 x182000 x182001 x182002 x182003)
def vouchlaw13_FieldsTile.l1 : Nat → ByteArray → List (S28) → Int → Bool → Int → Int → Int → Int → Int → Int → Int → Option (Bool)
  | 0, _, _, _, _, _, _, _, _, _, _, _ => none
  | k + 1, x0, x3, x4, x7, x8, x10, x12, x182000, x182001, x182002, x182003 => if x12 < x8 then (if 0 ≤ x12 then (if x12 < (x3.length : Int) then (if ((rd_T28 x3 x12).f0) = x10 then (some false) else (if ((rd_T28 x3 x12).f0) = 7 then (some false) else (vouchlaw13_FieldsTile.l1 k x0 x3 x4 x7 x8 x10 (wrap64 (x12 + 1)) x182000 x182001 x182002 x182003))) else (none)) else (none)) else (if x7 = true then (vouchlaw13_FieldsTile.l0 k x0 x3 x4 x182003 true (wrap64 (x8 + 1))) else (vouchlaw13_FieldsTile.l0 k x0 x3 x4 x182003 (x10 == 2) (wrap64 (x8 + 1))))
end
def vouchlaw13_FieldsTile.f (k : Nat) (a0 : ByteArray) : Option (Bool) := (fields_Split.f a0).bind fun bt173 => (if bt173.2.2 = 0 then (vouchlaw13_FieldsTile.l0 k a0 bt173.1 bt173.2.1 0 false 0) else (if (bt173.1.length : Int) = 0 then (if bt173.2.1 ≥ 0 then (if bt173.2.1 ≤ (a0.size : Int) then ((vouchlaw13_works.f).bind fun t178 => (some t178)) else (some false)) else (some false)) else (some false)))
set_option maxRecDepth 100000 in
theorem vouchlaw13_FieldsTile.mono_l : ∀ k, (∀ y0 y1 y2 y3 y4 y5, LeO (vouchlaw13_FieldsTile.l0 k y0 y1 y2 y3 y4 y5) (vouchlaw13_FieldsTile.l0 (k + 1) y0 y1 y2 y3 y4 y5)) ∧ (∀ y0 y1 y2 y3 y4 y5 y6 y7 y8 y9, LeO (vouchlaw13_FieldsTile.j1 k y0 y1 y2 y3 y4 y5 y6 y7 y8 y9) (vouchlaw13_FieldsTile.j1 (k + 1) y0 y1 y2 y3 y4 y5 y6 y7 y8 y9)) ∧ (∀ y0 y1 y2 y3 y4 y5 y6 y7 y8 y9 y10, LeO (vouchlaw13_FieldsTile.j2 k y0 y1 y2 y3 y4 y5 y6 y7 y8 y9 y10) (vouchlaw13_FieldsTile.j2 (k + 1) y0 y1 y2 y3 y4 y5 y6 y7 y8 y9 y10)) ∧ (∀ y0 y1 y2 y3 y4 y5 y6 y7 y8 y9 y10, LeO (vouchlaw13_FieldsTile.l1 k y0 y1 y2 y3 y4 y5 y6 y7 y8 y9 y10) (vouchlaw13_FieldsTile.l1 (k + 1) y0 y1 y2 y3 y4 y5 y6 y7 y8 y9 y10))
  | 0 => ⟨fun _ _ _ _ _ _ r h => by simp [vouchlaw13_FieldsTile.l0] at h, fun _ _ _ _ _ _ _ _ _ _ r h => by simp [vouchlaw13_FieldsTile.j1] at h, fun _ _ _ _ _ _ _ _ _ _ _ r h => by simp [vouchlaw13_FieldsTile.j2] at h, fun _ _ _ _ _ _ _ _ _ _ _ r h => by simp [vouchlaw13_FieldsTile.l1] at h⟩
  | k + 1 => by
    obtain ⟨ih0, ih1, ih2, ih3⟩ := vouchlaw13_FieldsTile.mono_l k
    refine ⟨?_, ?_, ?_, ?_⟩
    · intro y0 y1 y2 y3 y4 y5
      unfold vouchlaw13_FieldsTile.l0
      repeat' first
      | (with_reducible exact ih0 _ _ _ _ _ _)
      | (with_reducible exact ih1 _ _ _ _ _ _ _ _ _ _)
      | (with_reducible exact ih2 _ _ _ _ _ _ _ _ _ _ _)
      | (with_reducible exact ih3 _ _ _ _ _ _ _ _ _ _ _)
      | (with_reducible exact LeO.refl _)
      | (with_reducible exact LeO.none _)
      | (with_reducible refine LeO.ite ?_ ?_)
      | (with_reducible refine LeO.bind ?_ (fun _ => ?_))
      | exact ih0 _ _ _ _ _ _
      | exact ih1 _ _ _ _ _ _ _ _ _ _
      | exact ih2 _ _ _ _ _ _ _ _ _ _ _
      | exact ih3 _ _ _ _ _ _ _ _ _ _ _
      | exact LeO.none _
      | refine LeO.ite ?_ ?_
      | refine LeO.bind ?_ (fun _ => ?_)
    · intro y0 y1 y2 y3 y4 y5 y6 y7 y8 y9
      unfold vouchlaw13_FieldsTile.j1
      repeat' first
      | (with_reducible exact ih0 _ _ _ _ _ _)
      | (with_reducible exact ih1 _ _ _ _ _ _ _ _ _ _)
      | (with_reducible exact ih2 _ _ _ _ _ _ _ _ _ _ _)
      | (with_reducible exact ih3 _ _ _ _ _ _ _ _ _ _ _)
      | (with_reducible exact LeO.refl _)
      | (with_reducible exact LeO.none _)
      | (with_reducible refine LeO.ite ?_ ?_)
      | (with_reducible refine LeO.bind ?_ (fun _ => ?_))
      | exact ih0 _ _ _ _ _ _
      | exact ih1 _ _ _ _ _ _ _ _ _ _
      | exact ih2 _ _ _ _ _ _ _ _ _ _ _
      | exact ih3 _ _ _ _ _ _ _ _ _ _ _
      | exact LeO.none _
      | refine LeO.ite ?_ ?_
      | refine LeO.bind ?_ (fun _ => ?_)
    · intro y0 y1 y2 y3 y4 y5 y6 y7 y8 y9 y10
      unfold vouchlaw13_FieldsTile.j2
      repeat' first
      | (with_reducible exact ih0 _ _ _ _ _ _)
      | (with_reducible exact ih1 _ _ _ _ _ _ _ _ _ _)
      | (with_reducible exact ih2 _ _ _ _ _ _ _ _ _ _ _)
      | (with_reducible exact ih3 _ _ _ _ _ _ _ _ _ _ _)
      | (with_reducible exact LeO.refl _)
      | (with_reducible exact LeO.none _)
      | (with_reducible refine LeO.ite ?_ ?_)
      | (with_reducible refine LeO.bind ?_ (fun _ => ?_))
      | exact ih0 _ _ _ _ _ _
      | exact ih1 _ _ _ _ _ _ _ _ _ _
      | exact ih2 _ _ _ _ _ _ _ _ _ _ _
      | exact ih3 _ _ _ _ _ _ _ _ _ _ _
      | exact LeO.none _
      | refine LeO.ite ?_ ?_
      | refine LeO.bind ?_ (fun _ => ?_)
    · intro y0 y1 y2 y3 y4 y5 y6 y7 y8 y9 y10
      unfold vouchlaw13_FieldsTile.l1
      repeat' first
      | (with_reducible exact ih0 _ _ _ _ _ _)
      | (with_reducible exact ih1 _ _ _ _ _ _ _ _ _ _)
      | (with_reducible exact ih2 _ _ _ _ _ _ _ _ _ _ _)
      | (with_reducible exact ih3 _ _ _ _ _ _ _ _ _ _ _)
      | (with_reducible exact LeO.refl _)
      | (with_reducible exact LeO.none _)
      | (with_reducible refine LeO.ite ?_ ?_)
      | (with_reducible refine LeO.bind ?_ (fun _ => ?_))
      | exact ih0 _ _ _ _ _ _
      | exact ih1 _ _ _ _ _ _ _ _ _ _
      | exact ih2 _ _ _ _ _ _ _ _ _ _ _
      | exact ih3 _ _ _ _ _ _ _ _ _ _ _
      | exact LeO.none _
      | refine LeO.ite ?_ ?_
      | refine LeO.bind ?_ (fun _ => ?_)
theorem vouchlaw13_FieldsTile.mono : ∀ a0 k, LeO (vouchlaw13_FieldsTile.f k a0) (vouchlaw13_FieldsTile.f (k + 1) a0) := by
  intro a0 k
  obtain ⟨ih0, ih1, ih2, ih3⟩ := vouchlaw13_FieldsTile.mono_l k
  unfold vouchlaw13_FieldsTile.f
  repeat' first
      | (with_reducible exact ih0 _ _ _ _ _ _)
      | (with_reducible exact ih1 _ _ _ _ _ _ _ _ _ _)
      | (with_reducible exact ih2 _ _ _ _ _ _ _ _ _ _ _)
      | (with_reducible exact ih3 _ _ _ _ _ _ _ _ _ _ _)
      | (with_reducible exact LeO.refl _)
      | (with_reducible exact LeO.none _)
      | (with_reducible refine LeO.ite ?_ ?_)
      | (with_reducible refine LeO.bind ?_ (fun _ => ?_))
      | exact ih0 _ _ _ _ _ _
      | exact ih1 _ _ _ _ _ _ _ _ _ _
      | exact ih2 _ _ _ _ _ _ _ _ _ _ _
      | exact ih3 _ _ _ _ _ _ _ _ _ _ _
      | exact LeO.none _
      | refine LeO.ite ?_ ?_
      | refine LeO.bind ?_ (fun _ => ?_)
set_option maxHeartbeats 8000000 in
set_option maxRecDepth 100000 in
theorem vouchlaw13_FieldsTile.calls (k : Nat) (a0 : ByteArray) (r : Bool) (w : World) (h : vouchlaw13_FieldsTile.f k a0 = some r) :
    Calls Try.prog 4 #[.string a0] w fun e w' => e = .returned (.bool r) ∧ Below w.heap.size w w' := by
  have hu28 := Try.underlying28
  have HB := Aside0.mk (Below.refl w.heap.size w)
  have H : ((fields_Split.f a0).bind fun bt173 => (if bt173.2.2 = 0 then (vouchlaw13_FieldsTile.l0 k a0 bt173.1 bt173.2.1 0 false 0) else (if (bt173.1.length : Int) = 0 then (if bt173.2.1 ≥ 0 then (if bt173.2.1 ≤ (a0.size : Int) then ((vouchlaw13_works.f).bind fun t178 => (some t178)) else (some false)) else (some false)) else (some false)))) = some r := h
  clear h
  replace H := Option.bind_eq_some_iff.mp H
  obtain ⟨⟨t173, t174, t175⟩, A20, H⟩ := H
  replace H : (if t175 = 0 then (vouchlaw13_FieldsTile.l0 k a0 t173 t174 0 false 0) else (if (t173.length : Int) = 0 then (if t174 ≥ 0 then (if t174 ≤ (a0.size : Int) then ((vouchlaw13_works.f).bind fun t178 => (some t178)) else (some false)) else (some false)) else (some false))) = some r := H
  have A2 := Aside0.mk A20
  clear A20
  by_cases c3 : t175 = 0
  · rw [if_pos c3] at H
    have c3b0 : (t175 == 0) = true := beq_iff_eq.mpr c3
    have c3b1 : (t175 != 0) = false := bne_eq_false_iff_eq.mpr c3
    clear c3
    have H' := Aside0.mk H
    clear H
    go_enter Try.func4, Try.ntmps4
    go_wp2_with (first | ((with_reducible refine gate_callee (f := 12) rfl ?_); refine goesL_ (some 15) rfl rfl Try.func12 (by kernel_rfl) rfl #[.string a0] rfl (by (try simp only [List.map_toArray, List.map_cons, List.map_nil]); first | done | rfl | (simp only [List.length_drop, List.length_take]; rfl)) ?_; (with_reducible refine (fields_Split.calls a0 t173 t174 t175 _ A2.out).mono ?_); rintro e w4 ⟨v176, rfl, ho0, hb⟩; refine ⟨_, rfl, ?_⟩; have n0_ := Aside0.mk (Kd.R_lower ho0 (below_size (by repeat (first | (with_reducible first | exact HB.out | apply below_alloc | apply pw_below_drewN | apply below_drew1) | exact HB.out)))); have n1_ := Aside0.mk (below_step (by repeat (first | (with_reducible first | exact HB.out | apply below_alloc | apply pw_below_drewN | apply below_drew1) | exact HB.out)) hb); clear HB; have HO177 := n0_; have HB := n1_; clear n0_ n1_; (try clear hb); (try clear hb2); (try clear hk); (try clear hi); (try clear ho0)))
    go_loopg [6, 7, 8] k (fun kq v6 v7 v8 w' => ∃ (x6_1 : Int) (x7_1 : Bool) (x8_1 : Int), v6 = .int .i64 x6_1 ∧ v7 = .bool x7_1 ∧ v8 = .int .i64 x8_1 ∧ Aside0 (vouchlaw13_FieldsTile.l0 kq a0 t173 t174 x6_1 x7_1 x8_1 = some r) ∧ Aside0 (kq ≤ k) ∧ Aside0 (Kd.R k28 28 w' w.heap.size (fun _ => True) v176 t173) ∧ Aside0 (Below w.heap.size w w'))
    case atStart => exact ⟨(0), (false), (0), (by first | rfl | (simp; done) | (simp [*]; done) | (repeat (first | rfl | (unfold wrap64; omega) | congr 1))), (by first | rfl | (simp; done) | (simp [*]; done) | (repeat (first | rfl | (unfold wrap64; omega) | congr 1))), (by first | rfl | (simp; done) | (simp [*]; done) | (repeat (first | rfl | (unfold wrap64; omega) | congr 1))), H', ⟨Nat.le_refl _⟩, ⟨by (with_reducible repeat (first | apply Kd.R_alloc | apply Kd.R_drewN | apply Kd.R_drew)); exact HO177.out⟩, ⟨by repeat (first | (with_reducible first | exact HB.out | apply below_alloc | apply pw_below_drewN | apply below_drew1) | exact HB.out)⟩⟩
    case round =>
      clear H'
      try clear c1
      try clear p2
      try clear c3
      try clear c3b0
      try clear c3b1
      try clear c4
      obtain ⟨x6_1, x7_1, x8_1, rfl, rfl, rfl, HA, HK1, HO_3, HB⟩ := hrel
      cases gk with
      | zero => exact absurd HA.out (by simp [vouchlaw13_FieldsTile.l0])
      | succ k1 =>
        have H := HA.out
        clear HA
        simp only [vouchlaw13_FieldsTile.l0] at H
        by_cases c5 : x8_1 < (t173.length : Int)
        · rw [if_pos c5] at H
          have c5b0 : decide (x8_1 < (t173.length : Int)) = true := decide_eq_true c5
          clear c5
          by_cases c6 : 0 ≤ x8_1
          · rw [if_pos c6] at H
            have c6b0 : decide (0 ≤ x8_1) = true := decide_eq_true c6
            clear c6
            have HC7 := Aside0.mk H
            clear H
            obtain ⟨Ao8, co8, eo8⟩ := Kd.R_slice HO_3.out
            subst eo8
            have p180 : 0 ≤ (x8_1 : Int) := of_decide_eq_true (by first | (with_reducible assumption) | assumption)
            have q180 : x8_1 < (t173.length : Int) := of_decide_eq_true (by first | (with_reducible assumption) | assumption)
            obtain ⟨ad180, e180, hx180_0, hx180_1, hx180_2, hx180_3⟩ := at_T28 (Kd.R_reads' HO_3.out).2.2 x8_1 p180 q180
            cases e180
            replace p180 := eq_true p180
            replace q180 := eq_true q180
            go_upto_region 10 with (first | ((with_reducible refine gate_dst (N := 9) rfl ?_); (try (refine gate_guard (by rfl) ?_; dsimp only)); refine box_event ?hg (N := 9) ?hd (cs := #[.int .u8 0, .int .i64 0, .int .i64 0, .int .i64 0]) (t := 28) ?hr ?_; (case hd => rfl); (case hg => rfl); (case hr => first | (go_simp; done) | (go_simp; rfl)); intro gb181 hg w9 hbox hb; have n0_ := Aside0.mk (Kd.R_below (Kd.R_elderB (by (with_reducible repeat (first | apply Kd.R_alloc | apply Kd.R_drewN | apply Kd.R_drew)); exact HO_3.out) gb181 (Nat.le_of_eq hg.symm)) hb); have n1_ := Aside0.mk (below_step (by repeat (first | (with_reducible first | exact HB.out | apply below_alloc | apply pw_below_drewN | apply below_drew1) | exact HB.out)) hb); have n2_ := Aside0.mk (hbox); have n3_ := Aside0.mk ((by rw [hg]; exact (below_size (by repeat (first | (with_reducible first | exact HB.out | apply below_alloc | apply pw_below_drewN | apply below_drew1) | exact HB.out))) : w.heap.size ≤ gb181)); have n4_ := Aside0.mk ((by rw [hg]; exact (below_size (by repeat (first | (with_reducible first | exact HB.out | apply below_alloc | apply pw_below_drewN | apply below_drew1) | exact HB.out))) : w.heap.size ≤ gb181)); clear HO_3; clear HB; have HO_3 := n0_; have HB := n1_; have BK181 := n2_; have GW181 := n3_; have GE181 := n4_; clear n0_ n1_ n2_ n3_ n4_; clear hb hbox hg; have hcz10_0 : w9.cell? ⟨gb181, 0, none⟩ = some (.int .u8 0) := (blk_cell BK181.out 0).trans rfl; have hcz10_1 : w9.cell? ⟨gb181, 1, none⟩ = some (.int .i64 0) := (blk_cell BK181.out 1).trans rfl; have hcz10_2 : w9.cell? ⟨gb181, 2, none⟩ = some (.int .i64 0) := (blk_cell BK181.out 2).trans rfl; have hcz10_3 : w9.cell? ⟨gb181, 3, none⟩ = some (.int .i64 0) := (blk_cell BK181.out 3).trans rfl; have hfz10_0 := blk_frozen BK181.out 0; have hfz10_1 := blk_frozen BK181.out 1; have hfz10_2 := blk_frozen BK181.out 2; have hfz10_3 := blk_frozen BK181.out 3))
            (try simp only [Act.put, List.setIfInBounds_toArray, List.set_cons_zero, List.set_cons_succ])
            go_cut [79] (fun v79 wc => ∃ (kq : Nat) (x79_6 : Bool), v79 = .bool x79_6 ∧ Aside0 (vouchlaw13_FieldsTile.j1 kq a0 t173 t174 x7_1 x8_1 x79_6 ((rd_T28 t173 x8_1).f0) ((rd_T28 t173 x8_1).f1) ((rd_T28 t173 x8_1).f2) ((rd_T28 t173 x8_1).f3) = some r) ∧ Aside0 (kq ≤ k1) ∧ Aside0 (Kd.R k28 28 wc w.heap.size (fun k_ => k_ ≠ gb181) (.slice (some ad180) t173.length co8) t173) ∧ Aside0 (wc.heap[gb181]? = some (.cells #[.int .u8 ((rd_T28 t173 x8_1).f0), .int .i64 ((rd_T28 t173 x8_1).f1), .int .i64 ((rd_T28 t173 x8_1).f2), .int .i64 ((rd_T28 t173 x8_1).f3)] 28 (0, 0))) ∧ Aside0 (Below w.heap.size w wc))
            case first =>
              have H := HC7.out
              clear HC7
              by_cases c11 : ((rd_T28 t173 x8_1).f1) = x6_1
              · rw [if_pos c11] at H
                have c11b0 : (((rd_T28 t173 x8_1).f1) == x6_1) = true := beq_iff_eq.mpr c11
                have c11b1 : (((rd_T28 t173 x8_1).f1) != x6_1) = false := bne_eq_false_iff_eq.mpr c11
                clear c11
                (first | rw [c11b0] | (simp only [i64_w, i32_w]; rw [c11b0]) | skip)
                by_cases c12 : ((rd_T28 t173 x8_1).f2) ≤ ((rd_T28 t173 x8_1).f1)
                · rw [if_pos c12] at H
                  have c12b0 : decide (((rd_T28 t173 x8_1).f2) ≤ ((rd_T28 t173 x8_1).f1)) = true := decide_eq_true c12
                  clear c12
                  have H' := Aside0.mk H
                  clear H
                  have hcz13_0 : w9.cell? ⟨gb181, 0, none⟩ = some (.int .u8 0) := (blk_cell BK181.out 0).trans rfl
                  have hcz13_1 : w9.cell? ⟨gb181, 1, none⟩ = some (.int .i64 0) := (blk_cell BK181.out 1).trans rfl
                  have hcz13_2 : w9.cell? ⟨gb181, 2, none⟩ = some (.int .i64 0) := (blk_cell BK181.out 2).trans rfl
                  have hcz13_3 : w9.cell? ⟨gb181, 3, none⟩ = some (.int .i64 0) := (blk_cell BK181.out 3).trans rfl
                  have hfz13_0 := blk_frozen BK181.out 0
                  have hfz13_1 := blk_frozen BK181.out 1
                  have hfz13_2 := blk_frozen BK181.out 2
                  have hfz13_3 := blk_frozen BK181.out 3
                  go_wp2
                  go_meet
                  case rel => exact ⟨_, (true), (by first | rfl | (simp; done) | (simp [*]; done) | (repeat (first | rfl | (unfold wrap64; omega) | congr 1))), H', ⟨by have := HK1.out; first | omega | exact Nat.le_refl _⟩, ⟨by (with_reducible repeat (first | apply Kd.R_alloc | apply Kd.R_drewN | apply Kd.R_drew)); exact Kd.R_mono (Kd.R_far (p := ⟨gb181, 3, none⟩) (Kd.R_far (p := ⟨gb181, 2, none⟩) (Kd.R_far (p := ⟨gb181, 1, none⟩) (Kd.R_far (p := ⟨gb181, 0, none⟩) (Kd.R_mono HO_3.out (fun k_ hk => (⟨hk, hk.2⟩ : _ ∧ k_ ≠ gb181))) (fun _ hk => hk.2) (.int .u8 ((rd_T28 t173 x8_1).f0))) (fun _ hk => hk.2) (.int .i64 ((rd_T28 t173 x8_1).f1))) (fun _ hk => hk.2) (.int .i64 ((rd_T28 t173 x8_1).f2))) (fun _ hk => hk.2) (.int .i64 ((rd_T28 t173 x8_1).f3))) (fun _ hk => hk.1.2)⟩, ⟨by (with_reducible repeat (first | refine blk_drewN ?_ _ | refine blk_drew ?_ | refine blk_alloc ?_ _)); refine blk_put (cs := #[.int .u8 ((rd_T28 t173 x8_1).f0), .int .i64 ((rd_T28 t173 x8_1).f1), .int .i64 ((rd_T28 t173 x8_1).f2), .int .i64 0]) ?_ 3 _ rfl; (with_reducible repeat (first | refine blk_drewN ?_ _ | refine blk_drew ?_ | refine blk_alloc ?_ _)); refine blk_put (cs := #[.int .u8 ((rd_T28 t173 x8_1).f0), .int .i64 ((rd_T28 t173 x8_1).f1), .int .i64 0, .int .i64 0]) ?_ 2 _ rfl; (with_reducible repeat (first | refine blk_drewN ?_ _ | refine blk_drew ?_ | refine blk_alloc ?_ _)); refine blk_put (cs := #[.int .u8 ((rd_T28 t173 x8_1).f0), .int .i64 0, .int .i64 0, .int .i64 0]) ?_ 1 _ rfl; (with_reducible repeat (first | refine blk_drewN ?_ _ | refine blk_drew ?_ | refine blk_alloc ?_ _)); refine blk_put (cs := #[.int .u8 0, .int .i64 0, .int .i64 0, .int .i64 0]) ?_ 0 _ rfl; (with_reducible repeat (first | refine blk_drewN ?_ _ | refine blk_drew ?_ | refine blk_alloc ?_ _)); exact BK181.out⟩, ⟨by repeat (first | (with_reducible first | exact HB.out | apply below_alloc | apply pw_below_drewN | apply below_drew1 | refine below_set ?_ GE181.out) | exact HB.out)⟩⟩
                · rw [if_neg c12] at H
                  have c12b0 : decide (((rd_T28 t173 x8_1).f2) ≤ ((rd_T28 t173 x8_1).f1)) = false := decide_eq_false c12
                  clear c12
                  by_cases c14 : ((rd_T28 t173 x8_1).f3) < ((rd_T28 t173 x8_1).f2)
                  · rw [if_pos c14] at H
                    have c14b0 : decide (((rd_T28 t173 x8_1).f3) < ((rd_T28 t173 x8_1).f2)) = true := decide_eq_true c14
                    clear c14
                    have H' := Aside0.mk H
                    clear H
                    have hcz15_0 : w9.cell? ⟨gb181, 0, none⟩ = some (.int .u8 0) := (blk_cell BK181.out 0).trans rfl
                    have hcz15_1 : w9.cell? ⟨gb181, 1, none⟩ = some (.int .i64 0) := (blk_cell BK181.out 1).trans rfl
                    have hcz15_2 : w9.cell? ⟨gb181, 2, none⟩ = some (.int .i64 0) := (blk_cell BK181.out 2).trans rfl
                    have hcz15_3 : w9.cell? ⟨gb181, 3, none⟩ = some (.int .i64 0) := (blk_cell BK181.out 3).trans rfl
                    have hfz15_0 := blk_frozen BK181.out 0
                    have hfz15_1 := blk_frozen BK181.out 1
                    have hfz15_2 := blk_frozen BK181.out 2
                    have hfz15_3 := blk_frozen BK181.out 3
                    go_wp2
                    go_meet
                    case rel => exact ⟨_, (true), (by first | rfl | (simp; done) | (simp [*]; done) | (repeat (first | rfl | (unfold wrap64; omega) | congr 1))), H', ⟨by have := HK1.out; first | omega | exact Nat.le_refl _⟩, ⟨by (with_reducible repeat (first | apply Kd.R_alloc | apply Kd.R_drewN | apply Kd.R_drew)); exact Kd.R_mono (Kd.R_far (p := ⟨gb181, 3, none⟩) (Kd.R_far (p := ⟨gb181, 2, none⟩) (Kd.R_far (p := ⟨gb181, 1, none⟩) (Kd.R_far (p := ⟨gb181, 0, none⟩) (Kd.R_mono HO_3.out (fun k_ hk => (⟨hk, hk.2⟩ : _ ∧ k_ ≠ gb181))) (fun _ hk => hk.2) (.int .u8 ((rd_T28 t173 x8_1).f0))) (fun _ hk => hk.2) (.int .i64 ((rd_T28 t173 x8_1).f1))) (fun _ hk => hk.2) (.int .i64 ((rd_T28 t173 x8_1).f2))) (fun _ hk => hk.2) (.int .i64 ((rd_T28 t173 x8_1).f3))) (fun _ hk => hk.1.2)⟩, ⟨by (with_reducible repeat (first | refine blk_drewN ?_ _ | refine blk_drew ?_ | refine blk_alloc ?_ _)); refine blk_put (cs := #[.int .u8 ((rd_T28 t173 x8_1).f0), .int .i64 ((rd_T28 t173 x8_1).f1), .int .i64 ((rd_T28 t173 x8_1).f2), .int .i64 0]) ?_ 3 _ rfl; (with_reducible repeat (first | refine blk_drewN ?_ _ | refine blk_drew ?_ | refine blk_alloc ?_ _)); refine blk_put (cs := #[.int .u8 ((rd_T28 t173 x8_1).f0), .int .i64 ((rd_T28 t173 x8_1).f1), .int .i64 0, .int .i64 0]) ?_ 2 _ rfl; (with_reducible repeat (first | refine blk_drewN ?_ _ | refine blk_drew ?_ | refine blk_alloc ?_ _)); refine blk_put (cs := #[.int .u8 ((rd_T28 t173 x8_1).f0), .int .i64 0, .int .i64 0, .int .i64 0]) ?_ 1 _ rfl; (with_reducible repeat (first | refine blk_drewN ?_ _ | refine blk_drew ?_ | refine blk_alloc ?_ _)); refine blk_put (cs := #[.int .u8 0, .int .i64 0, .int .i64 0, .int .i64 0]) ?_ 0 _ rfl; (with_reducible repeat (first | refine blk_drewN ?_ _ | refine blk_drew ?_ | refine blk_alloc ?_ _)); exact BK181.out⟩, ⟨by repeat (first | (with_reducible first | exact HB.out | apply below_alloc | apply pw_below_drewN | apply below_drew1 | refine below_set ?_ GE181.out) | exact HB.out)⟩⟩
                  · rw [if_neg c14] at H
                    have c14b0 : decide (((rd_T28 t173 x8_1).f3) < ((rd_T28 t173 x8_1).f2)) = false := decide_eq_false c14
                    clear c14
                    by_cases c16 : ((rd_T28 t173 x8_1).f3) > (a0.size : Int)
                    · rw [if_pos c16] at H
                      have c16b0 : decide ((a0.size : Int) < ((rd_T28 t173 x8_1).f3)) = true := decide_eq_true c16
                      clear c16
                      have H' := Aside0.mk H
                      clear H
                      have hcz17_0 : w9.cell? ⟨gb181, 0, none⟩ = some (.int .u8 0) := (blk_cell BK181.out 0).trans rfl
                      have hcz17_1 : w9.cell? ⟨gb181, 1, none⟩ = some (.int .i64 0) := (blk_cell BK181.out 1).trans rfl
                      have hcz17_2 : w9.cell? ⟨gb181, 2, none⟩ = some (.int .i64 0) := (blk_cell BK181.out 2).trans rfl
                      have hcz17_3 : w9.cell? ⟨gb181, 3, none⟩ = some (.int .i64 0) := (blk_cell BK181.out 3).trans rfl
                      have hfz17_0 := blk_frozen BK181.out 0
                      have hfz17_1 := blk_frozen BK181.out 1
                      have hfz17_2 := blk_frozen BK181.out 2
                      have hfz17_3 := blk_frozen BK181.out 3
                      go_wp2
                      go_meet
                      case rel => exact ⟨_, (true), (by first | rfl | (simp; done) | (simp [*]; done) | (repeat (first | rfl | (unfold wrap64; omega) | congr 1))), H', ⟨by have := HK1.out; first | omega | exact Nat.le_refl _⟩, ⟨by (with_reducible repeat (first | apply Kd.R_alloc | apply Kd.R_drewN | apply Kd.R_drew)); exact Kd.R_mono (Kd.R_far (p := ⟨gb181, 3, none⟩) (Kd.R_far (p := ⟨gb181, 2, none⟩) (Kd.R_far (p := ⟨gb181, 1, none⟩) (Kd.R_far (p := ⟨gb181, 0, none⟩) (Kd.R_mono HO_3.out (fun k_ hk => (⟨hk, hk.2⟩ : _ ∧ k_ ≠ gb181))) (fun _ hk => hk.2) (.int .u8 ((rd_T28 t173 x8_1).f0))) (fun _ hk => hk.2) (.int .i64 ((rd_T28 t173 x8_1).f1))) (fun _ hk => hk.2) (.int .i64 ((rd_T28 t173 x8_1).f2))) (fun _ hk => hk.2) (.int .i64 ((rd_T28 t173 x8_1).f3))) (fun _ hk => hk.1.2)⟩, ⟨by (with_reducible repeat (first | refine blk_drewN ?_ _ | refine blk_drew ?_ | refine blk_alloc ?_ _)); refine blk_put (cs := #[.int .u8 ((rd_T28 t173 x8_1).f0), .int .i64 ((rd_T28 t173 x8_1).f1), .int .i64 ((rd_T28 t173 x8_1).f2), .int .i64 0]) ?_ 3 _ rfl; (with_reducible repeat (first | refine blk_drewN ?_ _ | refine blk_drew ?_ | refine blk_alloc ?_ _)); refine blk_put (cs := #[.int .u8 ((rd_T28 t173 x8_1).f0), .int .i64 ((rd_T28 t173 x8_1).f1), .int .i64 0, .int .i64 0]) ?_ 2 _ rfl; (with_reducible repeat (first | refine blk_drewN ?_ _ | refine blk_drew ?_ | refine blk_alloc ?_ _)); refine blk_put (cs := #[.int .u8 ((rd_T28 t173 x8_1).f0), .int .i64 0, .int .i64 0, .int .i64 0]) ?_ 1 _ rfl; (with_reducible repeat (first | refine blk_drewN ?_ _ | refine blk_drew ?_ | refine blk_alloc ?_ _)); refine blk_put (cs := #[.int .u8 0, .int .i64 0, .int .i64 0, .int .i64 0]) ?_ 0 _ rfl; (with_reducible repeat (first | refine blk_drewN ?_ _ | refine blk_drew ?_ | refine blk_alloc ?_ _)); exact BK181.out⟩, ⟨by repeat (first | (with_reducible first | exact HB.out | apply below_alloc | apply pw_below_drewN | apply below_drew1 | refine below_set ?_ GE181.out) | exact HB.out)⟩⟩
                    · rw [if_neg c16] at H
                      have c16b0 : decide ((a0.size : Int) < ((rd_T28 t173 x8_1).f3)) = false := decide_eq_false c16
                      clear c16
                      obtain ⟨ji18, hji18⟩ : ∃ j_ : Int, (wrap64 (((rd_T28 t173 x8_1).f2) - 1)) = j_ := ⟨_, rfl⟩
                      replace H : (if 0 ≤ (ji18) then (if (ji18) < (a0.size : Int) then (vouchlaw13_FieldsTile.j1 k1 a0 t173 t174 x7_1 x8_1 ((bt a0 (ji18)) != 58) ((rd_T28 t173 x8_1).f0) ((rd_T28 t173 x8_1).f1) ((rd_T28 t173 x8_1).f2) ((rd_T28 t173 x8_1).f3)) else (none)) else (none)) = some r := by first | (rw [hji18] at H; exact H) | (simp only [hji18] at H ⊢; exact H)
                      have hji18w : (IntKind.i64.wrap (((rd_T28 t173 x8_1).f2) - 1)) = ji18 := (i64_w _).trans hji18
                      by_cases c19 : 0 ≤ (ji18)
                      · rw [if_pos c19] at H
                        have c19b0 : decide (0 ≤ (ji18)) = true := decide_eq_true c19
                        clear c19
                        by_cases c20 : (ji18) < (a0.size : Int)
                        · rw [if_pos c20] at H
                          have c20b0 : decide ((ji18) < (a0.size : Int)) = true := decide_eq_true c20
                          clear c20
                          have H' := Aside0.mk H
                          clear H
                          have hcz22_0 : w9.cell? ⟨gb181, 0, none⟩ = some (.int .u8 0) := (blk_cell BK181.out 0).trans rfl
                          have hcz22_1 : w9.cell? ⟨gb181, 1, none⟩ = some (.int .i64 0) := (blk_cell BK181.out 1).trans rfl
                          have hcz22_2 : w9.cell? ⟨gb181, 2, none⟩ = some (.int .i64 0) := (blk_cell BK181.out 2).trans rfl
                          have hcz22_3 : w9.cell? ⟨gb181, 3, none⟩ = some (.int .i64 0) := (blk_cell BK181.out 3).trans rfl
                          have hfz22_0 := blk_frozen BK181.out 0
                          have hfz22_1 := blk_frozen BK181.out 1
                          have hfz22_2 := blk_frozen BK181.out 2
                          have hfz22_3 := blk_frozen BK181.out 3
                          have p21 : 0 ≤ ((ji18) : Int) := of_decide_eq_true (by first | (with_reducible assumption) | assumption)
                          have q21 : (ji18) < (a0.size : Int) := of_decide_eq_true (by first | (with_reducible assumption) | assumption)
                          have hx21 := bt_at a0 (ji18)
                          replace p21 := eq_true p21
                          replace q21 := eq_true q21
                          go_wp2
                          go_meet
                          case rel => exact ⟨_, (((bt a0 (ji18)) != 58)), (by first | rfl | (simp; done) | (simp only [← hji18] <;> (first | rfl | simp)) | (simp [*]; done)), H', ⟨by have := HK1.out; first | omega | exact Nat.le_refl _⟩, ⟨by (with_reducible repeat (first | apply Kd.R_alloc | apply Kd.R_drewN | apply Kd.R_drew)); exact Kd.R_mono (Kd.R_far (p := ⟨gb181, 3, none⟩) (Kd.R_far (p := ⟨gb181, 2, none⟩) (Kd.R_far (p := ⟨gb181, 1, none⟩) (Kd.R_far (p := ⟨gb181, 0, none⟩) (Kd.R_mono HO_3.out (fun k_ hk => (⟨hk, hk.2⟩ : _ ∧ k_ ≠ gb181))) (fun _ hk => hk.2) (.int .u8 ((rd_T28 t173 x8_1).f0))) (fun _ hk => hk.2) (.int .i64 ((rd_T28 t173 x8_1).f1))) (fun _ hk => hk.2) (.int .i64 ((rd_T28 t173 x8_1).f2))) (fun _ hk => hk.2) (.int .i64 ((rd_T28 t173 x8_1).f3))) (fun _ hk => hk.1.2)⟩, ⟨by (with_reducible repeat (first | refine blk_drewN ?_ _ | refine blk_drew ?_ | refine blk_alloc ?_ _)); refine blk_put (cs := #[.int .u8 ((rd_T28 t173 x8_1).f0), .int .i64 ((rd_T28 t173 x8_1).f1), .int .i64 ((rd_T28 t173 x8_1).f2), .int .i64 0]) ?_ 3 _ rfl; (with_reducible repeat (first | refine blk_drewN ?_ _ | refine blk_drew ?_ | refine blk_alloc ?_ _)); refine blk_put (cs := #[.int .u8 ((rd_T28 t173 x8_1).f0), .int .i64 ((rd_T28 t173 x8_1).f1), .int .i64 0, .int .i64 0]) ?_ 2 _ rfl; (with_reducible repeat (first | refine blk_drewN ?_ _ | refine blk_drew ?_ | refine blk_alloc ?_ _)); refine blk_put (cs := #[.int .u8 ((rd_T28 t173 x8_1).f0), .int .i64 0, .int .i64 0, .int .i64 0]) ?_ 1 _ rfl; (with_reducible repeat (first | refine blk_drewN ?_ _ | refine blk_drew ?_ | refine blk_alloc ?_ _)); refine blk_put (cs := #[.int .u8 0, .int .i64 0, .int .i64 0, .int .i64 0]) ?_ 0 _ rfl; (with_reducible repeat (first | refine blk_drewN ?_ _ | refine blk_drew ?_ | refine blk_alloc ?_ _)); exact BK181.out⟩, ⟨by repeat (first | (with_reducible first | exact HB.out | apply below_alloc | apply pw_below_drewN | apply below_drew1 | refine below_set ?_ GE181.out) | exact HB.out)⟩⟩
                        · rw [if_neg c20] at H
                          exact absurd H (by simp)
                      · rw [if_neg c19] at H
                        exact absurd H (by simp)
              · rw [if_neg c11] at H
                have c11b0 : (((rd_T28 t173 x8_1).f1) == x6_1) = false := beq_eq_false_iff_ne.mpr c11
                have c11b1 : (((rd_T28 t173 x8_1).f1) != x6_1) = true := bne_iff_ne.mpr c11
                (first | rw [c11b0] | (simp only [i64_w, i32_w]; rw [c11b0]) | skip)
                have H' := Aside0.mk H
                clear H
                have hcz23_0 : w9.cell? ⟨gb181, 0, none⟩ = some (.int .u8 0) := (blk_cell BK181.out 0).trans rfl
                have hcz23_1 : w9.cell? ⟨gb181, 1, none⟩ = some (.int .i64 0) := (blk_cell BK181.out 1).trans rfl
                have hcz23_2 : w9.cell? ⟨gb181, 2, none⟩ = some (.int .i64 0) := (blk_cell BK181.out 2).trans rfl
                have hcz23_3 : w9.cell? ⟨gb181, 3, none⟩ = some (.int .i64 0) := (blk_cell BK181.out 3).trans rfl
                have hfz23_0 := blk_frozen BK181.out 0
                have hfz23_1 := blk_frozen BK181.out 1
                have hfz23_2 := blk_frozen BK181.out 2
                have hfz23_3 := blk_frozen BK181.out 3
                go_wp2
                go_meet
                case rel => exact ⟨_, (true), (by first | rfl | (simp; done) | (simp [*]; done) | (repeat (first | rfl | (unfold wrap64; omega) | congr 1))), H', ⟨by have := HK1.out; first | omega | exact Nat.le_refl _⟩, ⟨by (with_reducible repeat (first | apply Kd.R_alloc | apply Kd.R_drewN | apply Kd.R_drew)); exact Kd.R_mono (Kd.R_far (p := ⟨gb181, 3, none⟩) (Kd.R_far (p := ⟨gb181, 2, none⟩) (Kd.R_far (p := ⟨gb181, 1, none⟩) (Kd.R_far (p := ⟨gb181, 0, none⟩) (Kd.R_mono HO_3.out (fun k_ hk => (⟨hk, hk.2⟩ : _ ∧ k_ ≠ gb181))) (fun _ hk => hk.2) (.int .u8 ((rd_T28 t173 x8_1).f0))) (fun _ hk => hk.2) (.int .i64 ((rd_T28 t173 x8_1).f1))) (fun _ hk => hk.2) (.int .i64 ((rd_T28 t173 x8_1).f2))) (fun _ hk => hk.2) (.int .i64 ((rd_T28 t173 x8_1).f3))) (fun _ hk => hk.1.2)⟩, ⟨by (with_reducible repeat (first | refine blk_drewN ?_ _ | refine blk_drew ?_ | refine blk_alloc ?_ _)); refine blk_put (cs := #[.int .u8 ((rd_T28 t173 x8_1).f0), .int .i64 ((rd_T28 t173 x8_1).f1), .int .i64 ((rd_T28 t173 x8_1).f2), .int .i64 0]) ?_ 3 _ rfl; (with_reducible repeat (first | refine blk_drewN ?_ _ | refine blk_drew ?_ | refine blk_alloc ?_ _)); refine blk_put (cs := #[.int .u8 ((rd_T28 t173 x8_1).f0), .int .i64 ((rd_T28 t173 x8_1).f1), .int .i64 0, .int .i64 0]) ?_ 2 _ rfl; (with_reducible repeat (first | refine blk_drewN ?_ _ | refine blk_drew ?_ | refine blk_alloc ?_ _)); refine blk_put (cs := #[.int .u8 ((rd_T28 t173 x8_1).f0), .int .i64 0, .int .i64 0, .int .i64 0]) ?_ 1 _ rfl; (with_reducible repeat (first | refine blk_drewN ?_ _ | refine blk_drew ?_ | refine blk_alloc ?_ _)); refine blk_put (cs := #[.int .u8 0, .int .i64 0, .int .i64 0, .int .i64 0]) ?_ 0 _ rfl; (with_reducible repeat (first | refine blk_drewN ?_ _ | refine blk_drew ?_ | refine blk_alloc ?_ _)); exact BK181.out⟩, ⟨by repeat (first | (with_reducible first | exact HB.out | apply below_alloc | apply pw_below_drewN | apply below_drew1 | refine below_set ?_ GE181.out) | exact HB.out)⟩⟩
            case rest =>
              clear HC7
              try clear c1
              try clear p1
              try clear q1
              try clear hx1
              try clear c2
              try clear p2
              try clear q2
              try clear hx2
              try clear c3
              try clear c3b0
              try clear c3b1
              try clear c4
              try clear c5
              try clear c5b0
              try clear c6
              try clear c6b0
              try clear p6
              try clear c11
              try clear c11b0
              try clear c11b1
              try clear c12
              try clear c12b0
              try clear c14
              try clear c14b0
              try clear c16
              try clear c16b0
              try clear p18
              try clear q18
              try clear hx18
              try clear c19
              try clear c19b0
              try clear c20
              try clear c20b0
              try clear p21
              try clear q21
              try clear hx21
              try clear hcz10_0
              try clear hcz10_1
              try clear hcz10_2
              try clear hcz10_3
              try clear hcz13_0
              try clear hcz13_1
              try clear hcz13_2
              try clear hcz13_3
              try clear hcz15_0
              try clear hcz15_1
              try clear hcz15_2
              try clear hcz15_3
              try clear hcz17_0
              try clear hcz17_1
              try clear hcz17_2
              try clear hcz17_3
              try clear hcz22_0
              try clear hcz22_1
              try clear hcz22_2
              try clear hcz22_3
              try clear hcz23_0
              try clear hcz23_1
              try clear hcz23_2
              try clear hcz23_3
              try clear hfz10_0
              try clear hfz10_1
              try clear hfz10_2
              try clear hfz10_3
              try clear hfz13_0
              try clear hfz13_1
              try clear hfz13_2
              try clear hfz13_3
              try clear hfz15_0
              try clear hfz15_1
              try clear hfz15_2
              try clear hfz15_3
              try clear hfz17_0
              try clear hfz17_1
              try clear hfz17_2
              try clear hfz17_3
              try clear hfz22_0
              try clear hfz22_1
              try clear hfz22_2
              try clear hfz22_3
              try clear hfz23_0
              try clear hfz23_1
              try clear hfz23_2
              try clear hfz23_3
              try clear hx180_0
              try clear hx180_1
              try clear hx180_2
              try clear hx180_3
              try clear p180
              try clear p2
              try clear p21
              try clear q180
              try clear q21
              obtain ⟨kq, x79_6, rfl, HA, HJ6, HO_3, BK181, HB⟩ := hcut
              cases kq with
              | zero => exact absurd HA.out (by simp [vouchlaw13_FieldsTile.j1])
              | succ kj6 =>
                have H := HA.out
                clear HA
                simp only [vouchlaw13_FieldsTile.j1] at H
                by_cases c24 : x79_6 = true
                · subst c24
                  have H1 : (some false) = some r := by rw [if_pos rfl] at H; exact H
                  clear H
                  have H := H1
                  clear H1
                  obtain rfl := Option.some.inj H
                  go_wp2
                  go_ret
                  exact ⟨by first | rfl | (simp [errW_none, errW_some] <;> rfl) | (simp [*, errW_none, errW_some] <;> rfl), by repeat (first | (with_reducible first | exact HB.out | apply below_alloc | apply pw_below_drewN | apply below_drew1 | refine below_set ?_ GE181.out) | exact HB.out)⟩
                · replace c24 := Bool.eq_false_iff.mpr c24
                  subst c24
                  have H1 : (if 0 ≤ ((rd_T28 t173 x8_1).f1) then (if ((rd_T28 t173 x8_1).f1) ≤ (wrap64 (((rd_T28 t173 x8_1).f2) - 1)) then (if (wrap64 (((rd_T28 t173 x8_1).f2) - 1)) ≤ (a0.size : Int) then ((fields_Kind.f (a0.extract (((rd_T28 t173 x8_1).f1) : Int).toNat ((wrap64 (((rd_T28 t173 x8_1).f2) - 1)) : Int).toNat)).bind fun bt182 => (if bt182.2 = true then (if bt182.1 = ((rd_T28 t173 x8_1).f0) then (if x8_1 > 0 then (if 0 ≤ (wrap64 (((rd_T28 t173 x8_1).f1) - 1)) then (if (wrap64 (((rd_T28 t173 x8_1).f1) - 1)) < (a0.size : Int) then (vouchlaw13_FieldsTile.j2 kj6 a0 t173 t174 x7_1 x8_1 bt182.1 ((bt a0 (wrap64 (((rd_T28 t173 x8_1).f1) - 1))) != 10) ((rd_T28 t173 x8_1).f0) ((rd_T28 t173 x8_1).f1) ((rd_T28 t173 x8_1).f2) ((rd_T28 t173 x8_1).f3)) else (none)) else (none)) else (vouchlaw13_FieldsTile.j2 kj6 a0 t173 t174 x7_1 x8_1 bt182.1 false ((rd_T28 t173 x8_1).f0) ((rd_T28 t173 x8_1).f1) ((rd_T28 t173 x8_1).f2) ((rd_T28 t173 x8_1).f3))) else (vouchlaw13_FieldsTile.j2 kj6 a0 t173 t174 x7_1 x8_1 bt182.1 true ((rd_T28 t173 x8_1).f0) ((rd_T28 t173 x8_1).f1) ((rd_T28 t173 x8_1).f2) ((rd_T28 t173 x8_1).f3))) else (vouchlaw13_FieldsTile.j2 kj6 a0 t173 t174 x7_1 x8_1 bt182.1 true ((rd_T28 t173 x8_1).f0) ((rd_T28 t173 x8_1).f1) ((rd_T28 t173 x8_1).f2) ((rd_T28 t173 x8_1).f3)))) else (none)) else (none)) else (none)) = some r := by rw [if_neg (show ¬ (false = true) by decide)] at H; exact H
                  clear H
                  have H := H1
                  clear H1
                  by_cases c25 : 0 ≤ ((rd_T28 t173 x8_1).f1)
                  · rw [if_pos c25] at H
                    have c25b0 := eq_true c25
                    have c25b1 : decide (0 ≤ ((rd_T28 t173 x8_1).f1)) = true := decide_eq_true c25
                    clear c25
                    by_cases c26 : ((rd_T28 t173 x8_1).f1) ≤ (wrap64 (((rd_T28 t173 x8_1).f2) - 1))
                    · rw [if_pos c26] at H
                      have c26b0 := eq_true c26
                      have c26b1 : decide (((rd_T28 t173 x8_1).f1) ≤ (wrap64 (((rd_T28 t173 x8_1).f2) - 1))) = true := decide_eq_true c26
                      clear c26
                      by_cases c27 : (wrap64 (((rd_T28 t173 x8_1).f2) - 1)) ≤ (a0.size : Int)
                      · rw [if_pos c27] at H
                        have c27b0 := eq_true c27
                        have c27b1 : decide ((wrap64 (((rd_T28 t173 x8_1).f2) - 1)) ≤ (a0.size : Int)) = true := decide_eq_true c27
                        clear c27
                        replace H := Option.bind_eq_some_iff.mp H
                        obtain ⟨⟨t182, t183⟩, A280, H⟩ := H
                        replace H : (if t183 = true then (if t182 = ((rd_T28 t173 x8_1).f0) then (if x8_1 > 0 then (if 0 ≤ (wrap64 (((rd_T28 t173 x8_1).f1) - 1)) then (if (wrap64 (((rd_T28 t173 x8_1).f1) - 1)) < (a0.size : Int) then (vouchlaw13_FieldsTile.j2 kj6 a0 t173 t174 x7_1 x8_1 t182 ((bt a0 (wrap64 (((rd_T28 t173 x8_1).f1) - 1))) != 10) ((rd_T28 t173 x8_1).f0) ((rd_T28 t173 x8_1).f1) ((rd_T28 t173 x8_1).f2) ((rd_T28 t173 x8_1).f3)) else (none)) else (none)) else (vouchlaw13_FieldsTile.j2 kj6 a0 t173 t174 x7_1 x8_1 t182 false ((rd_T28 t173 x8_1).f0) ((rd_T28 t173 x8_1).f1) ((rd_T28 t173 x8_1).f2) ((rd_T28 t173 x8_1).f3))) else (vouchlaw13_FieldsTile.j2 kj6 a0 t173 t174 x7_1 x8_1 t182 true ((rd_T28 t173 x8_1).f0) ((rd_T28 t173 x8_1).f1) ((rd_T28 t173 x8_1).f2) ((rd_T28 t173 x8_1).f3))) else (vouchlaw13_FieldsTile.j2 kj6 a0 t173 t174 x7_1 x8_1 t182 true ((rd_T28 t173 x8_1).f0) ((rd_T28 t173 x8_1).f1) ((rd_T28 t173 x8_1).f2) ((rd_T28 t173 x8_1).f3))) = some r := H
                        have A28 := Aside0.mk A280
                        clear A280
                        have HC29 := Aside0.mk H
                        clear H
                        have hcz30_0 : wc.cell? ⟨gb181, 0, none⟩ = some (.int .u8 ((rd_T28 t173 x8_1).f0)) := (blk_cell BK181.out 0).trans rfl
                        have hcz30_1 : wc.cell? ⟨gb181, 1, none⟩ = some (.int .i64 ((rd_T28 t173 x8_1).f1)) := (blk_cell BK181.out 1).trans rfl
                        have hcz30_2 : wc.cell? ⟨gb181, 2, none⟩ = some (.int .i64 ((rd_T28 t173 x8_1).f2)) := (blk_cell BK181.out 2).trans rfl
                        have hcz30_3 : wc.cell? ⟨gb181, 3, none⟩ = some (.int .i64 ((rd_T28 t173 x8_1).f3)) := (blk_cell BK181.out 3).trans rfl
                        have hfz30_0 := blk_frozen BK181.out 0
                        have hfz30_1 := blk_frozen BK181.out 1
                        have hfz30_2 := blk_frozen BK181.out 2
                        have hfz30_3 := blk_frozen BK181.out 3
                        go_upto_region 13 with (first | ((with_reducible refine gate_callee (f := 15) rfl ?_); refine goesL_ (some 88) rfl rfl Try.func15 (by kernel_rfl) rfl #[.string (a0.extract (((rd_T28 t173 x8_1).f1) : Int).toNat ((wrap64 (((rd_T28 t173 x8_1).f2) - 1)) : Int).toNat)] rfl (by (try simp only [List.map_toArray, List.map_cons, List.map_nil]); first | done | rfl | (simp only [List.length_drop, List.length_take]; rfl)) ?_; (with_reducible refine (fields_Kind.calls (a0.extract (((rd_T28 t173 x8_1).f1) : Int).toNat ((wrap64 (((rd_T28 t173 x8_1).f2) - 1)) : Int).toNat) t182 t183 _ A28.out).mono ?_); rintro e w31 ⟨rfl, hb⟩; refine ⟨_, rfl, ?_⟩; have n0_ := Aside0.mk (Kd.R_below (by (with_reducible repeat (first | apply Kd.R_alloc | apply Kd.R_drewN | apply Kd.R_drew)); exact HO_3.out) hb); have n1_ := Aside0.mk (blk_below (g := gb181) (o := .cells #[.int .u8 ((rd_T28 t173 x8_1).f0), .int .i64 ((rd_T28 t173 x8_1).f1), .int .i64 ((rd_T28 t173 x8_1).f2), .int .i64 ((rd_T28 t173 x8_1).f3)] 28 (0, 0)) (by (with_reducible repeat (first | refine blk_drewN ?_ _ | refine blk_drew ?_ | refine blk_alloc ?_ _)); exact BK181.out) hb); have n2_ := Aside0.mk (below_step (by repeat (first | (with_reducible first | exact HB.out | apply below_alloc | apply pw_below_drewN | apply below_drew1 | refine below_set ?_ GE181.out) | exact HB.out)) hb); clear HO_3; clear BK181; clear HB; have HO_3 := n0_; have BK181 := n1_; have HB := n2_; clear n0_ n1_ n2_; (try clear hb); (try clear hb2); (try clear hk); (try clear hi)))
                        (try simp only [Act.put, List.setIfInBounds_toArray, List.set_cons_zero, List.set_cons_succ])
                        go_cut [110] (fun v110 wc => ∃ (kq : Nat) (x110_28 : Bool), v110 = .bool x110_28 ∧ Aside0 (vouchlaw13_FieldsTile.j2 kq a0 t173 t174 x7_1 x8_1 t182 x110_28 ((rd_T28 t173 x8_1).f0) ((rd_T28 t173 x8_1).f1) ((rd_T28 t173 x8_1).f2) ((rd_T28 t173 x8_1).f3) = some r) ∧ Aside0 (kq ≤ kj6) ∧ Aside0 (Kd.R k28 28 wc w.heap.size (fun k_ => k_ ≠ gb181) (.slice (some ad180) t173.length co8) t173) ∧ Aside0 (wc.heap[gb181]? = some (.cells #[.int .u8 ((rd_T28 t173 x8_1).f0), .int .i64 ((rd_T28 t173 x8_1).f1), .int .i64 ((rd_T28 t173 x8_1).f2), .int .i64 ((rd_T28 t173 x8_1).f3)] 28 (0, 0))) ∧ Aside0 (Below w.heap.size w wc))
                        case first =>
                          have H := HC29.out
                          clear HC29
                          by_cases c32 : t183 = true
                          · subst c32
                            have H1 : (if t182 = ((rd_T28 t173 x8_1).f0) then (if x8_1 > 0 then (if 0 ≤ (wrap64 (((rd_T28 t173 x8_1).f1) - 1)) then (if (wrap64 (((rd_T28 t173 x8_1).f1) - 1)) < (a0.size : Int) then (vouchlaw13_FieldsTile.j2 kj6 a0 t173 t174 x7_1 x8_1 t182 ((bt a0 (wrap64 (((rd_T28 t173 x8_1).f1) - 1))) != 10) ((rd_T28 t173 x8_1).f0) ((rd_T28 t173 x8_1).f1) ((rd_T28 t173 x8_1).f2) ((rd_T28 t173 x8_1).f3)) else (none)) else (none)) else (vouchlaw13_FieldsTile.j2 kj6 a0 t173 t174 x7_1 x8_1 t182 false ((rd_T28 t173 x8_1).f0) ((rd_T28 t173 x8_1).f1) ((rd_T28 t173 x8_1).f2) ((rd_T28 t173 x8_1).f3))) else (vouchlaw13_FieldsTile.j2 kj6 a0 t173 t174 x7_1 x8_1 t182 true ((rd_T28 t173 x8_1).f0) ((rd_T28 t173 x8_1).f1) ((rd_T28 t173 x8_1).f2) ((rd_T28 t173 x8_1).f3))) = some r := by rw [if_pos rfl] at H; exact H
                            clear H
                            have H := H1
                            clear H1
                            by_cases c33 : t182 = ((rd_T28 t173 x8_1).f0)
                            · rw [if_pos c33] at H
                              have c33b0 : (t182 == ((rd_T28 t173 x8_1).f0)) = true := beq_iff_eq.mpr c33
                              have c33b1 : (t182 != ((rd_T28 t173 x8_1).f0)) = false := bne_eq_false_iff_eq.mpr c33
                              clear c33
                              (first | rw [c33b0] | (simp only [i64_w, i32_w]; rw [c33b0]) | skip)
                              by_cases c34 : x8_1 > 0
                              · rw [if_pos c34] at H
                                have c34b0 : decide (0 < x8_1) = true := decide_eq_true c34
                                clear c34
                                obtain ⟨ji35, hji35⟩ : ∃ j_ : Int, (wrap64 (((rd_T28 t173 x8_1).f1) - 1)) = j_ := ⟨_, rfl⟩
                                replace H : (if 0 ≤ (ji35) then (if (ji35) < (a0.size : Int) then (vouchlaw13_FieldsTile.j2 kj6 a0 t173 t174 x7_1 x8_1 t182 ((bt a0 (ji35)) != 10) ((rd_T28 t173 x8_1).f0) ((rd_T28 t173 x8_1).f1) ((rd_T28 t173 x8_1).f2) ((rd_T28 t173 x8_1).f3)) else (none)) else (none)) = some r := by first | (rw [hji35] at H; exact H) | (simp only [hji35] at H ⊢; exact H)
                                have hji35w : (IntKind.i64.wrap (((rd_T28 t173 x8_1).f1) - 1)) = ji35 := (i64_w _).trans hji35
                                by_cases c36 : 0 ≤ (ji35)
                                · rw [if_pos c36] at H
                                  have c36b0 : decide (0 ≤ (ji35)) = true := decide_eq_true c36
                                  clear c36
                                  by_cases c37 : (ji35) < (a0.size : Int)
                                  · rw [if_pos c37] at H
                                    have c37b0 : decide ((ji35) < (a0.size : Int)) = true := decide_eq_true c37
                                    clear c37
                                    have H' := Aside0.mk H
                                    clear H
                                    have hcz39_0 : w31.cell? ⟨gb181, 0, none⟩ = some (.int .u8 ((rd_T28 t173 x8_1).f0)) := (blk_cell BK181.out 0).trans rfl
                                    have hcz39_1 : w31.cell? ⟨gb181, 1, none⟩ = some (.int .i64 ((rd_T28 t173 x8_1).f1)) := (blk_cell BK181.out 1).trans rfl
                                    have hcz39_2 : w31.cell? ⟨gb181, 2, none⟩ = some (.int .i64 ((rd_T28 t173 x8_1).f2)) := (blk_cell BK181.out 2).trans rfl
                                    have hcz39_3 : w31.cell? ⟨gb181, 3, none⟩ = some (.int .i64 ((rd_T28 t173 x8_1).f3)) := (blk_cell BK181.out 3).trans rfl
                                    have hfz39_0 := blk_frozen BK181.out 0
                                    have hfz39_1 := blk_frozen BK181.out 1
                                    have hfz39_2 := blk_frozen BK181.out 2
                                    have hfz39_3 := blk_frozen BK181.out 3
                                    have p38 : 0 ≤ ((ji35) : Int) := of_decide_eq_true (by first | (with_reducible assumption) | assumption)
                                    have q38 : (ji35) < (a0.size : Int) := of_decide_eq_true (by first | (with_reducible assumption) | assumption)
                                    have hx38 := bt_at a0 (ji35)
                                    replace p38 := eq_true p38
                                    replace q38 := eq_true q38
                                    go_wp2
                                    go_meet
                                    case rel => exact ⟨_, (((bt a0 (ji35)) != 10)), (by first | rfl | (simp; done) | (simp only [← hji35] <;> (first | rfl | simp)) | (simp [*]; done)), H', ⟨by have := HK1.out; have := HJ6.out; first | omega | exact Nat.le_refl _⟩, ⟨by (with_reducible repeat (first | apply Kd.R_alloc | apply Kd.R_drewN | apply Kd.R_drew)); exact HO_3.out⟩, ⟨by (with_reducible repeat (first | refine blk_drewN ?_ _ | refine blk_drew ?_ | refine blk_alloc ?_ _)); exact BK181.out⟩, ⟨by repeat (first | (with_reducible first | exact HB.out | apply below_alloc | apply pw_below_drewN | apply below_drew1 | refine below_set ?_ GE181.out) | exact HB.out)⟩⟩
                                  · rw [if_neg c37] at H
                                    exact absurd H (by simp)
                                · rw [if_neg c36] at H
                                  exact absurd H (by simp)
                              · rw [if_neg c34] at H
                                have c34b0 : decide (0 < x8_1) = false := decide_eq_false c34
                                clear c34
                                have H' := Aside0.mk H
                                clear H
                                have hcz40_0 : w31.cell? ⟨gb181, 0, none⟩ = some (.int .u8 ((rd_T28 t173 x8_1).f0)) := (blk_cell BK181.out 0).trans rfl
                                have hcz40_1 : w31.cell? ⟨gb181, 1, none⟩ = some (.int .i64 ((rd_T28 t173 x8_1).f1)) := (blk_cell BK181.out 1).trans rfl
                                have hcz40_2 : w31.cell? ⟨gb181, 2, none⟩ = some (.int .i64 ((rd_T28 t173 x8_1).f2)) := (blk_cell BK181.out 2).trans rfl
                                have hcz40_3 : w31.cell? ⟨gb181, 3, none⟩ = some (.int .i64 ((rd_T28 t173 x8_1).f3)) := (blk_cell BK181.out 3).trans rfl
                                have hfz40_0 := blk_frozen BK181.out 0
                                have hfz40_1 := blk_frozen BK181.out 1
                                have hfz40_2 := blk_frozen BK181.out 2
                                have hfz40_3 := blk_frozen BK181.out 3
                                go_wp2
                                go_meet
                                case rel => exact ⟨_, (false), (by first | rfl | (simp; done) | (simp [*]; done) | (repeat (first | rfl | (unfold wrap64; omega) | congr 1))), H', ⟨by have := HK1.out; have := HJ6.out; first | omega | exact Nat.le_refl _⟩, ⟨by (with_reducible repeat (first | apply Kd.R_alloc | apply Kd.R_drewN | apply Kd.R_drew)); exact HO_3.out⟩, ⟨by (with_reducible repeat (first | refine blk_drewN ?_ _ | refine blk_drew ?_ | refine blk_alloc ?_ _)); exact BK181.out⟩, ⟨by repeat (first | (with_reducible first | exact HB.out | apply below_alloc | apply pw_below_drewN | apply below_drew1 | refine below_set ?_ GE181.out) | exact HB.out)⟩⟩
                            · rw [if_neg c33] at H
                              have c33b0 : (t182 == ((rd_T28 t173 x8_1).f0)) = false := beq_eq_false_iff_ne.mpr c33
                              have c33b1 : (t182 != ((rd_T28 t173 x8_1).f0)) = true := bne_iff_ne.mpr c33
                              (first | rw [c33b0] | (simp only [i64_w, i32_w]; rw [c33b0]) | skip)
                              have H' := Aside0.mk H
                              clear H
                              have hcz41_0 : w31.cell? ⟨gb181, 0, none⟩ = some (.int .u8 ((rd_T28 t173 x8_1).f0)) := (blk_cell BK181.out 0).trans rfl
                              have hcz41_1 : w31.cell? ⟨gb181, 1, none⟩ = some (.int .i64 ((rd_T28 t173 x8_1).f1)) := (blk_cell BK181.out 1).trans rfl
                              have hcz41_2 : w31.cell? ⟨gb181, 2, none⟩ = some (.int .i64 ((rd_T28 t173 x8_1).f2)) := (blk_cell BK181.out 2).trans rfl
                              have hcz41_3 : w31.cell? ⟨gb181, 3, none⟩ = some (.int .i64 ((rd_T28 t173 x8_1).f3)) := (blk_cell BK181.out 3).trans rfl
                              have hfz41_0 := blk_frozen BK181.out 0
                              have hfz41_1 := blk_frozen BK181.out 1
                              have hfz41_2 := blk_frozen BK181.out 2
                              have hfz41_3 := blk_frozen BK181.out 3
                              go_wp2
                              go_meet
                              case rel => exact ⟨_, (true), (by first | rfl | (simp; done) | (simp [*]; done) | (repeat (first | rfl | (unfold wrap64; omega) | congr 1))), H', ⟨by have := HK1.out; have := HJ6.out; first | omega | exact Nat.le_refl _⟩, ⟨by (with_reducible repeat (first | apply Kd.R_alloc | apply Kd.R_drewN | apply Kd.R_drew)); exact HO_3.out⟩, ⟨by (with_reducible repeat (first | refine blk_drewN ?_ _ | refine blk_drew ?_ | refine blk_alloc ?_ _)); exact BK181.out⟩, ⟨by repeat (first | (with_reducible first | exact HB.out | apply below_alloc | apply pw_below_drewN | apply below_drew1 | refine below_set ?_ GE181.out) | exact HB.out)⟩⟩
                          · replace c32 := Bool.eq_false_iff.mpr c32
                            subst c32
                            have H1 : (vouchlaw13_FieldsTile.j2 kj6 a0 t173 t174 x7_1 x8_1 t182 true ((rd_T28 t173 x8_1).f0) ((rd_T28 t173 x8_1).f1) ((rd_T28 t173 x8_1).f2) ((rd_T28 t173 x8_1).f3)) = some r := by rw [if_neg (show ¬ (false = true) by decide)] at H; exact H
                            clear H
                            have H := H1
                            clear H1
                            have H' := Aside0.mk H
                            clear H
                            go_wp2
                            go_meet
                            case rel => exact ⟨_, (true), (by first | rfl | (simp; done) | (simp [*]; done) | (repeat (first | rfl | (unfold wrap64; omega) | congr 1))), H', ⟨by have := HK1.out; have := HJ6.out; first | omega | exact Nat.le_refl _⟩, ⟨by (with_reducible repeat (first | apply Kd.R_alloc | apply Kd.R_drewN | apply Kd.R_drew)); exact HO_3.out⟩, ⟨by (with_reducible repeat (first | refine blk_drewN ?_ _ | refine blk_drew ?_ | refine blk_alloc ?_ _)); exact BK181.out⟩, ⟨by repeat (first | (with_reducible first | exact HB.out | apply below_alloc | apply pw_below_drewN | apply below_drew1 | refine below_set ?_ GE181.out) | exact HB.out)⟩⟩
                        case rest =>
                          clear HC29
                          try clear c1
                          try clear p1
                          try clear q1
                          try clear hx1
                          try clear c2
                          try clear p2
                          try clear q2
                          try clear hx2
                          try clear c3
                          try clear c3b0
                          try clear c3b1
                          try clear p3
                          try clear q3
                          try clear hx3
                          try clear c4
                          try clear c5
                          try clear c5b0
                          try clear c6
                          try clear c6b0
                          try clear p6
                          try clear c11
                          try clear c11b0
                          try clear c11b1
                          try clear c12
                          try clear c12b0
                          try clear c14
                          try clear c14b0
                          try clear c15
                          try clear c16
                          try clear c16b0
                          try clear p18
                          try clear q18
                          try clear hx18
                          try clear c19
                          try clear c19b0
                          try clear c20
                          try clear c20b0
                          try clear p21
                          try clear q21
                          try clear hx21
                          try clear c24
                          try clear c25
                          try clear c25b0
                          try clear c25b1
                          try clear c26
                          try clear c26b0
                          try clear c26b1
                          try clear c27
                          try clear c27b0
                          try clear c27b1
                          try clear c32
                          try clear c33
                          try clear c33b0
                          try clear c33b1
                          try clear c34
                          try clear c34b0
                          try clear c36
                          try clear c36b0
                          try clear c37
                          try clear c37b0
                          try clear p38
                          try clear q38
                          try clear hx38
                          try clear hcz10_0
                          try clear hcz10_1
                          try clear hcz10_2
                          try clear hcz10_3
                          try clear hcz13_0
                          try clear hcz13_1
                          try clear hcz13_2
                          try clear hcz13_3
                          try clear hcz15_0
                          try clear hcz15_1
                          try clear hcz15_2
                          try clear hcz15_3
                          try clear hcz17_0
                          try clear hcz17_1
                          try clear hcz17_2
                          try clear hcz17_3
                          try clear hcz22_0
                          try clear hcz22_1
                          try clear hcz22_2
                          try clear hcz22_3
                          try clear hcz23_0
                          try clear hcz23_1
                          try clear hcz23_2
                          try clear hcz23_3
                          try clear hcz30_0
                          try clear hcz30_1
                          try clear hcz30_2
                          try clear hcz30_3
                          try clear hcz39_0
                          try clear hcz39_1
                          try clear hcz39_2
                          try clear hcz39_3
                          try clear hcz40_0
                          try clear hcz40_1
                          try clear hcz40_2
                          try clear hcz40_3
                          try clear hcz41_0
                          try clear hcz41_1
                          try clear hcz41_2
                          try clear hcz41_3
                          try clear hfz10_0
                          try clear hfz10_1
                          try clear hfz10_2
                          try clear hfz10_3
                          try clear hfz13_0
                          try clear hfz13_1
                          try clear hfz13_2
                          try clear hfz13_3
                          try clear hfz15_0
                          try clear hfz15_1
                          try clear hfz15_2
                          try clear hfz15_3
                          try clear hfz17_0
                          try clear hfz17_1
                          try clear hfz17_2
                          try clear hfz17_3
                          try clear hfz22_0
                          try clear hfz22_1
                          try clear hfz22_2
                          try clear hfz22_3
                          try clear hfz23_0
                          try clear hfz23_1
                          try clear hfz23_2
                          try clear hfz23_3
                          try clear hfz30_0
                          try clear hfz30_1
                          try clear hfz30_2
                          try clear hfz30_3
                          try clear hfz39_0
                          try clear hfz39_1
                          try clear hfz39_2
                          try clear hfz39_3
                          try clear hfz40_0
                          try clear hfz40_1
                          try clear hfz40_2
                          try clear hfz40_3
                          try clear hfz41_0
                          try clear hfz41_1
                          try clear hfz41_2
                          try clear hfz41_3
                          try clear hx180_0
                          try clear hx180_1
                          try clear hx180_2
                          try clear hx180_3
                          try clear p1
                          try clear p18
                          try clear p180
                          try clear p2
                          try clear p21
                          try clear p38
                          try clear p6
                          try clear q1
                          try clear q18
                          try clear q180
                          try clear q2
                          try clear q21
                          try clear q38
                          obtain ⟨kq, x110_28, rfl, HA, HJ28, HO_3, BK181, HB⟩ := hcut
                          cases kq with
                          | zero => exact absurd HA.out (by simp [vouchlaw13_FieldsTile.j2])
                          | succ kj28 =>
                            have H := HA.out
                            clear HA
                            simp only [vouchlaw13_FieldsTile.j2] at H
                            by_cases c42 : x110_28 = true
                            · subst c42
                              have H1 : (some false) = some r := by rw [if_pos rfl] at H; exact H
                              clear H
                              have H := H1
                              clear H1
                              obtain rfl := Option.some.inj H
                              go_wp2
                              go_ret
                              exact ⟨by first | rfl | (simp [errW_none, errW_some] <;> rfl) | (simp [*, errW_none, errW_some] <;> rfl), by repeat (first | (with_reducible first | exact HB.out | apply below_alloc | apply pw_below_drewN | apply below_drew1 | refine below_set ?_ GE181.out) | exact HB.out)⟩
                            · replace c42 := Bool.eq_false_iff.mpr c42
                              subst c42
                              have H1 : (vouchlaw13_FieldsTile.l1 kj28 a0 t173 t174 x7_1 x8_1 t182 0 ((rd_T28 t173 x8_1).f0) ((rd_T28 t173 x8_1).f1) ((rd_T28 t173 x8_1).f2) ((rd_T28 t173 x8_1).f3)) = some r := by rw [if_neg (show ¬ (false = true) by decide)] at H; exact H
                              clear H
                              have H := H1
                              clear H1
                              have H' := Aside0.mk H
                              clear H
                              go_wp2
                              go_loopg [12] kj28 (fun kq v12 w' => ∃ (x12_4 : Int), v12 = .int .i64 x12_4 ∧ Aside0 (vouchlaw13_FieldsTile.l1 kq a0 t173 t174 x7_1 x8_1 t182 x12_4 ((rd_T28 t173 x8_1).f0) ((rd_T28 t173 x8_1).f1) ((rd_T28 t173 x8_1).f2) ((rd_T28 t173 x8_1).f3) = some r) ∧ Aside0 (kq ≤ kj28) ∧ Aside0 (Kd.R k28 28 w' w.heap.size (fun k_ => k_ ≠ gb181) (.slice (some ad180) t173.length co8) t173) ∧ Aside0 (w'.heap[gb181]? = some (.cells #[.int .u8 ((rd_T28 t173 x8_1).f0), .int .i64 ((rd_T28 t173 x8_1).f1), .int .i64 ((rd_T28 t173 x8_1).f2), .int .i64 ((rd_T28 t173 x8_1).f3)] 28 (0, 0))) ∧ Aside0 (Below w.heap.size w w'))
                              case atStart => exact ⟨(0), (by first | rfl | (simp; done) | (simp [*]; done) | (repeat (first | rfl | (unfold wrap64; omega) | congr 1))), H', ⟨Nat.le_refl _⟩, ⟨by (with_reducible repeat (first | apply Kd.R_alloc | apply Kd.R_drewN | apply Kd.R_drew)); exact HO_3.out⟩, ⟨by (with_reducible repeat (first | refine blk_drewN ?_ _ | refine blk_drew ?_ | refine blk_alloc ?_ _)); exact BK181.out⟩, ⟨by repeat (first | (with_reducible first | exact HB.out | apply below_alloc | apply pw_below_drewN | apply below_drew1 | refine below_set ?_ GE181.out) | exact HB.out)⟩⟩
                              case round =>
                                clear H'
                                try clear c1
                                try clear p1
                                try clear q1
                                try clear hx1
                                try clear c2
                                try clear p2
                                try clear q2
                                try clear hx2
                                try clear c3
                                try clear c3b0
                                try clear c3b1
                                try clear p3
                                try clear q3
                                try clear hx3
                                try clear c4
                                try clear c5
                                try clear c5b0
                                try clear c6
                                try clear c6b0
                                try clear p6
                                try clear c11
                                try clear c11b0
                                try clear c11b1
                                try clear c12
                                try clear c12b0
                                try clear c14
                                try clear c14b0
                                try clear c15
                                try clear c16
                                try clear c16b0
                                try clear p18
                                try clear q18
                                try clear hx18
                                try clear c19
                                try clear c19b0
                                try clear c20
                                try clear c20b0
                                try clear p21
                                try clear q21
                                try clear hx21
                                try clear c24
                                try clear c25
                                try clear c25b0
                                try clear c25b1
                                try clear c26
                                try clear c26b0
                                try clear c26b1
                                try clear c27
                                try clear c27b0
                                try clear c27b1
                                try clear c32
                                try clear c33
                                try clear c33b0
                                try clear c33b1
                                try clear c34
                                try clear c34b0
                                try clear c36
                                try clear c36b0
                                try clear c37
                                try clear c37b0
                                try clear p38
                                try clear q38
                                try clear hx38
                                try clear c42
                                try clear hcz10_0
                                try clear hcz10_1
                                try clear hcz10_2
                                try clear hcz10_3
                                try clear hcz13_0
                                try clear hcz13_1
                                try clear hcz13_2
                                try clear hcz13_3
                                try clear hcz15_0
                                try clear hcz15_1
                                try clear hcz15_2
                                try clear hcz15_3
                                try clear hcz17_0
                                try clear hcz17_1
                                try clear hcz17_2
                                try clear hcz17_3
                                try clear hcz22_0
                                try clear hcz22_1
                                try clear hcz22_2
                                try clear hcz22_3
                                try clear hcz23_0
                                try clear hcz23_1
                                try clear hcz23_2
                                try clear hcz23_3
                                try clear hcz30_0
                                try clear hcz30_1
                                try clear hcz30_2
                                try clear hcz30_3
                                try clear hcz39_0
                                try clear hcz39_1
                                try clear hcz39_2
                                try clear hcz39_3
                                try clear hcz40_0
                                try clear hcz40_1
                                try clear hcz40_2
                                try clear hcz40_3
                                try clear hcz41_0
                                try clear hcz41_1
                                try clear hcz41_2
                                try clear hcz41_3
                                try clear hfz10_0
                                try clear hfz10_1
                                try clear hfz10_2
                                try clear hfz10_3
                                try clear hfz13_0
                                try clear hfz13_1
                                try clear hfz13_2
                                try clear hfz13_3
                                try clear hfz15_0
                                try clear hfz15_1
                                try clear hfz15_2
                                try clear hfz15_3
                                try clear hfz17_0
                                try clear hfz17_1
                                try clear hfz17_2
                                try clear hfz17_3
                                try clear hfz22_0
                                try clear hfz22_1
                                try clear hfz22_2
                                try clear hfz22_3
                                try clear hfz23_0
                                try clear hfz23_1
                                try clear hfz23_2
                                try clear hfz23_3
                                try clear hfz30_0
                                try clear hfz30_1
                                try clear hfz30_2
                                try clear hfz30_3
                                try clear hfz39_0
                                try clear hfz39_1
                                try clear hfz39_2
                                try clear hfz39_3
                                try clear hfz40_0
                                try clear hfz40_1
                                try clear hfz40_2
                                try clear hfz40_3
                                try clear hfz41_0
                                try clear hfz41_1
                                try clear hfz41_2
                                try clear hfz41_3
                                try clear hx180_0
                                try clear hx180_1
                                try clear hx180_2
                                try clear hx180_3
                                try clear p1
                                try clear p18
                                try clear p180
                                try clear p2
                                try clear p21
                                try clear p3
                                try clear p38
                                try clear p6
                                try clear q1
                                try clear q18
                                try clear q180
                                try clear q2
                                try clear q21
                                try clear q3
                                try clear q38
                                obtain ⟨x12_4, rfl, HA, HK4, HO_3, BK181, HB⟩ := hrel
                                cases gk with
                                | zero => exact absurd HA.out (by simp [vouchlaw13_FieldsTile.l1])
                                | succ k4 =>
                                  have H := HA.out
                                  clear HA
                                  simp only [vouchlaw13_FieldsTile.l1] at H
                                  by_cases c43 : x12_4 < x8_1
                                  · rw [if_pos c43] at H
                                    have c43b0 : decide (x12_4 < x8_1) = true := decide_eq_true c43
                                    clear c43
                                    by_cases c44 : 0 ≤ x12_4
                                    · rw [if_pos c44] at H
                                      have c44b0 : decide (0 ≤ x12_4) = true := decide_eq_true c44
                                      clear c44
                                      by_cases c45 : x12_4 < (t173.length : Int)
                                      · rw [if_pos c45] at H
                                        have c45b0 : decide (x12_4 < (t173.length : Int)) = true := decide_eq_true c45
                                        clear c45
                                        by_cases c46 : ((rd_T28 t173 x12_4).f0) = t182
                                        · rw [if_pos c46] at H
                                          have c46b0 : (((rd_T28 t173 x12_4).f0) == t182) = true := beq_iff_eq.mpr c46
                                          have c46b1 : (((rd_T28 t173 x12_4).f0) != t182) = false := bne_eq_false_iff_eq.mpr c46
                                          clear c46
                                          obtain rfl := Option.some.inj H
                                          have p184 : 0 ≤ (x12_4 : Int) := of_decide_eq_true (by first | (with_reducible assumption) | assumption)
                                          have q184 : x12_4 < (t173.length : Int) := of_decide_eq_true (by first | (with_reducible assumption) | assumption)
                                          obtain ⟨ad184, e184, hx184_0, hx184_1, hx184_2, hx184_3⟩ := at_T28 (Kd.R_reads' HO_3.out).2.2 x12_4 p184 q184
                                          obtain rfl : ad180 = ad184 := (by injection e184)
                                          replace p184 := eq_true p184
                                          replace q184 := eq_true q184
                                          go_wp2
                                          go_ret
                                          exact ⟨by first | rfl | (simp [errW_none, errW_some] <;> rfl) | (simp [*, errW_none, errW_some] <;> rfl), by repeat (first | (with_reducible first | exact HB.out | apply below_alloc | apply pw_below_drewN | apply below_drew1 | refine below_set ?_ GE181.out) | exact HB.out)⟩
                                        · rw [if_neg c46] at H
                                          have c46b0 : (((rd_T28 t173 x12_4).f0) == t182) = false := beq_eq_false_iff_ne.mpr c46
                                          have c46b1 : (((rd_T28 t173 x12_4).f0) != t182) = true := bne_iff_ne.mpr c46
                                          by_cases c47 : ((rd_T28 t173 x12_4).f0) = 7
                                          · rw [if_pos c47] at H
                                            have c47b0 : (((rd_T28 t173 x12_4).f0) == 7) = true := beq_iff_eq.mpr c47
                                            have c47b1 : (((rd_T28 t173 x12_4).f0) != 7) = false := bne_eq_false_iff_eq.mpr c47
                                            clear c47
                                            obtain rfl := Option.some.inj H
                                            have p184 : 0 ≤ (x12_4 : Int) := of_decide_eq_true (by first | (with_reducible assumption) | assumption)
                                            have q184 : x12_4 < (t173.length : Int) := of_decide_eq_true (by first | (with_reducible assumption) | assumption)
                                            obtain ⟨ad184, e184, hx184_0, hx184_1, hx184_2, hx184_3⟩ := at_T28 (Kd.R_reads' HO_3.out).2.2 x12_4 p184 q184
                                            obtain rfl : ad180 = ad184 := (by injection e184)
                                            replace p184 := eq_true p184
                                            replace q184 := eq_true q184
                                            have p185 : 0 ≤ (x12_4 : Int) := of_decide_eq_true (by first | (with_reducible assumption) | assumption)
                                            have q185 : x12_4 < (t173.length : Int) := of_decide_eq_true (by first | (with_reducible assumption) | assumption)
                                            obtain ⟨ad185, e185, hx185_0, hx185_1, hx185_2, hx185_3⟩ := at_T28 (Kd.R_reads' HO_3.out).2.2 x12_4 p185 q185
                                            obtain rfl : ad180 = ad185 := (by injection e185)
                                            replace p185 := eq_true p185
                                            replace q185 := eq_true q185
                                            go_wp2
                                            go_ret
                                            exact ⟨by first | rfl | (simp [errW_none, errW_some] <;> rfl) | (simp [*, errW_none, errW_some] <;> rfl), by repeat (first | (with_reducible first | exact HB.out | apply below_alloc | apply pw_below_drewN | apply below_drew1 | refine below_set ?_ GE181.out) | exact HB.out)⟩
                                          · rw [if_neg c47] at H
                                            have c47b0 : (((rd_T28 t173 x12_4).f0) == 7) = false := beq_eq_false_iff_ne.mpr c47
                                            have c47b1 : (((rd_T28 t173 x12_4).f0) != 7) = true := bne_iff_ne.mpr c47
                                            have H' := Aside0.mk H
                                            clear H
                                            have p184 : 0 ≤ (x12_4 : Int) := of_decide_eq_true (by first | (with_reducible assumption) | assumption)
                                            have q184 : x12_4 < (t173.length : Int) := of_decide_eq_true (by first | (with_reducible assumption) | assumption)
                                            obtain ⟨ad184, e184, hx184_0, hx184_1, hx184_2, hx184_3⟩ := at_T28 (Kd.R_reads' HO_3.out).2.2 x12_4 p184 q184
                                            obtain rfl : ad180 = ad184 := (by injection e184)
                                            replace p184 := eq_true p184
                                            replace q184 := eq_true q184
                                            have p185 : 0 ≤ (x12_4 : Int) := of_decide_eq_true (by first | (with_reducible assumption) | assumption)
                                            have q185 : x12_4 < (t173.length : Int) := of_decide_eq_true (by first | (with_reducible assumption) | assumption)
                                            obtain ⟨ad185, e185, hx185_0, hx185_1, hx185_2, hx185_3⟩ := at_T28 (Kd.R_reads' HO_3.out).2.2 x12_4 p185 q185
                                            obtain rfl : ad180 = ad185 := (by injection e185)
                                            replace p185 := eq_true p185
                                            replace q185 := eq_true q185
                                            go_wp2
                                            go_roundg k4
                                            case measure => have := HK1.out; have := HJ6.out; have := HJ28.out; have := HK4.out; omega
                                            case rel => exact ⟨(wrap64 (x12_4 + 1)), (by first | rfl | (simp; done) | (simp [*]; done) | (repeat (first | rfl | (unfold wrap64; omega) | congr 1))), H', ⟨by have := HK1.out; have := HJ6.out; have := HJ28.out; have := HK4.out; omega⟩, ⟨by (with_reducible repeat (first | apply Kd.R_alloc | apply Kd.R_drewN | apply Kd.R_drew)); exact HO_3.out⟩, ⟨by (with_reducible repeat (first | refine blk_drewN ?_ _ | refine blk_drew ?_ | refine blk_alloc ?_ _)); exact BK181.out⟩, ⟨by repeat (first | (with_reducible first | exact HB.out | apply below_alloc | apply pw_below_drewN | apply below_drew1 | refine below_set ?_ GE181.out) | exact HB.out)⟩⟩
                                      · rw [if_neg c45] at H
                                        exact absurd H (by simp)
                                    · rw [if_neg c44] at H
                                      exact absurd H (by simp)
                                  · rw [if_neg c43] at H
                                    have c43b0 : decide (x12_4 < x8_1) = false := decide_eq_false c43
                                    clear c43
                                    by_cases c48 : x7_1 = true
                                    · subst c48
                                      have H1 : (vouchlaw13_FieldsTile.l0 k4 a0 t173 t174 ((rd_T28 t173 x8_1).f3) true (wrap64 (x8_1 + 1))) = some r := by rw [if_pos rfl] at H; exact H
                                      clear H
                                      have H := H1
                                      clear H1
                                      have H' := Aside0.mk H
                                      clear H
                                      have hcz49_0 : wr.cell? ⟨gb181, 0, none⟩ = some (.int .u8 ((rd_T28 t173 x8_1).f0)) := (blk_cell BK181.out 0).trans rfl
                                      have hcz49_1 : wr.cell? ⟨gb181, 1, none⟩ = some (.int .i64 ((rd_T28 t173 x8_1).f1)) := (blk_cell BK181.out 1).trans rfl
                                      have hcz49_2 : wr.cell? ⟨gb181, 2, none⟩ = some (.int .i64 ((rd_T28 t173 x8_1).f2)) := (blk_cell BK181.out 2).trans rfl
                                      have hcz49_3 : wr.cell? ⟨gb181, 3, none⟩ = some (.int .i64 ((rd_T28 t173 x8_1).f3)) := (blk_cell BK181.out 3).trans rfl
                                      have hfz49_0 := blk_frozen BK181.out 0
                                      have hfz49_1 := blk_frozen BK181.out 1
                                      have hfz49_2 := blk_frozen BK181.out 2
                                      have hfz49_3 := blk_frozen BK181.out 3
                                      go_wp2
                                      go_roundg k4
                                      case measure => have := HK1.out; have := HJ6.out; have := HJ28.out; have := HK4.out; omega
                                      case rel => exact ⟨(((rd_T28 t173 x8_1).f3)), (true), (wrap64 (x8_1 + 1)), (by first | rfl | (simp; done) | (simp [*]; done) | (repeat (first | rfl | (unfold wrap64; omega) | congr 1))), (by first | rfl | (simp; done) | (simp [*]; done) | (repeat (first | rfl | (unfold wrap64; omega) | congr 1))), (by first | rfl | (simp; done) | (simp [*]; done) | (repeat (first | rfl | (unfold wrap64; omega) | congr 1))), H', ⟨by have := HK1.out; have := HJ6.out; have := HJ28.out; have := HK4.out; omega⟩, ⟨by (with_reducible repeat (first | apply Kd.R_alloc | apply Kd.R_drewN | apply Kd.R_drew)); exact Kd.R_mono HO_3.out (fun _ hk => trivial)⟩, ⟨by repeat (first | (with_reducible first | exact HB.out | apply below_alloc | apply pw_below_drewN | apply below_drew1 | refine below_set ?_ GE181.out) | exact HB.out)⟩⟩
                                    · replace c48 := Bool.eq_false_iff.mpr c48
                                      subst c48
                                      have H1 : (vouchlaw13_FieldsTile.l0 k4 a0 t173 t174 ((rd_T28 t173 x8_1).f3) (t182 == 2) (wrap64 (x8_1 + 1))) = some r := by rw [if_neg (show ¬ (false = true) by decide)] at H; exact H
                                      clear H
                                      have H := H1
                                      clear H1
                                      have H' := Aside0.mk H
                                      clear H
                                      have hcz50_0 : wr.cell? ⟨gb181, 0, none⟩ = some (.int .u8 ((rd_T28 t173 x8_1).f0)) := (blk_cell BK181.out 0).trans rfl
                                      have hcz50_1 : wr.cell? ⟨gb181, 1, none⟩ = some (.int .i64 ((rd_T28 t173 x8_1).f1)) := (blk_cell BK181.out 1).trans rfl
                                      have hcz50_2 : wr.cell? ⟨gb181, 2, none⟩ = some (.int .i64 ((rd_T28 t173 x8_1).f2)) := (blk_cell BK181.out 2).trans rfl
                                      have hcz50_3 : wr.cell? ⟨gb181, 3, none⟩ = some (.int .i64 ((rd_T28 t173 x8_1).f3)) := (blk_cell BK181.out 3).trans rfl
                                      have hfz50_0 := blk_frozen BK181.out 0
                                      have hfz50_1 := blk_frozen BK181.out 1
                                      have hfz50_2 := blk_frozen BK181.out 2
                                      have hfz50_3 := blk_frozen BK181.out 3
                                      go_wp2
                                      go_roundg k4
                                      case measure => have := HK1.out; have := HJ6.out; have := HJ28.out; have := HK4.out; omega
                                      case rel => exact ⟨(((rd_T28 t173 x8_1).f3)), ((t182 == 2)), (wrap64 (x8_1 + 1)), (by first | rfl | (simp; done) | (simp [*]; done) | (repeat (first | rfl | (unfold wrap64; omega) | congr 1))), (by first | rfl | (simp; done) | (simp [*]; done) | (repeat (first | rfl | (unfold wrap64; omega) | congr 1))), (by first | rfl | (simp; done) | (simp [*]; done) | (repeat (first | rfl | (unfold wrap64; omega) | congr 1))), H', ⟨by have := HK1.out; have := HJ6.out; have := HJ28.out; have := HK4.out; omega⟩, ⟨by (with_reducible repeat (first | apply Kd.R_alloc | apply Kd.R_drewN | apply Kd.R_drew)); exact Kd.R_mono HO_3.out (fun _ hk => trivial)⟩, ⟨by repeat (first | (with_reducible first | exact HB.out | apply below_alloc | apply pw_below_drewN | apply below_drew1 | refine below_set ?_ GE181.out) | exact HB.out)⟩⟩
                      · rw [if_neg c27] at H
                        exact absurd H (by simp)
                    · rw [if_neg c26] at H
                      exact absurd H (by simp)
                  · rw [if_neg c25] at H
                    exact absurd H (by simp)
          · rw [if_neg c6] at H
            exact absurd H (by simp)
        · rw [if_neg c5] at H
          have c5b0 : decide (x8_1 < (t173.length : Int)) = false := decide_eq_false c5
          clear c5
          by_cases c51 : t174 = 0
          · rw [if_pos c51] at H
            have c51b0 : (t174 == 0) = true := beq_iff_eq.mpr c51
            have c51b1 : (t174 != 0) = false := bne_eq_false_iff_eq.mpr c51
            clear c51
            by_cases c52 : x7_1 = true
            · subst c52
              have H1 : (if x6_1 = (a0.size : Int) then ((vouchlaw13_works.f).bind fun t179 => (some t179)) else (some false)) = some r := by rw [if_pos rfl] at H; exact H
              clear H
              have H := H1
              clear H1
              by_cases c53 : x6_1 = (a0.size : Int)
              · rw [if_pos c53] at H
                have c53b0 : (x6_1 == (a0.size : Int)) = true := beq_iff_eq.mpr c53
                have c53b1 : (x6_1 != (a0.size : Int)) = false := bne_eq_false_iff_eq.mpr c53
                clear c53
                replace H := Option.bind_eq_some_iff.mp H
                obtain ⟨t179, A540, H⟩ := H
                replace H : (some t179) = some r := H
                have A54 := Aside0.mk A540
                clear A540
                obtain rfl := Option.some.inj H
                obtain ⟨Ao55, co55, eo55⟩ := Kd.R_slice HO_3.out
                subst eo55
                go_wp2_with (first | (go_at_call 14; (with_reducible refine (vouchlaw13_works.calls  t179 _ A54.out).mono ?_); rintro e w56 ⟨rfl, hb⟩; have n0_ := Aside0.mk (Kd.R_below (by (with_reducible repeat (first | apply Kd.R_alloc | apply Kd.R_drewN | apply Kd.R_drew)); exact HO_3.out) hb); have n1_ := Aside0.mk (below_step (by repeat (first | (with_reducible first | exact HB.out | apply below_alloc | apply pw_below_drewN | apply below_drew1) | exact HB.out)) hb); clear HO_3; clear HB; have HO_3 := n0_; have HB := n1_; clear n0_ n1_; (try clear hb); (try clear hb2); (try clear hk); (try clear hi)))
                go_ret
                exact ⟨by first | rfl | (simp [errW_none, errW_some] <;> rfl) | (simp [*, errW_none, errW_some] <;> rfl), by repeat (first | (with_reducible first | exact HB.out | apply below_alloc | apply pw_below_drewN | apply below_drew1) | exact HB.out)⟩
              · rw [if_neg c53] at H
                have c53b0 : (x6_1 == (a0.size : Int)) = false := beq_eq_false_iff_ne.mpr c53
                have c53b1 : (x6_1 != (a0.size : Int)) = true := bne_iff_ne.mpr c53
                obtain rfl := Option.some.inj H
                obtain ⟨Ao57, co57, eo57⟩ := Kd.R_slice HO_3.out
                subst eo57
                go_wp2
                go_ret
                exact ⟨by first | rfl | (simp [errW_none, errW_some] <;> rfl) | (simp [*, errW_none, errW_some] <;> rfl), by repeat (first | (with_reducible first | exact HB.out | apply below_alloc | apply pw_below_drewN | apply below_drew1) | exact HB.out)⟩
            · replace c52 := Bool.eq_false_iff.mpr c52
              subst c52
              have H1 : (some false) = some r := by rw [if_neg (show ¬ (false = true) by decide)] at H; exact H
              clear H
              have H := H1
              clear H1
              obtain rfl := Option.some.inj H
              obtain ⟨Ao58, co58, eo58⟩ := Kd.R_slice HO_3.out
              subst eo58
              go_wp2
              go_ret
              exact ⟨by first | rfl | (simp [errW_none, errW_some] <;> rfl) | (simp [*, errW_none, errW_some] <;> rfl), by repeat (first | (with_reducible first | exact HB.out | apply below_alloc | apply pw_below_drewN | apply below_drew1) | exact HB.out)⟩
          · rw [if_neg c51] at H
            have c51b0 : (t174 == 0) = false := beq_eq_false_iff_ne.mpr c51
            have c51b1 : (t174 != 0) = true := bne_iff_ne.mpr c51
            obtain rfl := Option.some.inj H
            obtain ⟨Ao59, co59, eo59⟩ := Kd.R_slice HO_3.out
            subst eo59
            go_wp2
            go_ret
            exact ⟨by first | rfl | (simp [errW_none, errW_some] <;> rfl) | (simp [*, errW_none, errW_some] <;> rfl), by repeat (first | (with_reducible first | exact HB.out | apply below_alloc | apply pw_below_drewN | apply below_drew1) | exact HB.out)⟩
  · rw [if_neg c3] at H
    have c3b0 : (t175 == 0) = false := beq_eq_false_iff_ne.mpr c3
    have c3b1 : (t175 != 0) = true := bne_iff_ne.mpr c3
    by_cases c60 : (t173.length : Int) = 0
    · rw [if_pos c60] at H
      have c60b0 : ((t173.length : Int) == 0) = true := beq_iff_eq.mpr c60
      have c60b1 : ((t173.length : Int) != 0) = false := bne_eq_false_iff_eq.mpr c60
      clear c60
      by_cases c61 : t174 ≥ 0
      · rw [if_pos c61] at H
        have c61b0 : decide (0 ≤ t174) = true := decide_eq_true c61
        clear c61
        by_cases c62 : t174 ≤ (a0.size : Int)
        · rw [if_pos c62] at H
          have c62b0 : decide (t174 ≤ (a0.size : Int)) = true := decide_eq_true c62
          clear c62
          replace H := Option.bind_eq_some_iff.mp H
          obtain ⟨t178, A630, H⟩ := H
          replace H : (some t178) = some r := H
          have A63 := Aside0.mk A630
          clear A630
          obtain rfl := Option.some.inj H
          go_enter Try.func4, Try.ntmps4
          go_wp2_with (first | ((with_reducible refine gate_callee (f := 12) rfl ?_); refine goesL_ (some 15) rfl rfl Try.func12 (by kernel_rfl) rfl #[.string a0] rfl (by (try simp only [List.map_toArray, List.map_cons, List.map_nil]); first | done | rfl | (simp only [List.length_drop, List.length_take]; rfl)) ?_; (with_reducible refine (fields_Split.calls a0 t173 t174 t175 _ A2.out).mono ?_); rintro e w64 ⟨v176, rfl, ho0, hb⟩; refine ⟨_, rfl, ?_⟩; have n0_ := Aside0.mk (Kd.R_lower ho0 (below_size (by repeat (first | (with_reducible first | exact HB.out | apply below_alloc | apply pw_below_drewN | apply below_drew1) | exact HB.out)))); have n1_ := Aside0.mk (below_step (by repeat (first | (with_reducible first | exact HB.out | apply below_alloc | apply pw_below_drewN | apply below_drew1) | exact HB.out)) hb); clear HB; have HO177 := n0_; have HB := n1_; clear n0_ n1_; (try clear hb); (try clear hb2); (try clear hk); (try clear hi); (try clear ho0); obtain ⟨Ao65, co65, eo65⟩ := Kd.R_slice HO177.out; subst eo65) | (go_at_call 14; (with_reducible refine (vouchlaw13_works.calls  t178 _ A63.out).mono ?_); rintro e w66 ⟨rfl, hb⟩; have n0_ := Aside0.mk (Kd.R_below (by (with_reducible repeat (first | apply Kd.R_alloc | apply Kd.R_drewN | apply Kd.R_drew)); exact HO177.out) hb); have n1_ := Aside0.mk (below_step (by repeat (first | (with_reducible first | exact HB.out | apply below_alloc | apply pw_below_drewN | apply below_drew1) | exact HB.out)) hb); clear HO177; clear HB; have HO177 := n0_; have HB := n1_; clear n0_ n1_; (try clear hb); (try clear hb2); (try clear hk); (try clear hi)))
          go_ret
          exact ⟨by first | rfl | (simp [errW_none, errW_some] <;> rfl) | (simp [*, errW_none, errW_some] <;> rfl), by repeat (first | (with_reducible first | exact HB.out | apply below_alloc | apply pw_below_drewN | apply below_drew1) | exact HB.out)⟩
        · rw [if_neg c62] at H
          have c62b0 : decide (t174 ≤ (a0.size : Int)) = false := decide_eq_false c62
          clear c62
          obtain rfl := Option.some.inj H
          go_enter Try.func4, Try.ntmps4
          go_wp2_with (first | ((with_reducible refine gate_callee (f := 12) rfl ?_); refine goesL_ (some 15) rfl rfl Try.func12 (by kernel_rfl) rfl #[.string a0] rfl (by (try simp only [List.map_toArray, List.map_cons, List.map_nil]); first | done | rfl | (simp only [List.length_drop, List.length_take]; rfl)) ?_; (with_reducible refine (fields_Split.calls a0 t173 t174 t175 _ A2.out).mono ?_); rintro e w67 ⟨v176, rfl, ho0, hb⟩; refine ⟨_, rfl, ?_⟩; have n0_ := Aside0.mk (Kd.R_lower ho0 (below_size (by repeat (first | (with_reducible first | exact HB.out | apply below_alloc | apply pw_below_drewN | apply below_drew1) | exact HB.out)))); have n1_ := Aside0.mk (below_step (by repeat (first | (with_reducible first | exact HB.out | apply below_alloc | apply pw_below_drewN | apply below_drew1) | exact HB.out)) hb); clear HB; have HO177 := n0_; have HB := n1_; clear n0_ n1_; (try clear hb); (try clear hb2); (try clear hk); (try clear hi); (try clear ho0); obtain ⟨Ao68, co68, eo68⟩ := Kd.R_slice HO177.out; subst eo68))
          go_ret
          exact ⟨by first | rfl | (simp [errW_none, errW_some] <;> rfl) | (simp [*, errW_none, errW_some] <;> rfl), by repeat (first | (with_reducible first | exact HB.out | apply below_alloc | apply pw_below_drewN | apply below_drew1) | exact HB.out)⟩
      · rw [if_neg c61] at H
        have c61b0 : decide (0 ≤ t174) = false := decide_eq_false c61
        clear c61
        obtain rfl := Option.some.inj H
        go_enter Try.func4, Try.ntmps4
        go_wp2_with (first | ((with_reducible refine gate_callee (f := 12) rfl ?_); refine goesL_ (some 15) rfl rfl Try.func12 (by kernel_rfl) rfl #[.string a0] rfl (by (try simp only [List.map_toArray, List.map_cons, List.map_nil]); first | done | rfl | (simp only [List.length_drop, List.length_take]; rfl)) ?_; (with_reducible refine (fields_Split.calls a0 t173 t174 t175 _ A2.out).mono ?_); rintro e w69 ⟨v176, rfl, ho0, hb⟩; refine ⟨_, rfl, ?_⟩; have n0_ := Aside0.mk (Kd.R_lower ho0 (below_size (by repeat (first | (with_reducible first | exact HB.out | apply below_alloc | apply pw_below_drewN | apply below_drew1) | exact HB.out)))); have n1_ := Aside0.mk (below_step (by repeat (first | (with_reducible first | exact HB.out | apply below_alloc | apply pw_below_drewN | apply below_drew1) | exact HB.out)) hb); clear HB; have HO177 := n0_; have HB := n1_; clear n0_ n1_; (try clear hb); (try clear hb2); (try clear hk); (try clear hi); (try clear ho0); obtain ⟨Ao70, co70, eo70⟩ := Kd.R_slice HO177.out; subst eo70))
        go_ret
        exact ⟨by first | rfl | (simp [errW_none, errW_some] <;> rfl) | (simp [*, errW_none, errW_some] <;> rfl), by repeat (first | (with_reducible first | exact HB.out | apply below_alloc | apply pw_below_drewN | apply below_drew1) | exact HB.out)⟩
    · rw [if_neg c60] at H
      have c60b0 : ((t173.length : Int) == 0) = false := beq_eq_false_iff_ne.mpr c60
      have c60b1 : ((t173.length : Int) != 0) = true := bne_iff_ne.mpr c60
      have c60b2 : ¬ (t173 = []) := fun h_ => c60 (by rw [h_]; rfl)
      obtain rfl := Option.some.inj H
      go_enter Try.func4, Try.ntmps4
      go_wp2_with (first | ((with_reducible refine gate_callee (f := 12) rfl ?_); refine goesL_ (some 15) rfl rfl Try.func12 (by kernel_rfl) rfl #[.string a0] rfl (by (try simp only [List.map_toArray, List.map_cons, List.map_nil]); first | done | rfl | (simp only [List.length_drop, List.length_take]; rfl)) ?_; (with_reducible refine (fields_Split.calls a0 t173 t174 t175 _ A2.out).mono ?_); rintro e w71 ⟨v176, rfl, ho0, hb⟩; refine ⟨_, rfl, ?_⟩; have n0_ := Aside0.mk (Kd.R_lower ho0 (below_size (by repeat (first | (with_reducible first | exact HB.out | apply below_alloc | apply pw_below_drewN | apply below_drew1) | exact HB.out)))); have n1_ := Aside0.mk (below_step (by repeat (first | (with_reducible first | exact HB.out | apply below_alloc | apply pw_below_drewN | apply below_drew1) | exact HB.out)) hb); clear HB; have HO177 := n0_; have HB := n1_; clear n0_ n1_; (try clear hb); (try clear hb2); (try clear hk); (try clear hi); (try clear ho0); obtain ⟨Ao72, co72, eo72⟩ := Kd.R_slice HO177.out; subst eo72))
      go_ret
      exact ⟨by first | rfl | (simp [errW_none, errW_some] <;> rfl) | (simp [*, errW_none, errW_some] <;> rfl), by repeat (first | (with_reducible first | exact HB.out | apply below_alloc | apply pw_below_drewN | apply below_drew1) | exact HB.out)⟩

/-- THE ONE PURE STATEMENT of vouchlaw13_FieldsTile: yours. -/
def vouchlaw13_FieldsTile.Pure : Prop := ∀ (a0 : ByteArray), a0.size ≤ 140737488351232 → ∃ k, vouchlaw13_FieldsTile.f k a0 = some true
theorem vouchlaw13_FieldsTile.walk (P : vouchlaw13_FieldsTile.Pure) (a0 : ByteArray) (w : World) (w0 : a0.size ≤ 140737488351232) :
    Calls Try.prog 4 #[.string a0] w fun e w' => e = .returned (.bool true) ∧ Below w.heap.size w w' := by
  obtain ⟨k, h⟩ := P a0 w0
  refine (vouchlaw13_FieldsTile.calls k a0 true w h).mono ?_
  rintro e w' ⟨rfl, hd⟩
  exact ⟨rfl, hd⟩

end Go.Proofs.Ytiienmifjebdlaa.Q
