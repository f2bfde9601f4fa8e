/- The contract of the reference's Check, at every tree of at most 10000 parts. The contract of Check, at every tree of at most 10000 parts. The contract of the closure that renames. The contract of Renamed. The contracts of Size and few. The contract of Same at one tree. -/
import Derived.Test.YtjapfefiaijfcaaGreatDoorQx0
import Derived.Test.YtjapfefiaijfcaaGreatDoorU3
import Derived.Test.YtjapfefiaijfcaaGreatDoorT0
import Derived.Deep.CutRange
import Derived.Deep.CutBlock
import Derived.Test.YtjapfefiaijfcaaGreatDoorQx1
import Derived.Laws.MakeOwn
import Derived.Test.YtjapfefiaijfcaaGreatDoorQx4
import Derived.Test.YtjapfefiaijfcaaGreatDoorQx18
namespace Go.Proofs.YtjapfefiaijfcaaGreatDoor.Q
open Go.RowKit Go.Proofs.YtjapfefiaijfcaaGreatDoorW.PrintWords Go.Proofs.YtjapfefiaijfcaaGreatDoorW.PrintLast Go.Proofs.YtjapfefiaijfcaaGreatDoorW.PrintMore
set_option linter.unusedVariables false
set_option maxHeartbeats 8000000 in
set_option maxRecDepth 100000 in
theorem vouchref16_Check.calls (N : Nat) : ∀ (x : S24) (A : Option Addr) (c : Nat) (w : World), szT x < N → N ≤ 10000 → x.f3.length ≤ c → Kd.C k24 w A x.f3.length x.f3 →
    Calls Tryz.prog 18 #[.agg #[.int .u8 x.f0, .string x.f1, .int .i64 x.f2, .slice A x.f3.length c]] w fun e w' => e = .returned (.int .i64 (errT x)) ∧ Below w.heap.size w w' := by
  induction N with
  | zero => exact fun x A c w h => absurd h (Nat.not_lt_zero _)
  | succ N ih =>
    intro x A c w hN hN2 hc hC
    have hlen := szT_len x
    have HC := Aside0.mk hC
    have IH := Aside0.mk ih
    have hb : ∀ o : Obj, Below w.heap.size w (w.alloc o) := fun o => (Below.refl _ _).alloc (Nat.le_refl _) o
    have HB := Aside0.mk hb
    have HN := Aside0.mk hN
    clear ih hC hb hN
    go_enter Tryz.func18, Tryz.ntmps18
    go_upto_block 0 with (fail)
    go_cut [3] (fun s wc => s = .bool (headT x.f0 x.f1 x.f2 x.f3.length) ∧ wc = w.alloc (.cells #[.int .u8 x.f0, .string x.f1, .int .i64 x.f2, .slice A x.f3.length c] 24))
    case first =>
      clear HC IH HB hc hlen
      by_cases h1 : x.f0 = 1
      · have e1 : (x.f0 == 1) = true := by simp [h1]
        have e2 : (x.f0 == 2) = false := by simp [h1]
        have e3 : (x.f0 == 3) = false := by simp [h1]
        have e4 : (x.f0 == 4) = false := by simp [h1]
        by_cases z0 : x.f2 = 0
        · have z1 : (x.f2 == 0) = true := by simp [z0]
          by_cases n0 : (x.f3.length : Int) = 0
          · have n1 : ((x.f3.length : Int) == 0) = true := beq_iff_eq.mpr n0
            have n2 : (x.f3.length == 0) = true := beq_iff_eq.mpr (by omega)
            have E : headT x.f0 x.f1 x.f2 x.f3.length = true := by generalize x.f3.length = n at *; simp [headT, h1, z0, n0]
            have HE := Aside0.mk E
            clear E h1 z0 n0
            go_wp2
            go_meet
            case rel => exact ⟨by rw [HE.out], rfl⟩
          · have n1 : ((x.f3.length : Int) == 0) = false := beq_eq_false_iff_ne.mpr n0
            have n2 : (x.f3.length == 0) = false := beq_eq_false_iff_ne.mpr (by omega)
            have E : headT x.f0 x.f1 x.f2 x.f3.length = false := by generalize x.f3.length = n at *; simp [headT, h1, z0]; omega
            have HE := Aside0.mk E
            clear E h1 z0 n0
            go_wp2
            go_meet
            case rel => exact ⟨by rw [HE.out], rfl⟩
        · have z1 : (x.f2 == 0) = false := by simp [z0]
          have E : headT x.f0 x.f1 x.f2 x.f3.length = false := by generalize x.f3.length = n at *; simp [headT, h1, z0]
          have HE := Aside0.mk E
          clear E h1 z0
          go_wp2
          go_meet
          case rel => exact ⟨by rw [HE.out], rfl⟩
      by_cases h2 : x.f0 = 2
      · have e1 : (x.f0 == 1) = false := by simp [h2]
        have e2 : (x.f0 == 2) = true := by simp [h2]
        have e3 : (x.f0 == 3) = false := by simp [h2]
        have e4 : (x.f0 == 4) = false := by simp [h2]
        by_cases t0 : x.f1.toList = []
        · have t1 : (x.f1.toList = []) = True := eq_true t0
          have t2 : (x.f1.toList == []) = true := by simp [t0]
          by_cases z0 : x.f2 = 0
          · have z1 : (x.f2 == 0) = true := by simp [z0]
            by_cases n0 : (x.f3.length : Int) = 2
            · have n1 : ((x.f3.length : Int) == 2) = true := beq_iff_eq.mpr n0
              have n2 : (x.f3.length == 2) = true := beq_iff_eq.mpr (by omega)
              have E : headT x.f0 x.f1 x.f2 x.f3.length = true := by generalize x.f3.length = n at *; simp [headT, h2, z0, n0, t0]
              have HE := Aside0.mk E
              clear E h1 h2 t0 z0 n0
              go_wp2
              go_meet
              case rel => exact ⟨by rw [HE.out], rfl⟩
            · have n1 : ((x.f3.length : Int) == 2) = false := beq_eq_false_iff_ne.mpr n0
              have n2 : (x.f3.length == 2) = false := beq_eq_false_iff_ne.mpr (by omega)
              have E : headT x.f0 x.f1 x.f2 x.f3.length = false := by generalize x.f3.length = n at *; simp [headT, h2, z0, n0, t0]
              have HE := Aside0.mk E
              clear E h1 h2 t0 z0 n0
              go_wp2
              go_meet
              case rel => exact ⟨by rw [HE.out], rfl⟩
          · have z1 : (x.f2 == 0) = false := by simp [z0]
            have E : headT x.f0 x.f1 x.f2 x.f3.length = false := by generalize x.f3.length = n at *; simp [headT, h2, z0, t0]
            have HE := Aside0.mk E
            clear E h1 h2 t0 z0
            go_wp2
            go_meet
            case rel => exact ⟨by rw [HE.out], rfl⟩
        · have t1 : (x.f1.toList = []) = False := eq_false t0
          have t2 : (x.f1.toList == []) = false := by simp [t0]
          have E : headT x.f0 x.f1 x.f2 x.f3.length = false := by generalize x.f3.length = n at *; simp [headT, h2, t0]
          have HE := Aside0.mk E
          clear E h1 h2 t0
          go_wp2
          go_meet
          case rel => exact ⟨by rw [HE.out], rfl⟩
      by_cases h3 : x.f0 = 3
      · have e1 : (x.f0 == 1) = false := by simp [h3]
        have e2 : (x.f0 == 2) = false := by simp [h3]
        have e3 : (x.f0 == 3) = true := by simp [h3]
        have e4 : (x.f0 == 4) = false := by simp [h3]
        by_cases t0 : x.f1.toList = []
        · have t1 : (x.f1.toList = []) = True := eq_true t0
          have t2 : (x.f1.toList == []) = true := by simp [t0]
          by_cases z0 : x.f2 = 0
          · have z1 : (x.f2 == 0) = true := by simp [z0]
            by_cases n0 : (x.f3.length : Int) = 2
            · have n1 : ((x.f3.length : Int) == 2) = true := beq_iff_eq.mpr n0
              have n2 : (x.f3.length == 2) = true := beq_iff_eq.mpr (by omega)
              have E : headT x.f0 x.f1 x.f2 x.f3.length = true := by generalize x.f3.length = n at *; simp [headT, h3, z0, n0, t0]
              have HE := Aside0.mk E
              clear E h1 h2 h3 t0 z0 n0
              go_wp2
              go_meet
              case rel => exact ⟨by rw [HE.out], rfl⟩
            · have n1 : ((x.f3.length : Int) == 2) = false := beq_eq_false_iff_ne.mpr n0
              have n2 : (x.f3.length == 2) = false := beq_eq_false_iff_ne.mpr (by omega)
              have E : headT x.f0 x.f1 x.f2 x.f3.length = false := by generalize x.f3.length = n at *; simp [headT, h3, z0, n0, t0]
              have HE := Aside0.mk E
              clear E h1 h2 h3 t0 z0 n0
              go_wp2
              go_meet
              case rel => exact ⟨by rw [HE.out], rfl⟩
          · have z1 : (x.f2 == 0) = false := by simp [z0]
            have E : headT x.f0 x.f1 x.f2 x.f3.length = false := by generalize x.f3.length = n at *; simp [headT, h3, z0, t0]
            have HE := Aside0.mk E
            clear E h1 h2 h3 t0 z0
            go_wp2
            go_meet
            case rel => exact ⟨by rw [HE.out], rfl⟩
        · have t1 : (x.f1.toList = []) = False := eq_false t0
          have t2 : (x.f1.toList == []) = false := by simp [t0]
          have E : headT x.f0 x.f1 x.f2 x.f3.length = false := by generalize x.f3.length = n at *; simp [headT, h3, t0]
          have HE := Aside0.mk E
          clear E h1 h2 h3 t0
          go_wp2
          go_meet
          case rel => exact ⟨by rw [HE.out], rfl⟩
      by_cases h4 : x.f0 = 4
      · have e1 : (x.f0 == 1) = false := by simp [h4]
        have e2 : (x.f0 == 2) = false := by simp [h4]
        have e3 : (x.f0 == 3) = false := by simp [h4]
        have e4 : (x.f0 == 4) = true := by simp [h4]
        by_cases t0 : x.f1.toList = []
        · have t1 : (x.f1.toList = []) = True := eq_true t0
          have t2 : (x.f1.toList == []) = true := by simp [t0]
          by_cases z0 : 1 ≤ x.f2
          · have z1 : decide (1 ≤ x.f2) = true := decide_eq_true z0
            by_cases n0 : x.f2 ≤ (x.f3.length : Int)
            · have n1 : decide (x.f2 ≤ (x.f3.length : Int)) = true := decide_eq_true n0
              have E : headT x.f0 x.f1 x.f2 x.f3.length = true := by generalize x.f3.length = n at *; simp [headT, h4, z0, t0, n0]
              have HE := Aside0.mk E
              clear E h1 h2 h3 h4 t0 z0 n0
              go_wp2
              go_meet
              case rel => exact ⟨by rw [HE.out], rfl⟩
            · have n1 : decide (x.f2 ≤ (x.f3.length : Int)) = false := decide_eq_false n0
              have E : headT x.f0 x.f1 x.f2 x.f3.length = false := by generalize x.f3.length = n at *; simp [headT, h4, z0, t0, n0]
              have HE := Aside0.mk E
              clear E h1 h2 h3 h4 t0 z0 n0
              go_wp2
              go_meet
              case rel => exact ⟨by rw [HE.out], rfl⟩
          · have z1 : decide (1 ≤ x.f2) = false := decide_eq_false z0
            have E : headT x.f0 x.f1 x.f2 x.f3.length = false := by generalize x.f3.length = n at *; simp [headT, h4, z0, t0]
            have HE := Aside0.mk E
            clear E h1 h2 h3 h4 t0 z0
            go_wp2
            go_meet
            case rel => exact ⟨by rw [HE.out], rfl⟩
        · have t1 : (x.f1.toList = []) = False := eq_false t0
          have t2 : (x.f1.toList == []) = false := by simp [t0]
          have E : headT x.f0 x.f1 x.f2 x.f3.length = false := by generalize x.f3.length = n at *; simp [headT, h4, t0]
          have HE := Aside0.mk E
          clear E h1 h2 h3 h4 t0
          go_wp2
          go_meet
          case rel => exact ⟨by rw [HE.out], rfl⟩
      have e1 : (x.f0 == 1) = false := by simp [h1]
      have e2 : (x.f0 == 2) = false := by simp [h2]
      have e3 : (x.f0 == 3) = false := by simp [h3]
      have e4 : (x.f0 == 4) = false := by simp [h4]
      have E : headT x.f0 x.f1 x.f2 x.f3.length = false := by generalize x.f3.length = n at *; simp [headT, h1, h2, h3, h4]
      have HE := Aside0.mk E
      clear E h1 h2 h3 h4
      go_wp2
      go_meet
      case rel => exact ⟨by rw [HE.out], rfl⟩
    case rest =>
      obtain ⟨rfl, rfl⟩ := hcut
      have hE : headT x.f0 x.f1 x.f2 x.f3.length = false → errT x = 151 := fun h => by unfold errT; rw [okT_eq, h]; rfl
      have HEr := Aside0.mk hE
      clear hE
      obtain ⟨b, hb⟩ : ∃ b, b = headT x.f0 x.f1 x.f2 x.f3.length := ⟨_, rfl⟩
      rw [← hb]
      have HH := Aside0.mk hb
      clear hb
      cases b with
      | false =>
        go_wp2
        go_ret
        exact ⟨by rw [HEr.out HH.out.symm]; rfl, HB.out _⟩
      | true =>
        go_wp2
        go_loopw [5] (fun i wr => ∃ k : Nat, i = .int .i64 k ∧ k ≤ x.f3.length ∧ (∀ j, j < k → okT (rd_T24 x.f3 (j : Int)) = true) ∧ wr.heap[w.heap.size]? = some (.cells #[.int .u8 x.f0, .string x.f1, .int .i64 x.f2, .slice A x.f3.length c] 24 (0, 0)) ∧ Below w.heap.size w wr) (fun i wr => x.f3.length - (intOf i).toNat)
        case atStart => exact ⟨0, rfl, Nat.zero_le _, fun j hj => absurd hj (Nat.not_lt_zero _), blk_new _ _, HB.out _⟩
        case round =>
          obtain ⟨k, rfl, hk, hok, hblk, hbel⟩ := hrel
          have HOk := Aside0.mk hok
          have HBk := Aside0.mk hblk
          have HBl := Aside0.mk hbel
          have c3 := blk_cell hblk 3
          clear hok hblk hbel
          by_cases hlt : k < x.f3.length
          · have d1 : decide ((k : Int) < (x.f3.length : Int)) = true := decide_eq_true (by omega)
            have d2 : (k < x.f3.length) = True := eq_true hlt
            have d3 : ((k : Int) < (x.f3.length : Int)) = True := eq_true (by omega)
            have d4 : (0 ≤ (k : Int)) = True := eq_true (by omega)
            have hl3 : x.f3.length ≤ 10000 := by have := HN.out; omega
            have q4 : IntKind.i64.wrap ((k : Int) + 1) = (k : Int) + 1 := IntWalk.i64_in _ (by omega)
            obtain ⟨ad, A3, c3', e0, k0, k1, k2, k3, k4, k5⟩ := at_T24 HC.out (k : Int) (by omega) (by omega)
            subst e0
            rw [Int.toNat_natCast] at k0 k1 k2 k3
            replace k0 := pw_cell_below HBl.out k0
            replace k1 := pw_cell_below HBl.out k1
            replace k2 := pw_cell_below HBl.out k2
            replace k3 := pw_cell_below HBl.out k3
            have hmem : rd_T24 x.f3 (k : Int) ∈ x.f3 := by rw [rd_nat hlt]; exact List.getElem_mem hlt
            have hsz := szT_mem hmem
            obtain ⟨y, hy⟩ : ∃ y, y = rd_T24 x.f3 (k : Int) := ⟨_, rfl⟩
            rw [← hy] at k0 k1 k2 k3 k4 k5 hsz hmem
            have HY := Aside0.mk hy
            have HM := Aside0.mk hmem
            cases ho : okT y
            · have he : errT y = 151 := by simp [errT, ho]
              have hcall : ∀ wr, Below w.heap.size w wr → Calls Tryz.prog 18 #[.agg #[.int .u8 y.f0, .string y.f1, .int .i64 y.f2, .slice A3 y.f3.length c3']] wr fun e w' => e = .returned (.int .i64 151) ∧ Below wr.heap.size wr w' := fun wr hw => by
                have q := IH.out y A3 c3' wr (by have := HN.out; omega) (by omega) k4 (Kd.C_below k5 hw)
                rw [he] at q
                exact q
              have HCall := Aside0.mk hcall
              have HO := Aside0.mk ho
              clear hcall k4 k5 hsz hmem hy he ho
              go_wp2_with (first | (go_at_call 18; (refine (HCall.out _ HBl.out).mono ?_); rintro e_ w2 ⟨rfl, hb2⟩; have HB2 := Aside0.mk hb2; clear hb2))
              go_ret
              refine ⟨?_, HBl.out.trans (HB2.out.mono HBl.out.size)⟩
              have : okT x = false := by
                rw [okT_eq]
                have : x.f3.all okT = false := List.all_eq_false.mpr ⟨y, HM.out, by rw [HO.out]; simp⟩
                rw [this, Bool.and_false]
              simp [errT, this]
            · have he : errT y = 0 := by simp [errT, ho]
              have hcall : ∀ wr, Below w.heap.size w wr → Calls Tryz.prog 18 #[.agg #[.int .u8 y.f0, .string y.f1, .int .i64 y.f2, .slice A3 y.f3.length c3']] wr fun e w' => e = .returned (.int .i64 0) ∧ Below wr.heap.size wr w' := fun wr hw => by
                have q := IH.out y A3 c3' wr (by have := HN.out; omega) (by omega) k4 (Kd.C_below k5 hw)
                rw [he] at q
                exact q
              have HCall := Aside0.mk hcall
              have HO := Aside0.mk ho
              clear hcall k4 k5 hsz hmem hy he ho
              go_wp2_with (first | (go_at_call 18; (refine (HCall.out _ HBl.out).mono ?_); rintro e_ w2 ⟨rfl, hb2⟩; have HB2 := Aside0.mk hb2; clear hb2))
              refine ⟨⟨k + 1, by go_num, by omega, ?_, blk_below HBk.out HB2.out, HBl.out.trans (HB2.out.mono HBl.out.size)⟩, ?_⟩
              · intro j hj
                rcases Nat.lt_or_ge j k with h | h
                · exact HOk.out j h
                · have : j = k := by omega
                  subst this
                  rw [← HY.out]; exact HO.out
              · simp [intOf]; omega
          · have d1 : decide ((k : Int) < (x.f3.length : Int)) = false := decide_eq_false (by omega)
            go_wp2
            go_ret
            refine ⟨?_, HBl.out⟩
            have hall : x.f3.all okT = true := List.all_eq_true.mpr (fun y hy => by
              obtain ⟨j, hj, rfl⟩ := List.getElem_of_mem hy
              have q := HOk.out j (by omega)
              rw [rd_nat hj] at q
              exact q)
            have : okT x = true := by rw [okT_eq, ← HH.out, hall]; rfl
            simp [errT, this]
end Go.Proofs.YtjapfefiaijfcaaGreatDoor.Q
namespace Go.Proofs.YtjapfefiaijfcaaGreatDoor.Q
open Go.RowKit Go.Proofs.YtjapfefiaijfcaaGreatDoorW.PrintWords Go.Proofs.YtjapfefiaijfcaaGreatDoorW.PrintLast Go.Proofs.YtjapfefiaijfcaaGreatDoorW.PrintMore
set_option linter.unusedVariables false
set_option maxHeartbeats 8000000 in
set_option maxRecDepth 100000 in
theorem lics_Check1.calls (y : S24) (A : Option Addr) (c : Nat) (w : World)
    (H : ∀ w', Below w.heap.size w w' → Calls Tryz.prog 17 #[.agg #[.int .u8 y.f0, .string y.f1, .int .i64 y.f2, .slice A y.f3.length c]] w' fun e w'' => e = .returned (.int .i64 (errT y)) ∧ Below w'.heap.size w' w'') :
    Calls Tryz.prog 34 #[.agg #[.int .u8 y.f0, .string y.f1, .int .i64 y.f2, .slice A y.f3.length c]] w fun e w' => e = .returned (.bool (!okT y)) ∧ Below w.heap.size w w' := by
  cases ho : okT y
  · have he : errT y = 151 := by simp [errT, ho]
    rw [he] at H
    have HH := Aside0.mk H
    clear H he ho
    have hb : ∀ o : Obj, Below w.heap.size w (w.alloc o) := fun o => (Below.refl _ _).alloc (Nat.le_refl _) o
    have HB := Aside0.mk hb
    clear hb
    go_enter Tryz.func34, Tryz.ntmps34
    go_wp2_with (first | (go_at_call 17; (refine (HH.out _ (HB.out _)).mono ?_); rintro e_ w2 ⟨rfl, hb2⟩; have HB2 := Aside0.mk hb2; clear hb2))
    go_ret
    exact ⟨rfl, (HB.out _).trans (HB2.out.mono (HB.out _).size)⟩
  · have he : errT y = 0 := by simp [errT, ho]
    rw [he] at H
    have HH := Aside0.mk H
    clear H he ho
    have hb : ∀ o : Obj, Below w.heap.size w (w.alloc o) := fun o => (Below.refl _ _).alloc (Nat.le_refl _) o
    have HB := Aside0.mk hb
    clear hb
    go_enter Tryz.func34, Tryz.ntmps34
    go_wp2_with (first | (go_at_call 17; (refine (HH.out _ (HB.out _)).mono ?_); rintro e_ w2 ⟨rfl, hb2⟩; have HB2 := Aside0.mk hb2; clear hb2))
    go_ret
    exact ⟨rfl, (HB.out _).trans (HB2.out.mono (HB.out _).size)⟩
set_option maxHeartbeats 8000000 in
set_option maxRecDepth 100000 in
theorem slices_IndexFunc_bad.calls (xs : List S24) (A : Option Addr) (c : Nat) (w : World) (hl : xs.length ≤ 10000) (hC : Kd.C k24 w A xs.length xs)
    (H : ∀ y, y ∈ xs → ∀ A' c' w', Below w.heap.size w w' → y.f3.length ≤ c' → Kd.C k24 w' A' y.f3.length y.f3 → Calls Tryz.prog 34 #[.agg #[.int .u8 y.f0, .string y.f1, .int .i64 y.f2, .slice A' y.f3.length c']] w' fun e w'' => e = .returned (.bool (!okT y)) ∧ Below w'.heap.size w' w'') :
    Calls Tryz.prog 56 #[.slice A xs.length c, .func (.func 34) #[] #[]] w fun e w' => ∃ r : Int, e = .returned (.int .i64 r) ∧ decide (0 ≤ r) = !xs.all okT ∧ Below w.heap.size w w' := by
  have HC := Aside0.mk hC
  have HH := Aside0.mk H
  clear hC H
  go_enter Tryz.func56, Tryz.ntmps56
  go_wp2
  go_loopw [8] (fun i wr => ∃ k : Nat, i = .int .i64 k ∧ k ≤ xs.length ∧ (∀ j, j < k → okT (rd_T24 xs (j : Int)) = true) ∧ Below w.heap.size w wr) (fun i wr => xs.length - (intOf i).toNat)
  case atStart => exact ⟨0, rfl, Nat.zero_le _, fun j hj => absurd hj (Nat.not_lt_zero _), Below.refl _ _⟩
  case round =>
    obtain ⟨k, rfl, hk, hok, hbel⟩ := hrel
    have HOk := Aside0.mk hok
    have HBl := Aside0.mk hbel
    clear hok hbel
    by_cases hlt : k < xs.length
    · have d1 : decide ((k : Int) < (xs.length : Int)) = true := decide_eq_true (by omega)
      have d2 : (k < xs.length) = True := eq_true hlt
      have d3 : ((k : Int) < (xs.length : Int)) = True := eq_true (by omega)
      have d4 : (0 ≤ (k : Int)) = True := eq_true (by omega)
      have q4 : IntKind.i64.wrap ((k : Int) + 1) = (k : Int) + 1 := IntWalk.i64_in _ (by omega)
      obtain ⟨ad, A3, c3', e0, k0, k1, k2, k3, k4, k5⟩ := at_T24 HC.out (k : Int) (by omega) (by omega)
      subst e0
      rw [Int.toNat_natCast] at k0 k1 k2 k3
      replace k0 := pw_cell_below HBl.out k0
      replace k1 := pw_cell_below HBl.out k1
      replace k2 := pw_cell_below HBl.out k2
      replace k3 := pw_cell_below HBl.out k3
      have hmem : rd_T24 xs (k : Int) ∈ xs := by rw [rd_nat hlt]; exact List.getElem_mem hlt
      obtain ⟨y, hy⟩ : ∃ y, y = rd_T24 xs (k : Int) := ⟨_, rfl⟩
      rw [← hy] at k0 k1 k2 k3 k4 k5 hmem
      have HY := Aside0.mk hy
      have HM := Aside0.mk hmem
      have hcall := HH.out y hmem A3 c3' wr HBl.out k4 (Kd.C_below k5 HBl.out)
      clear k4 k5 hmem hy
      cases ho : okT y
      · rw [ho] at hcall
        have HCall := Aside0.mk hcall
        have HO := Aside0.mk ho
        clear hcall ho
        go_wp2_with (first | (go_at_call 34; (refine (HCall.out).mono ?_); rintro e_ w2 ⟨rfl, hb2⟩; have HB2 := Aside0.mk hb2; clear hb2))
        go_ret
        refine ⟨(k : Int), rfl, ?_, HBl.out.trans (HB2.out.mono HBl.out.size)⟩
        have : xs.all okT = false := List.all_eq_false.mpr ⟨y, HM.out, by rw [HO.out]; simp⟩
        rw [this]; simp
      · rw [ho] at hcall
        have HCall := Aside0.mk hcall
        have HO := Aside0.mk ho
        clear hcall ho
        go_wp2_with (first | (go_at_call 34; (refine (HCall.out).mono ?_); rintro e_ w2 ⟨rfl, hb2⟩; have HB2 := Aside0.mk hb2; clear hb2))
        refine ⟨⟨k + 1, by go_num, by omega, ?_, HBl.out.trans (HB2.out.mono HBl.out.size)⟩, ?_⟩
        · intro j hj
          rcases Nat.lt_or_ge j k with h | h
          · exact HOk.out j h
          · have : j = k := by omega
            subst this
            rw [← HY.out]; exact HO.out
        · simp [intOf]; omega
    · have d1 : decide ((k : Int) < (xs.length : Int)) = false := decide_eq_false (by omega)
      go_wp2
      go_ret
      refine ⟨-1, rfl, ?_, HBl.out⟩
      have hall : xs.all okT = true := List.all_eq_true.mpr (fun y hy => by
        obtain ⟨j, hj, rfl⟩ := List.getElem_of_mem hy
        have q := HOk.out j (by omega)
        rw [rd_nat hj] at q
        exact q)
      rw [hall]; rfl
set_option maxHeartbeats 8000000 in
set_option maxRecDepth 100000 in
theorem slices_ContainsFunc_bad.calls (xs : List S24) (A : Option Addr) (c : Nat) (w : World) (hl : xs.length ≤ 10000) (hC : Kd.C k24 w A xs.length xs)
    (H : ∀ y, y ∈ xs → ∀ A' c' w', Below w.heap.size w w' → y.f3.length ≤ c' → Kd.C k24 w' A' y.f3.length y.f3 → Calls Tryz.prog 34 #[.agg #[.int .u8 y.f0, .string y.f1, .int .i64 y.f2, .slice A' y.f3.length c']] w' fun e w'' => e = .returned (.bool (!okT y)) ∧ Below w'.heap.size w' w'') :
    Calls Tryz.prog 33 #[.slice A xs.length c, .func (.func 34) #[] #[]] w fun e w' => e = .returned (.bool (!xs.all okT)) ∧ Below w.heap.size w w' := by
  have HC := Aside0.mk (slices_IndexFunc_bad.calls xs A c w hl hC H)
  clear hC H
  go_enter Tryz.func33, Tryz.ntmps33
  go_wp2_with (first | (go_at_call 56; (refine (HC.out).mono ?_); rintro e_ w2 ⟨r, rfl, hr, hb2⟩; have HB2 := Aside0.mk hb2; have HR := Aside0.mk hr; clear hb2 hr))
  go_ret
  exact ⟨by rw [← HR.out]; rfl, HB2.out⟩
set_option maxHeartbeats 8000000 in
set_option maxRecDepth 100000 in
theorem lics_Check.calls (N : Nat) : ∀ (x : S24) (A : Option Addr) (c : Nat) (w : World), szT x < N → N ≤ 10000 → x.f3.length ≤ c → Kd.C k24 w A x.f3.length x.f3 →
    Calls Tryz.prog 17 #[.agg #[.int .u8 x.f0, .string x.f1, .int .i64 x.f2, .slice A x.f3.length c]] w fun e w' => e = .returned (.int .i64 (errT x)) ∧ Below w.heap.size w w' := by
  induction N with
  | zero => exact fun x A c w h => absurd h (Nat.not_lt_zero _)
  | succ N ih =>
    intro x A c w hN hN2 hc hC
    have hlen := szT_len x
    have hb : ∀ o : Obj, Below w.heap.size w (w.alloc o) := fun o => (Below.refl _ _).alloc (Nat.le_refl _) o
    have hcf : ∀ w', Below w.heap.size w w' → Calls Tryz.prog 33 #[.slice A x.f3.length c, .func (.func 34) #[] #[]] w' fun e w'' => e = .returned (.bool (!x.f3.all okT)) ∧ Below w'.heap.size w' w'' := fun w' hw =>
      slices_ContainsFunc_bad.calls x.f3 A c w' (by omega) (Kd.C_below hC hw) (fun y hy A' c' w2 hw2 hc2 hC2 => lics_Check1.calls y A' c' w2 (fun w3 hw3 => ih y A' c' w3 (by have := szT_mem hy; omega) (by omega) hc2 (Kd.C_below hC2 hw3)))
    have HCF := Aside0.mk hcf
    have HB := Aside0.mk hb
    have hE : headT x.f0 x.f1 x.f2 x.f3.length = false → errT x = 151 := fun h => by unfold errT; rw [okT_eq, h]; rfl
    have HEr := Aside0.mk hE
    have hO : headT x.f0 x.f1 x.f2 x.f3.length = true → errT x = if x.f3.all okT = true then 0 else 151 := fun h => by unfold errT; rw [okT_eq, h]; rfl
    have HOk := Aside0.mk hO
    have HC := Aside0.mk hC
    clear ih hcf hb hN hE hO hC
    by_cases h1 : x.f0 = 1
    · have e1 : (x.f0 == 1) = true := by simp [h1]
      have e2 : (x.f0 == 2) = false := by simp [h1]
      have e3 : (x.f0 == 3) = false := by simp [h1]
      have e4 : (x.f0 == 4) = false := by simp [h1]
      by_cases z0 : x.f2 = 0
      · have z1 : (x.f2 == 0) = true := by simp [z0]
        have z2 : (x.f2 != 0) = false := by simp [z0]
        by_cases n0 : (x.f3.length : Int) = 0
        · have n1 : ((x.f3.length : Int) == 0) = true := beq_iff_eq.mpr n0
          have n2 : (x.f3.length == 0) = true := beq_iff_eq.mpr (by omega)
          have n3 : ((x.f3.length : Int) != 0) = false := by rw [bne, n1]; rfl
          have n4 : (x.f3.length != 0) = false := by rw [bne, n2]; rfl
          have hall : x.f3.all okT = true := by rw [List.eq_nil_of_length_eq_zero (by omega : x.f3.length = 0)]; rfl
          have E := HOk.out (by generalize x.f3.length = n at *; simp [headT, h1, z0, n0])
          rw [hall] at E
          have HE := Aside0.mk E
          clear E hall h1 z0 n0
          go_enter Tryz.func17, Tryz.ntmps17
          go_wp2
          go_ret
          exact ⟨by rw [HE.out]; rfl, HB.out _⟩
        · have n1 : ((x.f3.length : Int) == 0) = false := beq_eq_false_iff_ne.mpr n0
          have n2 : (x.f3.length == 0) = false := beq_eq_false_iff_ne.mpr (by omega)
          have n3 : ((x.f3.length : Int) != 0) = true := by rw [bne, n1]; rfl
          have n4 : (x.f3.length != 0) = true := by rw [bne, n2]; rfl
          have E := HEr.out (by generalize x.f3.length = n at *; simp [headT, h1, z0]; omega)
          have HE := Aside0.mk E
          clear E h1 z0 n0
          go_enter Tryz.func17, Tryz.ntmps17
          go_wp2
          go_ret
          exact ⟨by rw [HE.out]; rfl, HB.out _⟩
      · have z1 : (x.f2 == 0) = false := by simp [z0]
        have z2 : (x.f2 != 0) = true := by simp [z0]
        have E := HEr.out (by generalize x.f3.length = n at *; simp [headT, h1, z0])
        have HE := Aside0.mk E
        clear E h1 z0
        go_enter Tryz.func17, Tryz.ntmps17
        go_wp2
        go_ret
        exact ⟨by rw [HE.out]; rfl, HB.out _⟩
    by_cases h2 : x.f0 = 2
    · have e1 : (x.f0 == 1) = false := by simp [h2]
      have e2 : (x.f0 == 2) = true := by simp [h2]
      have e3 : (x.f0 == 3) = false := by simp [h2]
      have e4 : (x.f0 == 4) = false := by simp [h2]
      by_cases z0 : x.f2 = 0
      · have z1 : (x.f2 == 0) = true := by simp [z0]
        have z2 : (x.f2 != 0) = false := by simp [z0]
        by_cases n0 : (x.f3.length : Int) = 2
        · have n1 : ((x.f3.length : Int) == 2) = true := beq_iff_eq.mpr n0
          have n2 : (x.f3.length == 2) = true := beq_iff_eq.mpr (by omega)
          have n3 : ((x.f3.length : Int) != 2) = false := by rw [bne, n1]; rfl
          have n4 : (x.f3.length != 2) = false := by rw [bne, n2]; rfl
          by_cases t0 : x.f1.toList = []
          · have t1 : (x.f1.toList = []) = True := eq_true t0
            have t2 : (x.f1.toList == []) = true := by simp [t0]
            have t3 : (x.f1.toList != []) = false := by simp [t0]
            have E := HOk.out (by generalize x.f3.length = n at *; simp [headT, h2, z0, n0, t0])
            cases ha : x.f3.all okT
            · have E2 : errT x = 151 := by rw [E, ha]; rfl
              have HE := Aside0.mk E2
              have hcf := HCF.out
              rw [ha] at hcf
              have HCF2 := Aside0.mk hcf
              clear E E2 ha hcf h1 h2 z0 n0 t0
              go_enter Tryz.func17, Tryz.ntmps17
              go_wp2_with (first | (go_at_call 33; (refine (HCF2.out _ (HB.out _)).mono ?_); rintro e_ w2 ⟨rfl, hb2⟩; have HB2 := Aside0.mk hb2; clear hb2))
              go_ret
              exact ⟨by rw [HE.out]; rfl, (HB.out _).trans (HB2.out.mono (HB.out _).size)⟩
            · have E2 : errT x = 0 := by rw [E, ha]; rfl
              have HE := Aside0.mk E2
              have hcf := HCF.out
              rw [ha] at hcf
              have HCF2 := Aside0.mk hcf
              clear E E2 ha hcf h1 h2 z0 n0 t0
              go_enter Tryz.func17, Tryz.ntmps17
              go_wp2_with (first | (go_at_call 33; (refine (HCF2.out _ (HB.out _)).mono ?_); rintro e_ w2 ⟨rfl, hb2⟩; have HB2 := Aside0.mk hb2; clear hb2))
              go_ret
              exact ⟨by rw [HE.out]; rfl, (HB.out _).trans (HB2.out.mono (HB.out _).size)⟩
          · have t1 : (x.f1.toList = []) = False := eq_false t0
            have t2 : (x.f1.toList == []) = false := by simp [t0]
            have t3 : (x.f1.toList != []) = true := by simp [t0]
            have E := HEr.out (by generalize x.f3.length = n at *; simp [headT, h2, z0, n0, t0])
            have HE := Aside0.mk E
            clear E h1 h2 z0 n0 t0
            go_enter Tryz.func17, Tryz.ntmps17
            go_wp2
            go_ret
            exact ⟨by rw [HE.out]; rfl, HB.out _⟩
        · have n1 : ((x.f3.length : Int) == 2) = false := beq_eq_false_iff_ne.mpr n0
          have n2 : (x.f3.length == 2) = false := beq_eq_false_iff_ne.mpr (by omega)
          have n3 : ((x.f3.length : Int) != 2) = true := by rw [bne, n1]; rfl
          have n4 : (x.f3.length != 2) = true := by rw [bne, n2]; rfl
          have E := HEr.out (by generalize x.f3.length = n at *; simp [headT, h2, z0, n0])
          have HE := Aside0.mk E
          clear E h1 h2 z0 n0
          go_enter Tryz.func17, Tryz.ntmps17
          go_wp2
          go_ret
          exact ⟨by rw [HE.out]; rfl, HB.out _⟩
      · have z1 : (x.f2 == 0) = false := by simp [z0]
        have z2 : (x.f2 != 0) = true := by simp [z0]
        have E := HEr.out (by generalize x.f3.length = n at *; simp [headT, h2, z0])
        have HE := Aside0.mk E
        clear E h1 h2 z0
        go_enter Tryz.func17, Tryz.ntmps17
        go_wp2
        go_ret
        exact ⟨by rw [HE.out]; rfl, HB.out _⟩
    by_cases h3 : x.f0 = 3
    · have e1 : (x.f0 == 1) = false := by simp [h3]
      have e2 : (x.f0 == 2) = false := by simp [h3]
      have e3 : (x.f0 == 3) = true := by simp [h3]
      have e4 : (x.f0 == 4) = false := by simp [h3]
      by_cases z0 : x.f2 = 0
      · have z1 : (x.f2 == 0) = true := by simp [z0]
        have z2 : (x.f2 != 0) = false := by simp [z0]
        by_cases n0 : (x.f3.length : Int) = 2
        · have n1 : ((x.f3.length : Int) == 2) = true := beq_iff_eq.mpr n0
          have n2 : (x.f3.length == 2) = true := beq_iff_eq.mpr (by omega)
          have n3 : ((x.f3.length : Int) != 2) = false := by rw [bne, n1]; rfl
          have n4 : (x.f3.length != 2) = false := by rw [bne, n2]; rfl
          by_cases t0 : x.f1.toList = []
          · have t1 : (x.f1.toList = []) = True := eq_true t0
            have t2 : (x.f1.toList == []) = true := by simp [t0]
            have t3 : (x.f1.toList != []) = false := by simp [t0]
            have E := HOk.out (by generalize x.f3.length = n at *; simp [headT, h3, z0, n0, t0])
            cases ha : x.f3.all okT
            · have E2 : errT x = 151 := by rw [E, ha]; rfl
              have HE := Aside0.mk E2
              have hcf := HCF.out
              rw [ha] at hcf
              have HCF2 := Aside0.mk hcf
              clear E E2 ha hcf h1 h2 h3 z0 n0 t0
              go_enter Tryz.func17, Tryz.ntmps17
              go_wp2_with (first | (go_at_call 33; (refine (HCF2.out _ (HB.out _)).mono ?_); rintro e_ w2 ⟨rfl, hb2⟩; have HB2 := Aside0.mk hb2; clear hb2))
              go_ret
              exact ⟨by rw [HE.out]; rfl, (HB.out _).trans (HB2.out.mono (HB.out _).size)⟩
            · have E2 : errT x = 0 := by rw [E, ha]; rfl
              have HE := Aside0.mk E2
              have hcf := HCF.out
              rw [ha] at hcf
              have HCF2 := Aside0.mk hcf
              clear E E2 ha hcf h1 h2 h3 z0 n0 t0
              go_enter Tryz.func17, Tryz.ntmps17
              go_wp2_with (first | (go_at_call 33; (refine (HCF2.out _ (HB.out _)).mono ?_); rintro e_ w2 ⟨rfl, hb2⟩; have HB2 := Aside0.mk hb2; clear hb2))
              go_ret
              exact ⟨by rw [HE.out]; rfl, (HB.out _).trans (HB2.out.mono (HB.out _).size)⟩
          · have t1 : (x.f1.toList = []) = False := eq_false t0
            have t2 : (x.f1.toList == []) = false := by simp [t0]
            have t3 : (x.f1.toList != []) = true := by simp [t0]
            have E := HEr.out (by generalize x.f3.length = n at *; simp [headT, h3, z0, n0, t0])
            have HE := Aside0.mk E
            clear E h1 h2 h3 z0 n0 t0
            go_enter Tryz.func17, Tryz.ntmps17
            go_wp2
            go_ret
            exact ⟨by rw [HE.out]; rfl, HB.out _⟩
        · have n1 : ((x.f3.length : Int) == 2) = false := beq_eq_false_iff_ne.mpr n0
          have n2 : (x.f3.length == 2) = false := beq_eq_false_iff_ne.mpr (by omega)
          have n3 : ((x.f3.length : Int) != 2) = true := by rw [bne, n1]; rfl
          have n4 : (x.f3.length != 2) = true := by rw [bne, n2]; rfl
          have E := HEr.out (by generalize x.f3.length = n at *; simp [headT, h3, z0, n0])
          have HE := Aside0.mk E
          clear E h1 h2 h3 z0 n0
          go_enter Tryz.func17, Tryz.ntmps17
          go_wp2
          go_ret
          exact ⟨by rw [HE.out]; rfl, HB.out _⟩
      · have z1 : (x.f2 == 0) = false := by simp [z0]
        have z2 : (x.f2 != 0) = true := by simp [z0]
        have E := HEr.out (by generalize x.f3.length = n at *; simp [headT, h3, z0])
        have HE := Aside0.mk E
        clear E h1 h2 h3 z0
        go_enter Tryz.func17, Tryz.ntmps17
        go_wp2
        go_ret
        exact ⟨by rw [HE.out]; rfl, HB.out _⟩
    by_cases h4 : x.f0 = 4
    · have e1 : (x.f0 == 1) = false := by simp [h4]
      have e2 : (x.f0 == 2) = false := by simp [h4]
      have e3 : (x.f0 == 3) = false := by simp [h4]
      have e4 : (x.f0 == 4) = true := by simp [h4]
      by_cases z0 : x.f2 < 1
      · have z1 : decide (x.f2 < 1) = true := decide_eq_true z0
        have E := HEr.out (by generalize x.f3.length = n at *; simp [headT, h4]; intros; omega)
        have HE := Aside0.mk E
        clear E h1 h2 h3 h4 z0
        go_enter Tryz.func17, Tryz.ntmps17
        go_wp2
        go_ret
        exact ⟨by rw [HE.out]; rfl, HB.out _⟩
      · have z1 : decide (x.f2 < 1) = false := decide_eq_false z0
        by_cases n0 : (x.f3.length : Int) < x.f2
        · have n1 : decide ((x.f3.length : Int) < x.f2) = true := decide_eq_true n0
          have E := HEr.out (by generalize x.f3.length = n at *; simp [headT, h4]; intros; omega)
          have HE := Aside0.mk E
          clear E h1 h2 h3 h4 z0 n0
          go_enter Tryz.func17, Tryz.ntmps17
          go_wp2
          go_ret
          exact ⟨by rw [HE.out]; rfl, HB.out _⟩
        · have n1 : decide ((x.f3.length : Int) < x.f2) = false := decide_eq_false n0
          by_cases t0 : x.f1.toList = []
          · have t1 : (x.f1.toList = []) = True := eq_true t0
            have t2 : (x.f1.toList == []) = true := by simp [t0]
            have t3 : (x.f1.toList != []) = false := by simp [t0]
            have E := HOk.out (by generalize x.f3.length = n at *; simp [headT, h4, (by omega : 1 ≤ x.f2), (by omega : x.f2 ≤ (n : Int)), t0])
            cases ha : x.f3.all okT
            · have E2 : errT x = 151 := by rw [E, ha]; rfl
              have HE := Aside0.mk E2
              have hcf := HCF.out
              rw [ha] at hcf
              have HCF2 := Aside0.mk hcf
              clear E E2 ha hcf h1 h2 h3 h4 z0 n0 t0
              go_enter Tryz.func17, Tryz.ntmps17
              go_wp2_with (first | (go_at_call 33; (refine (HCF2.out _ (HB.out _)).mono ?_); rintro e_ w2 ⟨rfl, hb2⟩; have HB2 := Aside0.mk hb2; clear hb2))
              go_ret
              exact ⟨by rw [HE.out]; rfl, (HB.out _).trans (HB2.out.mono (HB.out _).size)⟩
            · have E2 : errT x = 0 := by rw [E, ha]; rfl
              have HE := Aside0.mk E2
              have hcf := HCF.out
              rw [ha] at hcf
              have HCF2 := Aside0.mk hcf
              clear E E2 ha hcf h1 h2 h3 h4 z0 n0 t0
              go_enter Tryz.func17, Tryz.ntmps17
              go_wp2_with (first | (go_at_call 33; (refine (HCF2.out _ (HB.out _)).mono ?_); rintro e_ w2 ⟨rfl, hb2⟩; have HB2 := Aside0.mk hb2; clear hb2))
              go_ret
              exact ⟨by rw [HE.out]; rfl, (HB.out _).trans (HB2.out.mono (HB.out _).size)⟩
          · have t1 : (x.f1.toList = []) = False := eq_false t0
            have t2 : (x.f1.toList == []) = false := by simp [t0]
            have t3 : (x.f1.toList != []) = true := by simp [t0]
            have E := HEr.out (by generalize x.f3.length = n at *; simp [headT, h4, (by omega : 1 ≤ x.f2), (by omega : x.f2 ≤ (n : Int)), t0])
            have HE := Aside0.mk E
            clear E h1 h2 h3 h4 z0 n0 t0
            go_enter Tryz.func17, Tryz.ntmps17
            go_wp2
            go_ret
            exact ⟨by rw [HE.out]; rfl, HB.out _⟩
    have e1 : (x.f0 == 1) = false := by simp [h1]
    have e2 : (x.f0 == 2) = false := by simp [h2]
    have e3 : (x.f0 == 3) = false := by simp [h3]
    have e4 : (x.f0 == 4) = false := by simp [h4]
    have E := HEr.out (by generalize x.f3.length = n at *; simp [headT, h1, h2, h3, h4])
    have HE := Aside0.mk E
    clear E h1 h2 h3 h4
    go_enter Tryz.func17, Tryz.ntmps17
    go_wp2
    go_ret
    exact ⟨by rw [HE.out]; rfl, HB.out _⟩
end Go.Proofs.YtjapfefiaijfcaaGreatDoor.Q
namespace Go.Proofs.YtjapfefiaijfcaaGreatDoor.Q
open Go.RowKit Go.Proofs.YtjapfefiaijfcaaGreatDoorW.PrintWords Go.Proofs.YtjapfefiaijfcaaGreatDoorW.PrintLast Go.Proofs.YtjapfefiaijfcaaGreatDoorW.PrintMore
set_option linter.unusedVariables false
/-- the place of the first text that is this one, or -1. -/
def placeS (t : ByteArray) : List ByteArray → Nat → Int
  | [], _ => -1
  | a :: r, j => if t.toList = a.toList then (j : Int) else placeS t r (j + 1)
theorem placeS_lt (t : ByteArray) : ∀ (l : List ByteArray) (j : Nat), placeS t l j = -1 ∨ ((j : Int) ≤ placeS t l j ∧ placeS t l j < (j : Int) + l.length)
  | [], j => .inl rfl
  | a :: r, j => by
    unfold placeS
    split
    · right; simp; omega
    · rcases placeS_lt t r (j + 1) with h | h
      · exact .inl h
      · right; rw [List.length_cons]; omega
theorem rdOf_nat {l : List ByteArray} {j : Nat} (h : j < l.length) : rdOf ByteArray.empty l (j : Int) = l[j] := by simp [rdOf, h]
theorem index_some (l : List ByteArray) (t : ByteArray) (hl : l.length ≤ 1000000) : ∀ d j, j + d = l.length → slices_Index_string_string.l0 (d + 1) l t (l.length : Int) (j : Int) = some (placeS t (l.drop j) j) := by
  intro d
  induction d with
  | zero =>
    intro j hj
    unfold slices_Index_string_string.l0
    rw [if_neg (by omega), List.drop_eq_nil_of_le (by omega)]; rfl
  | succ d ih =>
    intro j hj
    unfold slices_Index_string_string.l0
    have hlt : j < l.length := by omega
    rw [if_pos (by omega), if_pos (by omega), if_pos (by omega), List.drop_eq_getElem_cons hlt, rdOf_nat hlt]
    unfold placeS
    split
    · rfl
    · rw [IntWalk.wrap64_in _ (by omega)]
      exact ih (j + 1) (by omega)
/-- the text that stands in a part's place. -/
def textT (fr tn : List ByteArray) (x : S24) : ByteArray := if x.f0 = 1 ∧ 0 ≤ placeS x.f1 fr 0 then rdOf ByteArray.empty tn (placeS x.f1 fr 0) else x.f1
/-- the tree with other texts. -/
def renT (fr tn : List ByteArray) (x : S24) : S24 := ⟨x.f0, textT fr tn x, x.f2, x.f3.attach.map (fun ⟨y, hy⟩ => renT fr tn y)⟩
termination_by SizeOf.sizeOf x
decreasing_by exact S24.lt_mem hy
theorem renT_eq (fr tn : List ByteArray) (x : S24) : renT fr tn x = ⟨x.f0, textT fr tn x, x.f2, x.f3.map (renT fr tn)⟩ := by
  rw [renT]
  congr 1
  simp
theorem made24 (n : Nat) (hn : n ≤ 3000) : ∃ mc : Array Value, (∀ W, (Instr.makeSlice 22 (.int .i64 0) (.int .i64 (n : Int))).run Tryz.prog W = .ok (.slice (some ⟨W.heap.size, 0, none⟩) 0 n) (W.alloc (.cells mc 24))) ∧
    ∀ (W : World) (base : Nat) (ok : Nat → Prop), base ≤ W.heap.size → ok W.heap.size → Kd.R k24 24 (W.alloc (.cells mc 24)) base ok (.slice (some ⟨W.heap.size, 0, none⟩) 0 n) [] := by
  obtain ⟨i0, hi, hzz⟩ := Option.map_eq_some_iff.1 info24
  simp only [Prod.mk.injEq] at hzz
  obtain ⟨hz0, hz1, hz2⟩ := hzz
  refine ⟨madeCells (Value.agg #[(.int .u8 0), (.string ⟨#[]⟩), (.int .i64 0), (.slice none 0 0)]).cells (n * 4), fun W => ?_, fun W base ok hb hf => ?_⟩
  · have hr := run_make (P := Tryz.prog) W 22 24 i0 _ Tryz.underlying22 hi hz0 .i64 .i64 0 (n : Int) (by omega) (by omega) (by rw [hz2]; omega) (by omega)
    rw [hz1] at hr
    simpa using hr
  · have h2 := World.ownsRow_lit (base := base) (e := 24) (size := 4) W (madeCells (Value.agg #[(.int .u8 0), (.string ⟨#[]⟩), (.int .i64 0), (.slice none 0 0)]).cells (n * 4)) n hb (by simp only [maxLen]; omega) (by simp [size_madeCells])
    have h3 := own_take h2 (Nat.zero_le n)
    simp only [Nat.zero_mul, List.take_zero] at h3
    refine ⟨fun k hk => ?_, [], h3, Reps.none _ _⟩
    have : W.heap.size = k := by simpa [Value.ownBlock] using hk
    subst this
    exact hf
/-- what the closure that goes over a tree has at hand. -/
structure Env (w : World) (b4 b5 b9 : Nat) (Af : Option Addr) (cf : Nat) (At : Option Addr) (ct : Nat) (fr tn : List ByteArray) : Prop where
  e4 : w.heap[b4]? = some (.cells #[.slice Af fr.length cf] 34 (0, 0))
  e5 : w.heap[b5]? = some (.cells #[.slice At tn.length ct] 34 (0, 0))
  e9 : w.heap[b9]? = some (.cells #[.func (.func 37) #[] #[.pointer (some ⟨b4, 0, none⟩), .pointer (some ⟨b5, 0, none⟩), .pointer (some ⟨b9, 0, none⟩)]] 27 (0, 0))
  f : Kd.C Kd.string w Af fr.length fr
  t : Kd.C Kd.string w At tn.length tn
  lf : fr.length ≤ cf
  lt : tn.length ≤ ct
theorem Env.keep {w W : World} {b4 b5 b9 : Nat} {Af : Option Addr} {cf : Nat} {At : Option Addr} {ct : Nat} {fr tn : List ByteArray} (h : Env w b4 b5 b9 Af cf At ct fr tn) (hb : Below w.heap.size w W) : Env W b4 b5 b9 Af cf At ct fr tn :=
  ⟨blk_below h.e4 hb, blk_below h.e5 hb, blk_below h.e9 hb, Kd.C_below h.f hb, Kd.C_below h.t hb, h.lf, h.lt⟩
theorem turn_aP {w2 : World} {y : S24} {t : ByteArray} {xs : List S24} {b B : Nat} {v : Value} (h : Kd.R k24 24 w2 B (fun _ => True) v xs) (hB : b ≤ B) : Kd.M k24 w2 b (fun k => B ≤ k ∧ k < w2.heap.size) ⟨y.f0, t, y.f2, xs⟩ [.int .u8 y.f0, .string t, .int .i64 y.f2, v] := k24_mkM _ _ _ (⟨y.f0, t, y.f2, xs⟩ : S24) (Kd.R_lower (Kd.R_mono (Kd.R_bound h) (fun k hk => ⟨hk.2.1, hk.2.2.1⟩)) hB)
set_option maxHeartbeats 8000000 in
set_option maxRecDepth 100000 in
theorem lics_Renamed1.calls (fr tn : List ByteArray) (hft : fr.length = tn.length) (hfl : fr.length ≤ 1000) (b4 b5 b9 : Nat) (Af : Option Addr) (cf : Nat) (At : Option Addr) (ct : Nat) (N : Nat) : ∀ (x : S24) (A : Option Addr) (c : Nat) (w : World), szT x < N → N ≤ 3000 → x.f3.length ≤ c → Kd.C k24 w A x.f3.length x.f3 → Env w b4 b5 b9 Af cf At ct fr tn →
    Calls Tryz.prog 37 #[.agg #[.int .u8 x.f0, .string x.f1, .int .i64 x.f2, .slice A x.f3.length c], .pointer (some ⟨b4, 0, none⟩), .pointer (some ⟨b5, 0, none⟩), .pointer (some ⟨b9, 0, none⟩)] w fun e w' => ∃ v, e = .returned (.agg #[.int .u8 x.f0, .string (textT fr tn x), .int .i64 x.f2, v]) ∧ Kd.R k24 24 w' w.heap.size (fun _ => True) v (x.f3.map (renT fr tn)) ∧ Below w.heap.size w w' := by
  induction N with
  | zero => exact fun x A c w h => absurd h (Nat.not_lt_zero _)
  | succ N ih =>
    intro x A c w hN hN2 hc hC hEnv
    have hlen := szT_len x
    have HC := Aside0.mk hC
    have IH := Aside0.mk ih
    have HEnv := Aside0.mk hEnv
    have HN := Aside0.mk hN
    have HFT := Aside0.mk hft
    have hb2 : ∀ o o' : Obj, Below w.heap.size w ((w.alloc o).alloc o') := fun o o' => ((Below.refl _ _).alloc (Nat.le_refl _) o).alloc (by simp) o'
    have HB2 := Aside0.mk hb2
    clear ih hC hEnv hN hb2 hft
    go_enter Tryz.func37, Tryz.ntmps37
    go_upto_if 12 with (fail)
    go_cut [6] (fun s wc => (∃ u, s = u) ∧ wc.heap[w.heap.size]? = some (.cells #[.int .u8 x.f0, .string (textT fr tn x), .int .i64 x.f2, .slice A x.f3.length c] 24 (0, 0)) ∧ wc.heap[w.heap.size + 1]? = some (.cells #[.int .u8 0, .string ⟨#[]⟩, .int .i64 0, .slice none 0 0] 24 (0, 0)) ∧ Below w.heap.size w wc)
    case first =>
      generalize hW1 : (w.alloc (.cells #[.int .u8 x.f0, .string x.f1, .int .i64 x.f2, .slice A x.f3.length c] 24)).alloc (.cells #[.int .u8 0, .string ⟨#[]⟩, .int .i64 0, .slice none 0 0] 24) = W1
      have r0 : W1.heap[w.heap.size]? = some (.cells #[.int .u8 x.f0, .string x.f1, .int .i64 x.f2, .slice A x.f3.length c] 24 (0, 0)) := by rw [← hW1]; exact blk_alloc (blk_new w _) _
      have r1 : W1.heap[w.heap.size + 1]? = some (.cells #[.int .u8 0, .string ⟨#[]⟩, .int .i64 0, .slice none 0 0] 24 (0, 0)) := by rw [← hW1]; exact blk_new' _ (by simp)
      have rb : Below w.heap.size w W1 := by rw [← hW1]; exact HB2.out _ _
      have R0 := Aside0.mk r0
      have R1 := Aside0.mk r1
      have RB := Aside0.mk rb
      have HE1 := Aside0.mk (HEnv.out.keep rb)
      have c1 := blk_cell r0 1
      have z1 := blk_frozen r0 1
      have m4 : W1.cell? ⟨b4, 0, none⟩ = some (.slice Af fr.length cf) := (blk_cell HE1.out.e4 0).trans rfl
      clear hW1 r0 r1 rb
      by_cases h1 : x.f0 = 1
      · have e1 : (x.f0 == 1) = true := by simp [h1]
        obtain ⟨i, hi⟩ : ∃ i, i = placeS x.f1 fr 0 := ⟨_, rfl⟩
        have hidx : slices_Index_string_string.f (fr.length + 1) fr x.f1 = some i := by
          have q := index_some fr x.f1 (by omega) fr.length 0 (by omega)
          rw [List.drop_zero, show ((0 : Nat) : Int) = 0 from rfl, ← hi] at q
          exact q
        have HIdx := Aside0.mk hidx
        have hir := placeS_lt x.f1 fr 0
        rw [← hi] at hir
        by_cases h0 : 0 ≤ i
        · have ht : textT fr tn x = rdOf ByteArray.empty tn i := by unfold textT; rw [← hi, if_pos ⟨h1, h0⟩]
          have hil : i < (tn.length : Int) := by have := HFT.out; omega
          have d0 : decide (0 ≤ i) = true := decide_eq_true h0
          obtain ⟨ad, eA, hx⟩ := Kd.at_string HE1.out.t i h0 hil
          have HT := Aside0.mk ht
          have m5 : W1.cell? ⟨b5, 0, none⟩ = some (.slice At tn.length ct) := (blk_cell HE1.out.e5 0).trans rfl
          rw [eA] at m5
          have p0 : (0 ≤ i) = True := eq_true h0
          have p1 : (i < (tn.length : Int)) = True := eq_true hil
          clear ht h1 hi hidx hir h0 hil eA
          go_wp2_with (first | (go_at_call 38; (refine (slices_Index_string_string.calls (fr.length + 1) Af cf fr x.f1 i W1 HE1.out.f HE1.out.lf HIdx.out).mono ?_); rintro e_ w_ ⟨rfl, hd⟩; obtain ⟨m, rfl⟩ := hd.out; clear hd))
          go_meet
          case rel =>
            rw [HT.out]
            exact ⟨⟨_, rfl⟩, blk_drewN (blk_put R0.out 1 _ rfl) _, blk_drewN (blk_far R1.out (by simp only; omega) _) _, pw_below_drewN (below_set' RB.out) _⟩
        · have ht : textT fr tn x = x.f1 := by unfold textT; rw [← hi, if_neg (fun h => h0 h.2)]
          have d0 : decide (0 ≤ i) = false := decide_eq_false h0
          have HT := Aside0.mk ht
          clear ht h1 hi hidx hir h0
          go_wp2_with (first | (go_at_call 38; (refine (slices_Index_string_string.calls (fr.length + 1) Af cf fr x.f1 i W1 HE1.out.f HE1.out.lf HIdx.out).mono ?_); rintro e_ w_ ⟨rfl, hd⟩; obtain ⟨m, rfl⟩ := hd.out; clear hd))
          go_meet
          case rel =>
            rw [HT.out]
            exact ⟨⟨_, rfl⟩, blk_drewN R0.out _, blk_drewN R1.out _, pw_below_drewN RB.out _⟩
      · have e1 : (x.f0 == 1) = false := by simp [h1]
        have ht : textT fr tn x = x.f1 := by unfold textT; rw [if_neg (fun h => h1 h.1)]
        have HT := Aside0.mk ht
        clear ht h1
        go_wp2
        go_meet
        case rel =>
          rw [HT.out]
          exact ⟨⟨_, rfl⟩, R0.out, R1.out, RB.out⟩
    case rest =>
      obtain ⟨⟨u, rfl⟩, r0, r1, rb⟩ := hcut
      obtain ⟨mc, hmk, hmR⟩ := made24 x.f3.length (by have := HN.out; omega)
      have R0 := Aside0.mk r0
      have R1 := Aside0.mk r1
      have RB := Aside0.mk rb
      have HMR := Aside0.mk hmR
      have c3 := blk_cell r0 3
      have c4 := fun o => blk_cell (blk_alloc r0 o) 3
      have hz : w.heap.size + 1 < wc.heap.size := blk_lt r1
      have HZ := Aside0.mk hz
      clear r0 r1 rb hmR hz
      go_wp2
      go_loopw [7, 31] (fun a i wr => ∃ k : Nat, i = .int .i64 k ∧ k ≤ x.f3.length ∧ wr.heap[w.heap.size]? = some (.cells #[.int .u8 x.f0, .string (textT fr tn x), .int .i64 x.f2, .slice A x.f3.length c] 24 (0, 0)) ∧ wr.heap[w.heap.size + 1]? = some (.cells #[.int .u8 0, .string ⟨#[]⟩, .int .i64 0, .slice none 0 0] 24 (0, 0)) ∧ Below w.heap.size w wr ∧ Kd.R k24 24 wr w.heap.size (fun j => j ≠ w.heap.size ∧ j ≠ w.heap.size + 1) a ((x.f3.take k).map (renT fr tn))) (fun _ i wr => x.f3.length - (intOf i).toNat)
      case atStart => exact ⟨0, rfl, Nat.zero_le _, blk_alloc R0.out _, blk_alloc R1.out _, RB.out.alloc RB.out.size _, HMR.out wc _ _ RB.out.size (by have := HZ.out; omega)⟩
      case round =>
        obtain ⟨k, rfl, hk, hblk, hblk1, hbel, hR⟩ := hrel
        obtain ⟨ys, hys⟩ : ∃ ys, ys = (x.f3.take k).map (renT fr tn) := ⟨_, rfl⟩
        rw [← hys] at hR
        have hyl : ys.length = k := by rw [hys]; simp; omega
        obtain ⟨A2, cp2, rfl⟩ := Kd.R_slice hR
        have HYs := Aside0.mk hys
        have HBk := Aside0.mk hblk
        have HBk1 := Aside0.mk hblk1
        have HBl := Aside0.mk hbel
        have HR := Aside0.mk hR
        have HZr := Aside0.mk (blk_lt hblk1)
        clear hmk c3 c4
        by_cases hlt : k < x.f3.length
        · have hl3 : x.f3.length ≤ 3000 := by have := HN.out; omega
          have HYl := Aside0.mk (by omega : ys.length < x.f3.length)
          have HKl := Aside0.mk hyl
          have d1 : decide ((k : Int) < (x.f3.length : Int)) = true := decide_eq_true (by omega)
          have d2 : (k < x.f3.length) = True := eq_true hlt
          have d3 : ((k : Int) < (x.f3.length : Int)) = True := eq_true (by omega)
          have d4 : (0 ≤ (k : Int)) = True := eq_true (by omega)
          have q4 : IntKind.i64.wrap ((k : Int) + 1) = (k : Int) + 1 := IntWalk.i64_in _ (by omega)
          obtain ⟨ad, A3, c3', e0, k0, k1, k2, k3, k4, k5⟩ := at_T24 HC.out (k : Int) (by omega) (by omega)
          subst e0
          rw [Int.toNat_natCast] at k0 k1 k2 k3
          replace k0 := pw_cell_below hbel k0
          replace k1 := pw_cell_below hbel k1
          replace k2 := pw_cell_below hbel k2
          replace k3 := pw_cell_below hbel k3
          have hmem : rd_T24 x.f3 (k : Int) ∈ x.f3 := by rw [rd_nat hlt]; exact List.getElem_mem hlt
          have hsz := szT_mem hmem
          obtain ⟨y, hy⟩ : ∃ y, y = rd_T24 x.f3 (k : Int) := ⟨_, rfl⟩
          rw [← hy] at k0 k1 k2 k3 k4 k5 hsz hmem
          have hba : Below w.heap.size w (wr.alloc (.cells #[.int .u8 y.f0, .string y.f1, .int .i64 y.f2, .slice A3 y.f3.length c3'] 24)) := hbel.alloc hbel.size _
          have hcall := IH.out y A3 c3' (wr.alloc (.cells #[.int .u8 y.f0, .string y.f1, .int .i64 y.f2, .slice A3 y.f3.length c3'] 24)) (by have := HN.out; omega) (by omega) k4 (Kd.C_below k5 hba) (HEnv.out.keep hba)
          have HCall := Aside0.mk hcall
          have HY := Aside0.mk hy
          have m9 := fun o => blk_cell (HEnv.out.keep (hbel.alloc hbel.size o)).e9 0
          clear hcall k4 k5 hsz hmem hy hba hblk hblk1 hbel hR hyl hys
          go_wp2_with (first | (go_at_call 37; (refine (HCall.out).mono ?_); rintro e_ w2 ⟨v2, rfl, hr2, hb2⟩; obtain ⟨A4, cp4, rfl⟩ := Kd.R_slice hr2; rw [List.length_map, show (wr.alloc (.cells #[.int .u8 y.f0, .string y.f1, .int .i64 y.f2, .slice A3 y.f3.length c3'] 24)).heap.size = wr.heap.size + 1 from by simp] at hr2; have HB2' := Aside0.mk hb2; have HR2 := Aside0.mk hr2; have HRa := Aside0.mk (Kd.R_below (Kd.R_alloc (Kd.R_bound HR.out) (.cells #[.int .u8 y.f0, .string y.f1, .int .i64 y.f2, .slice A3 y.f3.length c3'] 24)) hb2); clear hb2 hr2) | ((with_reducible refine gate_builtin (b := .append) (xs := #[.tmp 35, .tmp 39]) rfl ?_); at_builtin; refine Kd.R_append k24 (w0 := w) w.heap.size rfl (.tmp 35) (.tmp 39) 22 24 (.agg #[(.int .u8 0), (.string ⟨#[]⟩), (.int .i64 0), (.slice none 0 0)]) 56 rfl Tryz.underlying22 info24 rfl (by decide) (by omega) (.slice A2 ys.length cp2) ys ⟨y.f0, textT fr tn y, y.f2, y.f3.map (renT fr tn)⟩ [.int .u8 y.f0, .string (textT fr tn y), .int .i64 y.f2, .slice A4 y.f3.length cp4] (fun k => k ≠ w.heap.size ∧ k ≠ w.heap.size + 1) (fun k => wr.heap.size + 1 ≤ k ∧ k < w2.heap.size) rfl ?aX ?aP ?aK ?aF ?aO ?aB ?aS ?aL ?_; (case aX => first | rfl | simp [Act.eval]); (case aP => exact turn_aP HR2.out (by have := HZr.out; omega)); (case aK => exact fun k hk => ⟨⟨by have := HZr.out; omega, by have := HZr.out; omega⟩, fun e => by have := HRa.out.1 k e.symm; omega⟩); (case aF => intro k hk; have := HZr.out; have := HB2'.out.size; have hq : (wr.alloc (.cells #[.int .u8 y.f0, .string y.f1, .int .i64 y.f2, .slice A3 y.f3.length c3'] 24)).heap.size = wr.heap.size + 1 := (by simp); omega); (case aO => exact Kd.R_mono HRa.out (fun k hk => hk.1)); (case aB => exact ((HBl.out.alloc HBl.out.size _).trans (HB2'.out.mono (by have := HBl.out.size; simp; omega)))); (case aS => have := HBl.out.size; have := HB2'.out.size; have hq : (wr.alloc (.cells #[.int .u8 y.f0, .string y.f1, .int .i64 y.f2, .slice A3 y.f3.length c3'] 24)).heap.size = wr.heap.size + 1 := (by simp); omega); (case aL => have := HYl.out; have := HN.out; omega); intro v1 w6 ho hb hg hat; obtain ⟨A5, cp5, rfl⟩ := Kd.R_slice ho; rw [List.length_append, List.length_singleton] at ho; have HO6 := Aside0.mk ho; have HB6 := Aside0.mk hb; have F0 := Aside0.mk (blk_grown (blk_below (blk_alloc HBk.out (.cells #[.int .u8 y.f0, .string y.f1, .int .i64 y.f2, .slice A3 y.f3.length c3'] 24)) HB2'.out) hg (Kd.R_away HRa.out (fun k hk => hk.1.1))); have F1 := Aside0.mk (blk_grown (blk_below (blk_alloc HBk1.out (.cells #[.int .u8 y.f0, .string y.f1, .int .i64 y.f2, .slice A3 y.f3.length c3'] 24)) HB2'.out) hg (Kd.R_away HRa.out (fun k hk => hk.1.2))); clear ho hb hg hat))
          refine ⟨⟨k + 1, by go_num, by omega, F0.out, F1.out, HB6.out, ?_⟩, ?_⟩
          · have e : (x.f3.take (k + 1)).map (renT fr tn) = ys ++ [⟨y.f0, textT fr tn y, y.f2, y.f3.map (renT fr tn)⟩] := by
              rw [List.take_succ_eq_append_getElem hlt, List.map_append, ← HYs.out, List.map_singleton, renT_eq, HY.out, rd_nat hlt]
            rw [e]
            exact HO6.out
          · simp [intOf]; omega
        · have d1 : decide ((k : Int) < (x.f3.length : Int)) = false := decide_eq_false (by omega)
          have d2 : (k < x.f3.length) = False := eq_false hlt
          have c3 := blk_cell hblk 3
          have z3 := blk_frozen hblk 3
          have q0 := blk_put hblk 3 (.slice A2 ys.length cp2) rfl
          have q1 := blk_far (p := ⟨w.heap.size, 3, none⟩) hblk1 (by simp only; omega) (.slice A2 ys.length cp2)
          have p0 := blk_cell q0 0
          have p1 := blk_cell q0 1
          have p2 := blk_cell q0 2
          have p3 := blk_cell q0 3
          have s0 := blk_cell q1 0
          have s1 := blk_cell q1 1
          have s2 := blk_cell q1 2
          have s3 := blk_cell q1 3
          have f0 := blk_frozen q1 0
          have f1 := blk_frozen q1 1
          have f2 := blk_frozen q1 2
          have f3 := blk_frozen q1 3
          have Q1 := Aside0.mk q1
          have HKk := Aside0.mk (by omega : k = x.f3.length)
          clear hblk hblk1 hbel hR hyl hys q0 q1 hlt
          go_wp2
          have e1 := HYs.out
          rw [HKk.out, List.take_length] at e1
          have o5 := four_at Q1.out (.int .u8 x.f0) (.string (textT fr tn x)) (.int .i64 x.f2) (.slice A2 ys.length cp2)
          have g0 := blk_cell o5 0
          have g1 := blk_cell o5 1
          have g2 := blk_cell o5 2
          have g3 := blk_cell o5 3
          unfold four at g0 g1 g2 g3
          refine bodyPost_ret (v := .agg #[.int .u8 x.f0, .string (textT fr tn x), .int .i64 x.f2, .slice A2 ys.length cp2]) ?_ rfl ⟨_, rfl, ?_, ?_⟩
          · simp [results, Tryz.results37, go_sem, g0, g1, g2, g3]
          · rw [← e1]
            exact Kd.R_mono (R_four (Kd.R_far (p := ⟨w.heap.size, 3, none⟩) HR.out (fun j hj => hj.1) (.slice A2 ys.length cp2)) (fun j hj => hj.2) _ _ _ _) (fun _ _ => trivial)
          · exact below_four (HBl.out.setCell (p := ⟨w.heap.size, 3, none⟩) (Nat.le_refl _) _) (Nat.le_succ _) _ _ _ _
end Go.Proofs.YtjapfefiaijfcaaGreatDoor.Q
namespace Go.Proofs.YtjapfefiaijfcaaGreatDoor.Q
open Go.RowKit Go.Proofs.YtjapfefiaijfcaaGreatDoorW.PrintWords Go.Proofs.YtjapfefiaijfcaaGreatDoorW.PrintLast Go.Proofs.YtjapfefiaijfcaaGreatDoorW.PrintMore
set_option linter.unusedVariables false
theorem run_store_func (P : Program) (w : World) (a : Addr) (f : Fn) (bs cs : Array Value) (m : Mode) : (store a (.func f bs cs) m).run P w = stored P w a (.func f bs cs) m := run_store P w a _ m rfl
attribute [local go_sem] run_store_func
/-- What Renamed answers, and its error. -/
def renR (fr tn : List ByteArray) (x : S24) : S24 × Int := if okT x = true then (if fr.length = tn.length then (renT fr tn x, 0) else (⟨0, ⟨#[]⟩, 0, []⟩, 2)) else (⟨0, ⟨#[]⟩, 0, []⟩, 151)
/-- A tree that is answered, with an error. -/
def RenOut (r : S24 × Int) (w : World) (e : Ending) (w' : World) : Prop := ∃ v, e = .returned (.tuple #[.agg #[.int .u8 r.1.f0, .string r.1.f1, .int .i64 r.1.f2, v], .int .i64 r.2]) ∧ Kd.R k24 24 w' w.heap.size (fun _ => True) v r.1.f3 ∧ Below w.heap.size w w'
set_option maxHeartbeats 8000000 in
set_option maxRecDepth 100000 in
theorem lics_Renamed.calls (fr tn : List ByteArray) (hfl : fr.length ≤ 1000) (Af : Option Addr) (cf : Nat) (At : Option Addr) (ct : Nat) (x : S24) (A : Option Addr) (c : Nat) (w : World) (hN : szT x ≤ 2000) (hc : x.f3.length ≤ c) (hC : Kd.C k24 w A x.f3.length x.f3)
    (hF : Kd.C Kd.string w Af fr.length fr) (hT : Kd.C Kd.string w At tn.length tn) (hcf : fr.length ≤ cf) (hct : tn.length ≤ ct) :
    Calls Tryz.prog 21 #[.agg #[.int .u8 x.f0, .string x.f1, .int .i64 x.f2, .slice A x.f3.length c], .slice Af fr.length cf, .slice At tn.length ct] w (RenOut (renR fr tn x) w) := by
  have hck := fun (W : World) (hb : Below w.heap.size w W) => lics_Check.calls 10000 x A c W (by omega) (Nat.le_refl _) hc (Kd.C_below hC hb)
  have HC := Aside0.mk hC
  have HF := Aside0.mk hF
  have HT := Aside0.mk hT
  have HCF := Aside0.mk hcf
  have HCT := Aside0.mk hct
  have HCc := Aside0.mk hc
  have HN := Aside0.mk hN
  have hb4 : ∀ o o1 o2 o3 : Obj, Below w.heap.size w ((((w.alloc o).alloc o1).alloc o2).alloc o3) := fun o o1 o2 o3 => ((((Below.refl _ _).alloc (Nat.le_refl _) o).alloc (by simp) o1).alloc (by simp; omega) o2).alloc (by simp; omega) o3
  have HB4 := Aside0.mk hb4
  have hs4 : ∀ o o1 o2 o3 : Obj, ((((w.alloc o).alloc o1).alloc o2).alloc o3).heap.size = w.heap.size + 4 := fun o o1 o2 o3 => by simp
  have HS4 := Aside0.mk hs4
  cases ho : okT x
  · have he : errT x = 151 := by simp [errT, ho]
    have hr : renR fr tn x = (⟨0, ⟨#[]⟩, 0, []⟩, 151) := by simp [renR, ho]
    rw [hr]
    simp only [he] at hck
    have HCk := Aside0.mk hck
    clear hck hC hF hT hcf hct hc hN hb4 hs4 ho he hr
    go_enter Tryz.func21, Tryz.ntmps21
    go_wp2_with (first | (go_at_call 17; (refine (HCk.out _ (HB4.out _ _ _ _)).mono ?_); rintro e_ w2 ⟨rfl, hb2⟩; have hz := hb2.size; rw [HS4.out] at hz; have q3 := hb2.block (w.heap.size + 1 + 1 + 1) (by rw [HS4.out]; omega); have HB2 := Aside0.mk ((HB4.out _ _ _ _).trans (hb2.mono (HB4.out _ _ _ _).size)); have r3 := q3.trans (blk_new' _ (by simp)); have HR3 := Aside0.mk r3; have HZ := Aside0.mk hz; have c0 := blk_cell r3 0; have c1 := blk_cell r3 1; have c2 := blk_cell r3 2; have c3 := blk_cell r3 3; have z0 := blk_frozen r3 0; have z1 := blk_frozen r3 1; have z2 := blk_frozen r3 2; have z3 := blk_frozen r3 3; clear hz q3 r3 hb2))
    have o5 := four_at HR3.out (.int .u8 0) (.string ⟨#[]⟩) (.int .i64 0) (.slice none 0 0)
    have g0 := blk_cell o5 0
    have g1 := blk_cell o5 1
    have g2 := blk_cell o5 2
    have g3 := blk_cell o5 3
    unfold four at g0 g1 g2 g3
    refine bodyPost_ret (v := .tuple #[.agg #[.int .u8 0, .string ⟨#[]⟩, .int .i64 0, .slice none 0 0], .int .i64 151]) ?_ rfl ⟨_, rfl, Kd.R_nil _ _ _ _ _, below_four HB2.out (by omega) _ _ _ _⟩
    simp [results, Tryz.results21, go_sem, g0, g1, g2, g3]
  · have he : errT x = 0 := by simp [errT, ho]
    simp only [he] at hck
    have HCk := Aside0.mk hck
    by_cases hl : fr.length = tn.length
    · have hr : renR fr tn x = (renT fr tn x, 0) := by simp [renR, ho, hl]
      rw [hr, renT_eq]
      have l1 : ((fr.length : Int) == (tn.length : Int)) = true := beq_iff_eq.mpr (by omega)
      have l2 : (fr.length == tn.length) = true := beq_iff_eq.mpr hl
      have l3 : ((fr.length : Int) != (tn.length : Int)) = false := by rw [bne, l1]; rfl
      have l4 : (fr.length != tn.length) = false := by rw [bne, l2]; rfl
      have HFT := Aside0.mk hl
      clear hck hC hF hT hcf hct hc hN hb4 hs4 ho he hr hl
      go_enter Tryz.func21, Tryz.ntmps21
      go_wp2_with (first | (go_at_call 17; (refine (HCk.out _ (HB4.out _ _ _ _)).mono ?_); rintro e_ w2 ⟨rfl, hb2⟩; have hz := hb2.size; rw [HS4.out] at hz; have q3 := hb2.block (w.heap.size + 1 + 1 + 1) (by rw [HS4.out]; omega); have HB2 := Aside0.mk ((HB4.out _ _ _ _).trans (hb2.mono (HB4.out _ _ _ _).size)); have r3 := q3.trans (blk_new' _ (by simp)); have HR3 := Aside0.mk r3; have HZ := Aside0.mk hz; have c0 := blk_cell r3 0; have c1 := blk_cell r3 1; have c2 := blk_cell r3 2; have c3 := blk_cell r3 3; have z0 := blk_frozen r3 0; have z1 := blk_frozen r3 1; have z2 := blk_frozen r3 2; have z3 := blk_frozen r3 3; have r1 := (hb2.block (w.heap.size + 1) (by rw [HS4.out]; omega)).trans (blk_alloc (blk_alloc (blk_new' _ (by simp)) _) _); have r2 := (hb2.block (w.heap.size + 1 + 1) (by rw [HS4.out]; omega)).trans (blk_alloc (blk_new' _ (by simp)) _); have r0 := (hb2.block w.heap.size (by rw [HS4.out]; omega)).trans (blk_alloc (blk_alloc (blk_alloc (blk_new w _) _) _) _); have HR0 := Aside0.mk r0; have HR1 := Aside0.mk r1; have HR2 := Aside0.mk r2; have s1 := blk_cell r1 0; have s2 := blk_cell r2 0; have t0 := fun o => blk_cell (blk_alloc r0 o) 0; have t1 := fun o => blk_cell (blk_alloc r0 o) 1; have t2 := fun o => blk_cell (blk_alloc r0 o) 2; have t3 := fun o => blk_cell (blk_alloc r0 o) 3; clear r0 r1 r2; clear hz q3 r3 hb2) | (go_at_call 37; (refine (lics_Renamed1.calls fr tn HFT.out hfl (w.heap.size + 1) (w.heap.size + 1 + 1) w2.heap.size Af cf At ct 3000 x A c (w2.alloc (.cells #[.func (.func 37) #[] #[.pointer (some ⟨w.heap.size + 1, 0, none⟩), .pointer (some ⟨w.heap.size + 1 + 1, 0, none⟩), .pointer (some ⟨w2.heap.size, 0, none⟩)]] 27)) (by have := HN.out; omega) (Nat.le_refl _) HCc.out (Kd.C_below HC.out (HB2.out.alloc HB2.out.size _)) ⟨blk_alloc HR1.out _, blk_alloc HR2.out _, blk_new _ _, Kd.C_below HF.out (HB2.out.alloc HB2.out.size _), Kd.C_below HT.out (HB2.out.alloc HB2.out.size _), HCF.out, HCT.out⟩).mono ?_); rintro e_ w4 ⟨v2, rfl, hr, hb3⟩; obtain ⟨A4, cp4, rfl⟩ := Kd.R_slice hr; rw [List.length_map] at hr; have HR4 := Aside0.mk hr; have HB4' := Aside0.mk ((HB2.out.alloc HB2.out.size (.cells #[.func (.func 37) #[] #[.pointer (some ⟨w.heap.size + 1, 0, none⟩), .pointer (some ⟨w.heap.size + 1 + 1, 0, none⟩), .pointer (some ⟨w2.heap.size, 0, none⟩)]] 27)).trans (hb3.mono (by have := HB2.out.size; simp; omega))); have q3 := blk_below (blk_alloc HR3.out (.cells #[.func (.func 37) #[] #[.pointer (some ⟨w.heap.size + 1, 0, none⟩), .pointer (some ⟨w.heap.size + 1 + 1, 0, none⟩), .pointer (some ⟨w2.heap.size, 0, none⟩)]] 27)) hb3; have HQ3 := Aside0.mk q3; have cc0 := blk_cell q3 0; have cc1 := blk_cell q3 1; have cc2 := blk_cell q3 2; have cc3 := blk_cell q3 3; have zz0 := blk_frozen q3 0; have zz1 := blk_frozen q3 1; have zz2 := blk_frozen q3 2; have zz3 := blk_frozen q3 3; clear hr hb3 q3))
      have o5 := four_at HQ3.out (.int .u8 x.f0) (.string (textT fr tn x)) (.int .i64 x.f2) (.slice A4 x.f3.length cp4)
      have g0 := blk_cell o5 0
      have g1 := blk_cell o5 1
      have g2 := blk_cell o5 2
      have g3 := blk_cell o5 3
      unfold four at g0 g1 g2 g3
      have hz := HZ.out
      have zO : (w2.alloc (.cells #[.func (.func 37) #[] #[.pointer (some ⟨w.heap.size + 1, 0, none⟩), .pointer (some ⟨w.heap.size + 1 + 1, 0, none⟩), .pointer (some ⟨w2.heap.size, 0, none⟩)]] 27)).heap.size = w2.heap.size + 1 := by simp
      have hr := HR4.out
      rw [zO] at hr
      have hr2 := Kd.R_lower (Kd.R_mono (Kd.R_bound hr) (fun k hk => (by have := hk.2.1; omega : k ≠ w.heap.size + 1 + 1 + 1))) (by omega : w.heap.size ≤ w2.heap.size + 1)
      refine bodyPost_ret (v := .tuple #[.agg #[.int .u8 x.f0, .string (textT fr tn x), .int .i64 x.f2, .slice A4 x.f3.length cp4], .int .i64 0]) ?_ rfl ⟨_, rfl, Kd.R_mono (R_four hr2 (fun k hk => hk) _ _ _ _) (fun _ _ => trivial), below_four HB4'.out (by omega) _ _ _ _⟩
      simp [results, Tryz.results21, go_sem, g0, g1, g2, g3]
    · have hr : renR fr tn x = (⟨0, ⟨#[]⟩, 0, []⟩, 2) := by simp [renR, ho, hl]
      rw [hr]
      have l1 : ((fr.length : Int) == (tn.length : Int)) = false := beq_eq_false_iff_ne.mpr (by omega)
      have l2 : (fr.length == tn.length) = false := beq_eq_false_iff_ne.mpr hl
      have l3 : ((fr.length : Int) != (tn.length : Int)) = true := by rw [bne, l1]; rfl
      have l4 : (fr.length != tn.length) = true := by rw [bne, l2]; rfl
      clear hck hC hF hT hcf hct hc hN hb4 hs4 ho he hr hl
      go_enter Tryz.func21, Tryz.ntmps21
      go_wp2_with (first | (go_at_call 17; (refine (HCk.out _ (HB4.out _ _ _ _)).mono ?_); rintro e_ w2 ⟨rfl, hb2⟩; have hz := hb2.size; rw [HS4.out] at hz; have q3 := hb2.block (w.heap.size + 1 + 1 + 1) (by rw [HS4.out]; omega); have HB2 := Aside0.mk ((HB4.out _ _ _ _).trans (hb2.mono (HB4.out _ _ _ _).size)); have r3 := q3.trans (blk_new' _ (by simp)); have HR3 := Aside0.mk r3; have HZ := Aside0.mk hz; have c0 := blk_cell r3 0; have c1 := blk_cell r3 1; have c2 := blk_cell r3 2; have c3 := blk_cell r3 3; have z0 := blk_frozen r3 0; have z1 := blk_frozen r3 1; have z2 := blk_frozen r3 2; have z3 := blk_frozen r3 3; have r1 := (hb2.block (w.heap.size + 1) (by rw [HS4.out]; omega)).trans (blk_alloc (blk_alloc (blk_new' _ (by simp)) _) _); have r2 := (hb2.block (w.heap.size + 1 + 1) (by rw [HS4.out]; omega)).trans (blk_alloc (blk_new' _ (by simp)) _); have r0 := (hb2.block w.heap.size (by rw [HS4.out]; omega)).trans (blk_alloc (blk_alloc (blk_alloc (blk_new w _) _) _) _); have HR0 := Aside0.mk r0; have HR1 := Aside0.mk r1; have HR2 := Aside0.mk r2; have s1 := blk_cell r1 0; have s2 := blk_cell r2 0; clear r0 r1 r2; clear hz q3 r3 hb2))
      have o5 := four_at HR3.out (.int .u8 0) (.string ⟨#[]⟩) (.int .i64 0) (.slice none 0 0)
      have g0 := blk_cell o5 0
      have g1 := blk_cell o5 1
      have g2 := blk_cell o5 2
      have g3 := blk_cell o5 3
      unfold four at g0 g1 g2 g3
      refine bodyPost_ret (v := .tuple #[.agg #[.int .u8 0, .string ⟨#[]⟩, .int .i64 0, .slice none 0 0], .int .i64 2]) ?_ rfl ⟨_, rfl, Kd.R_nil _ _ _ _ _, below_four HB2.out (by omega) _ _ _ _⟩
      simp [results, Tryz.results21, go_sem, g0, g1, g2, g3]
end Go.Proofs.YtjapfefiaijfcaaGreatDoor.Q
namespace Go.Proofs.YtjapfefiaijfcaaGreatDoor.Q
open Go.RowKit Go.Proofs.YtjapfefiaijfcaaGreatDoorW.PrintWords Go.Proofs.YtjapfefiaijfcaaGreatDoorW.PrintLast Go.Proofs.YtjapfefiaijfcaaGreatDoorW.PrintMore
set_option linter.unusedVariables false
theorem sum_take_succ (l : List S24) (j : Nat) (h : j < l.length) : ((l.take (j + 1)).map szT).sum = ((l.take j).map szT).sum + szT l[j] := by
  rw [List.take_succ_eq_append_getElem h, List.map_append, List.sum_append]; simp
theorem len_le_sum (l : List S24) (j : Nat) (h : j ≤ l.length) : j ≤ ((l.take j).map szT).sum := by
  induction j with
  | zero => omega
  | succ j ih =>
    rw [sum_take_succ l j (by omega)]
    have := ih (by omega)
    have := szT_pos l[j]
    omega
theorem sum_take_le (l : List S24) (j d : Nat) (h : j + d = l.length) : ((l.take j).map szT).sum ≤ (l.map szT).sum := by
  have e : l.map szT = (l.take j).map szT ++ (l.drop j).map szT := by rw [← List.map_append, List.take_append_drop]
  rw [e, List.sum_append]; omega
theorem size_some (N : Nat) : ∀ x : S24, szT x < N → ∃ K, ∀ most : Nat, most ≤ 2000 → ∀ k, K ≤ k → vouchref16_Size.f k x.f0 x.f1 x.f2 x.f3 (most : Int) = some ((min (szT x) (most + 1) : Nat) : Int) := by
  induction N with
  | zero => exact fun x h => absurd h (Nat.not_lt_zero _)
  | succ N ih =>
    intro x hN
    obtain ⟨K, hK⟩ := Kd.bounded (P := fun n j => j < x.f3.length → ∀ most : Nat, most ≤ 2000 → ∀ k, n ≤ k → vouchref16_Size.f k (rd_T24 x.f3 (j : Int)).f0 (rd_T24 x.f3 (j : Int)).f1 (rd_T24 x.f3 (j : Int)).f2 (rd_T24 x.f3 (j : Int)).f3 (most : Int) = some ((min (szT (rd_T24 x.f3 (j : Int))) (most + 1) : Nat) : Int)) (fun n m j hnm h hj most hm k hk => h hj most hm k (by omega)) x.f3.length (fun j hj => by
      have hmem : rd_T24 x.f3 (j : Int) ∈ x.f3 := by rw [rd_nat hj]; exact List.getElem_mem hj
      have := szT_mem hmem
      obtain ⟨K, h⟩ := ih _ (by omega : szT (rd_T24 x.f3 (j : Int)) < N)
      exact ⟨K, fun _ => h⟩)
    refine ⟨K + x.f3.length + 10, fun most hm => ?_⟩
    have hloop : ∀ d j, j + d = x.f3.length → ∀ k, K + d + 1 ≤ k → vouchref16_Size.l0 k (most : Int) ((min (1 + ((x.f3.take j).map szT).sum) (most + 1) : Nat) : Int) (j : Int) x.f0 x.f1 x.f2 x.f3 = some ((min (szT x) (most + 1) : Nat) : Int) := by
      intro d
      induction d with
      | zero =>
        intro j hj k hk
        obtain ⟨k, rfl⟩ : ∃ k', k = k' + 1 := ⟨k - 1, by omega⟩
        unfold vouchref16_Size.l0
        rw [if_neg (by omega), szT_eq, List.take_of_length_le (by omega)]
      | succ d ihd =>
        intro j hj k hk
        obtain ⟨k, rfl⟩ : ∃ k', k = k' + 1 := ⟨k - 1, by omega⟩
        have hlt : j < x.f3.length := by omega
        have h1 := len_le_sum x.f3 j (by omega)
        have h2 := sum_take_le x.f3 j (d + 1) hj
        have h3 := sum_take_succ x.f3 j hlt
        have h4 := szT_eq x
        unfold vouchref16_Size.l0
        rw [if_pos (by omega)]
        by_cases hle : 1 + ((x.f3.take j).map szT).sum ≤ most
        · rw [if_pos (by omega), if_pos (by omega), IntWalk.wrap64_in _ (by omega)]
          rw [show (most : Int) - ((min (1 + ((x.f3.take j).map szT).sum) (most + 1) : Nat) : Int) = ((most - (1 + ((x.f3.take j).map szT).sum) : Nat) : Int) from by omega]
          rw [hK j hlt hlt _ (by omega) k (by omega), Option.bind_some, rd_nat hlt, IntWalk.wrap64_in _ (by omega), IntWalk.wrap64_in _ (by omega)]
          have q := ihd (j + 1) (by omega) k (by omega)
          rw [h3] at q
          rw [← q]
          congr 1
          omega
        · rw [if_neg (by omega)]
          congr 1
          omega
    intro k hk
    obtain ⟨k, rfl⟩ : ∃ k', k = k' + 1 := ⟨k - 1, by omega⟩
    unfold vouchref16_Size.f
    have q := hloop x.f3.length 0 (by omega) k (by omega)
    rw [← q]
    congr 1
/-- a tree of at most 2000 parts, lists of at most 1000: what few answers. -/
theorem few_some (x : S24) (a b : Nat) : ∃ k, vouchlaw16_few.f k x.f0 x.f1 x.f2 x.f3 (a : Int) (b : Int) = some (decide (szT x ≤ 2000) && (decide (a ≤ 1000) && decide (b ≤ 1000))) := by
  obtain ⟨K, hK⟩ := size_some (szT x + 1) x (by omega)
  refine ⟨K, ?_⟩
  unfold vouchlaw16_few.f
  have q := hK 2000 (Nat.le_refl _) K (Nat.le_refl _)
  rw [show ((2000 : Nat) : Int) = 2000 from rfl] at q
  rw [q, Option.bind_some]
  by_cases h : szT x ≤ 2000
  · rw [if_pos (by omega), decide_eq_true h]
    by_cases ha : a ≤ 1000
    · rw [if_pos (by omega), decide_eq_true ha]
      simp only [Bool.true_and]
      congr 1
      by_cases hb : b ≤ 1000
      · rw [decide_eq_true hb, decide_eq_true (by omega : (b : Int) ≤ 1000)]
      · rw [decide_eq_false hb, decide_eq_false (by omega : ¬ (b : Int) ≤ 1000)]
    · rw [if_neg (by omega), decide_eq_false ha]; rfl
  · rw [if_neg (by omega), decide_eq_false h]; rfl
end Go.Proofs.YtjapfefiaijfcaaGreatDoor.Q
namespace Go.Proofs.YtjapfefiaijfcaaGreatDoor.Q
open Go.RowKit Go.Proofs.YtjapfefiaijfcaaGreatDoorW.PrintWords Go.Proofs.YtjapfefiaijfcaaGreatDoorW.PrintLast Go.Proofs.YtjapfefiaijfcaaGreatDoorW.PrintMore
set_option linter.unusedVariables false
theorem szT_ren (fr tn : List ByteArray) (N : Nat) : ∀ x : S24, szT x < N → szT (renT fr tn x) = szT x := by
  induction N with
  | zero => exact fun x h => absurd h (Nat.not_lt_zero _)
  | succ N ih =>
    intro x hN
    rw [renT_eq, szT_eq, szT_eq x]
    congr 2
    simp only [List.map_map]
    refine List.map_congr_left (fun y hy => ?_)
    have := szT_mem hy
    exact ih y (by omega)
theorem same_some (N : Nat) : ∀ x : S24, szT x < N → N ≤ 3000 → ∃ K, ∀ k, K ≤ k → vouchref16_Same.f k x.f0 x.f1 x.f2 x.f3 x.f0 x.f1 x.f2 x.f3 = some true := by
  induction N with
  | zero => exact fun x h => absurd h (Nat.not_lt_zero _)
  | succ N ih =>
    intro x hN hN2
    have hlen := szT_len x
    obtain ⟨K, hK⟩ := Kd.bounded (P := fun n j => j < x.f3.length → ∀ k, n ≤ k → vouchref16_Same.f k (rd_T24 x.f3 (j : Int)).f0 (rd_T24 x.f3 (j : Int)).f1 (rd_T24 x.f3 (j : Int)).f2 (rd_T24 x.f3 (j : Int)).f3 (rd_T24 x.f3 (j : Int)).f0 (rd_T24 x.f3 (j : Int)).f1 (rd_T24 x.f3 (j : Int)).f2 (rd_T24 x.f3 (j : Int)).f3 = some true) (fun n m j hnm h hj k hk => h hj k (by omega)) x.f3.length (fun j hj => by
      have hmem : rd_T24 x.f3 (j : Int) ∈ x.f3 := by rw [rd_nat hj]; exact List.getElem_mem hj
      have := szT_mem hmem
      obtain ⟨K, h⟩ := ih _ (by omega : szT (rd_T24 x.f3 (j : Int)) < N) (by omega)
      exact ⟨K, fun _ => h⟩)
    have hloop : ∀ d j, j + d = x.f3.length → ∀ k, K + d + 1 ≤ k → vouchref16_Same.l0 k (j : Int) x.f0 x.f1 x.f2 x.f3 x.f0 x.f1 x.f2 x.f3 = some true := by
      intro d
      induction d with
      | zero =>
        intro j hj k hk
        obtain ⟨k, rfl⟩ : ∃ k', k = k' + 1 := ⟨k - 1, by omega⟩
        unfold vouchref16_Same.l0
        rw [if_neg (by omega)]
      | succ d ihd =>
        intro j hj k hk
        obtain ⟨k, rfl⟩ : ∃ k', k = k' + 1 := ⟨k - 1, by omega⟩
        have hlt : j < x.f3.length := by omega
        unfold vouchref16_Same.l0
        rw [if_pos (by omega), if_pos (by omega), if_pos (by omega), hK j hlt hlt k (by omega), Option.bind_some, if_pos rfl, IntWalk.wrap64_in _ (by omega)]
        exact ihd (j + 1) (by omega) k (by omega)
    refine ⟨K + x.f3.length + 10, fun k hk => ?_⟩
    obtain ⟨k, rfl⟩ : ∃ k', k = k' + 2 := ⟨k - 2, by omega⟩
    unfold vouchref16_Same.f
    rw [if_pos rfl, if_pos rfl, if_pos rfl]
    unfold vouchref16_Same.j0
    rw [if_neg (by simp)]
    exact hloop x.f3.length 0 (by omega) k (by omega)
end Go.Proofs.YtjapfefiaijfcaaGreatDoor.Q
