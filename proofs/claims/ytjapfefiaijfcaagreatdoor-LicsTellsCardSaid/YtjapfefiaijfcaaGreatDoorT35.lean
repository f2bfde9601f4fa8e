/- The contract of the reference's Principals. -/
import Derived.Test.YtjapfefiaijfcaaGreatDoorT33
import Derived.Deep.CutRange
import Derived.Deep.CutBlock
import Derived.Test.YtjapfefiaijfcaaGreatDoorT16
namespace Go.Proofs.YtjapfefiaijfcaaGreatDoor.Q
open Go.RowKit Go.Proofs.YtjapfefiaijfcaaGreatDoorW.PrintWords Go.Proofs.YtjapfefiaijfcaaGreatDoorW.PrintLast Go.Proofs.YtjapfefiaijfcaaGreatDoorW.PrintMore
set_option linter.unusedVariables false
/-- What a call leaves that puts texts into a row that is handed on. -/
structure PrinAt (w0 w : World) (P0 : Nat → Prop) (ys : List ByteArray) (w' : World) (v : Value) : Prop where
  row : Kd.R Kd.string 9 w' w0.heap.size (fun k => P0 k ∨ w.heap.size ≤ k) v ys
  below : Below w0.heap.size w0 w'
  kept : Kept w w' P0
def PrinPost (w0 w : World) (P0 : Nat → Prop) (ys : List ByteArray) (e : Ending) (w' : World) : Prop := ∃ v, e = .returned v ∧ PrinAt w0 w P0 ys w' v
theorem PrinAt.trans {w0 w w1 w2 : World} {P0 P1 : Nat → Prop} {ys zs : List ByteArray} {v1 v2 : Value} (h : PrinAt w0 w P0 ys w1 v1) (hp : ∀ k, P1 k → P0 k ∨ w.heap.size ≤ k) (k : PrinAt w0 w1 P1 zs w2 v2) : PrinAt w0 w P0 zs w2 v2 :=
  ⟨Kd.R_mono k.row (fun j hj => hj.elim (hp j) (fun h2 => .inr (Nat.le_trans h.kept.1 h2))), k.below, h.kept.then_ k.kept (fun j hj => hp j hj)⟩
theorem PrinAt.start {w0 w : World} {P0 : Nat → Prop} {xs : List ByteArray} {u : Value} (hb : Below w0.heap.size w0 w) (hR : Kd.R Kd.string 9 w w0.heap.size P0 u xs) (o : Obj) : PrinAt w0 w P0 xs (w.alloc o) u :=
  ⟨Kd.R_alloc (Kd.R_mono hR (fun k hk => .inl hk)) o, hb.alloc hb.size o, (Kept.refl w P0).alloc o⟩
set_option maxHeartbeats 8000000 in
set_option maxRecDepth 100000 in
theorem vouchref16_principals.calls (w0 : World) (N : Nat) : ∀ (x : S24) (A : Option Addr) (c : Nat) (P0 : Nat → Prop) (u : Value) (xs : List ByteArray) (w : World), szT x < N → N ≤ 10000 → x.f3.length ≤ c → Kd.C k24 w0 A x.f3.length x.f3 → Below w0.heap.size w0 w →
    Kd.R Kd.string 9 w w0.heap.size P0 u xs → xs.length + szT x ≤ 20000 →
    Calls Tryz.prog 28 #[u, .agg #[.int .u8 x.f0, .string x.f1, .int .i64 x.f2, .slice A x.f3.length c]] w (PrinPost w0 w P0 (insAll xs (leaves x))) := by
  induction N with
  | zero => exact fun x A c P0 u xs w h => absurd h (Nat.not_lt_zero _)
  | succ N ih =>
    intro x A c P0 u xs w hN hN2 hc hC hb hR hl
    have hlen := szT_len x
    have HO := Aside0.mk (fun o => PrinAt.start hb hR o)
    have HRb := Aside0.mk (fun o : Obj => Kd.R_alloc (Kd.R_mono (Kd.R_bound hR) (fun k hk => (⟨Nat.ne_of_lt hk.2.2.1, .inl hk.1⟩ : k ≠ w.heap.size ∧ (P0 k ∨ w.heap.size ≤ k)))) o)
    have HC := Aside0.mk hC
    have IH := Aside0.mk ih
    have HN := Aside0.mk hN
    have HL := Aside0.mk hl
    clear ih hC hN hb hR hl
    go_enter Tryz.func28, Tryz.ntmps28
    go_upto_if 8 with (fail)
    go_cut [0] (fun s wc => PrinAt w0 w P0 (insAll xs (headL x)) wc s ∧ Kd.R Kd.string 9 wc w0.heap.size (fun k => k ≠ w.heap.size ∧ (P0 k ∨ w.heap.size ≤ k)) s (insAll xs (headL x)) ∧ wc.heap[w.heap.size]? = some (.cells #[.int .u8 x.f0, .string x.f1, .int .i64 x.f2, .slice A x.f3.length c] 24 (0, 0)))
    case first =>
      have hbx := blk_new w (.cells #[.int .u8 x.f0, .string x.f1, .int .i64 x.f2, .slice A x.f3.length c] 24 (0, 0))
      have HBx := Aside0.mk hbx
      have l1 := blk_cell hbx 1
      clear hbx
      by_cases h1 : x.f0 = 1
      · have e1 : (x.f0 == 1) = true := by simp [h1]
        have HH : Aside0 (headL x = [x.f1]) := ⟨by unfold headL; rw [if_pos h1]⟩
        clear h1
        go_wp2_with (first | (go_at_call 53; (with_reducible refine (vouchref16_with.calls (2 * xs.length + 6) (fun k => k ≠ w.heap.size ∧ (P0 k ∨ w.heap.size ≤ k)) u xs x.f1 (insS x.f1 xs) w0 _ (HO.out _).below (HRb.out _) (with_some x.f1 xs (by have := HL.out; omega))).mono ?_); rintro e_ w1 ⟨v1, rfl, hr1, hb1, hk1⟩; have HR1 := Aside0.mk hr1; have HB1 := Aside0.mk hb1; have HK1 := Aside0.mk hk1; clear hr1 hb1 hk1))
        go_meet
        case rel =>
          rw [HH.out]
          exact ⟨(HO.out _).trans (fun k hk => hk.2) ⟨HR1.out, HB1.out, HK1.out⟩, Kd.R_mono HR1.out (fun k hk => hk.elim id (fun h2 => ⟨by simp at h2; omega, .inr (by simp at h2; omega)⟩)), blk_kept HBx.out HK1.out (fun h => h.1 rfl)⟩
      · have e1 : (x.f0 == 1) = false := by simp [h1]
        have HH : Aside0 (headL x = []) := ⟨by unfold headL; rw [if_neg h1]⟩
        clear h1
        go_wp2
        go_meet
        case rel =>
          rw [HH.out]
          exact ⟨HO.out _, HRb.out _, HBx.out⟩
    case rest =>
      obtain ⟨ho, hr, hbx⟩ := hcut
      have HO1 := Aside0.mk ho
      have HR1 := Aside0.mk hr
      have HBx := Aside0.mk hbx
      clear ho hr hbx HO HRb
      go_wp2
      go_loopw [0, 5] (fun s i wr => ∃ (k : Nat), i = .int .i64 k ∧ k ≤ x.f3.length ∧ PrinAt w0 w P0 (insAll xs (headL x ++ ((x.f3.take k).map leaves).flatten)) wr s ∧ Kd.R Kd.string 9 wr w0.heap.size (fun k => k ≠ w.heap.size ∧ (P0 k ∨ w.heap.size ≤ k)) s (insAll xs (headL x ++ ((x.f3.take k).map leaves).flatten)) ∧ wr.heap[w.heap.size]? = some (.cells #[.int .u8 x.f0, .string x.f1, .int .i64 x.f2, .slice A x.f3.length c] 24 (0, 0))) (fun _ i wr => x.f3.length - (intOf i).toNat)
      case atStart => exact ⟨0, rfl, Nat.zero_le _, by simpa using HO1.out, by simpa using HR1.out, HBx.out⟩
      case round =>
        obtain ⟨k, rfl, hk, ho, hr, hbx⟩ := hrel
        have HO2 := Aside0.mk ho
        have HR2 := Aside0.mk hr
        have HBx2 := Aside0.mk hbx
        have l3 := blk_cell hbx 3
        have hbs := blk_lt hbx
        have HBs := Aside0.mk hbs
        clear ho hr hbx hbs
        by_cases hlt : k < x.f3.length
        · have d1 : decide ((k : Int) < (x.f3.length : Int)) = true := decide_eq_true (by omega)
          have d2 : (k < x.f3.length) = True := eq_true hlt
          have d3 : ((k : Int) < (x.f3.length : Int)) = True := eq_true (by omega)
          have d4 : (0 ≤ (k : Int)) = True := eq_true (by omega)
          have q4 : IntKind.i64.wrap ((k : Int) + 1) = (k : Int) + 1 := IntWalk.i64_in _ (by have := HN.out; omega)
          obtain ⟨ad, A3, c3', e0, k0, k1, k2, k3, k4, k5⟩ := at_T24 HC.out (k : Int) (by omega) (by omega)
          subst e0
          rw [Int.toNat_natCast] at k0 k1 k2 k3
          replace k0 := pw_cell_below HO2.out.below k0
          replace k1 := pw_cell_below HO2.out.below k1
          replace k2 := pw_cell_below HO2.out.below k2
          replace k3 := pw_cell_below HO2.out.below k3
          have hmem : rd_T24 x.f3 (k : Int) ∈ x.f3 := by rw [rd_nat hlt]; exact List.getElem_mem hlt
          have hsz := szT_mem hmem
          have hy0 : ((x.f3.take (k + 1)).map leaves).flatten = ((x.f3.take k).map leaves).flatten ++ leaves (rd_T24 x.f3 (k : Int)) := by
            rw [List.take_succ_eq_append_getElem hlt, List.map_append, List.flatten_append, rd_nat hlt]; simp
          have hyl : (insAll xs (headL x ++ ((x.f3.take k).map leaves).flatten)).length + szT (rd_T24 x.f3 (k : Int)) ≤ 20000 := by
            have q := HL.out
            have q0 := insAll_len (headL x ++ ((x.f3.take k).map leaves).flatten) xs
            have q1 := headL_len x
            have q2 := szT_eq x
            have q3 : (((x.f3.take k).map leaves).flatten).length ≤ ((x.f3.take k).map szT).sum := by
              have h2 : ∀ l : List S24, (l.map leaves).flatten.length ≤ (l.map szT).sum := by
                intro l
                induction l with
                | nil => simp
                | cons a l ihl =>
                  rw [List.map_cons, List.map_cons, List.sum_cons, List.flatten_cons, List.length_append]
                  have := leaves_len (szT a + 1) a (Nat.lt_succ_self _)
                  omega
              exact h2 _
            have q4 : ((x.f3.take k).map szT).sum + szT (rd_T24 x.f3 (k : Int)) ≤ (x.f3.map szT).sum := by
              have e : x.f3 = x.f3.take k ++ (x.f3[k] :: x.f3.drop (k + 1)) := by rw [List.getElem_cons_drop, List.take_append_drop]
              rw [rd_nat hlt]
              have e2 := congrArg (fun l => (l.map szT).sum) e
              simp only [List.map_append, List.map_cons, List.sum_append, List.sum_cons] at e2
              omega
            rw [List.length_append] at q0
            omega
          obtain ⟨y, hy⟩ : ∃ y, y = rd_T24 x.f3 (k : Int) := ⟨_, rfl⟩
          rw [← hy] at k0 k1 k2 k3 k4 k5 hsz hy0 hyl
          have HCall := Aside0.mk (IH.out y A3 c3' _ _ _ wr (by have := HN.out; omega) (by omega) k4 k5 HO2.out.below HR2.out hyl)
          have HY0 := Aside0.mk hy0
          clear k4 k5 hsz hy0 hyl hy hmem
          go_wp2_with (first | (go_at_call 28; (with_reducible refine (HCall.out).mono ?_); rintro e_ w3 ⟨v3, rfl, ho⟩; have HO3 := Aside0.mk ho; clear ho))
          have ea : insAll xs (headL x ++ ((x.f3.take (k + 1)).map leaves).flatten) = insAll (insAll xs (headL x ++ ((x.f3.take k).map leaves).flatten)) (leaves y) := by
            rw [HY0.out, ← List.append_assoc, insAll_append]
          refine ⟨⟨k + 1, by go_num, by omega, ?_, ?_, ?_⟩, ?_⟩
          · rw [ea]; exact HO2.out.trans (fun _ h => h.2) HO3.out
          · rw [ea]; exact Kd.R_mono HO3.out.row (fun j hj => hj.elim id (fun h2 => ⟨by have := HBs.out; omega, .inr (by have := HBs.out; omega)⟩))
          · exact blk_kept HBx2.out HO3.out.kept (fun h => h.1 rfl)
          · simp [intOf]; omega
        · have d1 : decide ((k : Int) < (x.f3.length : Int)) = false := decide_eq_false (by omega)
          have d2 : (k < x.f3.length) = False := eq_false hlt
          have hkk : k = x.f3.length := by omega
          subst hkk
          clear hlt hk
          go_wp2
          go_ret
          refine ⟨_, rfl, ?_⟩
          have e := HO2.out
          rw [List.take_length, ← leaves_eq] at e
          exact e
/-- Texts that are answered, with an error. -/
def TextsOut (r : List ByteArray × Int) (w : World) (e : Ending) (w' : World) : Prop := ∃ v, e = .returned (.tuple #[v, .int .i64 r.2]) ∧ Kd.R Kd.string 9 w' w.heap.size (fun _ => True) v r.1 ∧ Below w.heap.size w w'
def prinR (x : S24) : List ByteArray × Int := if okT x = true then (prinB x, 0) else ([], 151)
set_option maxHeartbeats 8000000 in
set_option maxRecDepth 100000 in
theorem vouchref16_Principals.calls (x : S24) (A : Option Addr) (c : Nat) (w : World) (hN : szT x ≤ 9000) (hc : x.f3.length ≤ c) (hC : Kd.C k24 w A x.f3.length x.f3) :
    Calls Tryz.prog 14 #[.agg #[.int .u8 x.f0, .string x.f1, .int .i64 x.f2, .slice A x.f3.length c]] w (TextsOut (prinR x) w) := by
  have hck := fun (W : World) (hb : Below w.heap.size w W) => vouchref16_Check.calls 10000 x A c W (by omega) (Nat.le_refl _) hc (Kd.C_below hC hb)
  have HC := Aside0.mk hC
  have Hc := Aside0.mk hc
  have HN := Aside0.mk hN
  have HCk := Aside0.mk hck
  have hb : ∀ o : Obj, Below w.heap.size w (w.alloc o) := fun o => (Below.refl _ _).alloc (Nat.le_refl _) o
  have HB := Aside0.mk hb
  have HNew := Aside0.mk (fun o : Obj => blk_new w o)
  clear hck hC hc hN hb
  by_cases h : okT x = true
  · have hr : prinR x = (prinB x, 0) := by unfold prinR; rw [if_pos h]
    have he : errT x = 0 := by unfold errT; rw [if_pos h]
    rw [he] at HCk
    have HR := Aside0.mk hr
    clear hr he h
    go_enter Tryz.func14, Tryz.ntmps14
    go_wp2_with (first | (go_at_call 18; (with_reducible refine (HCk.out _ (HB.out _)).mono ?_); rintro e_ w1 ⟨rfl, hb1⟩; have HB1 := Aside0.mk (below_step (HB.out _) hb1); have BL1 := Aside0.mk (blk_below (HNew.out _) hb1); clear hb1; have l0 := blk_cell BL1.out 0; have l1 := blk_cell BL1.out 1; have l2 := blk_cell BL1.out 2; have l3 := blk_cell BL1.out 3) | (go_at_call 28; (with_reducible refine (vouchref16_principals.calls w 10000 x A c (fun _ => True) (.slice none 0 0) [] w1 (Nat.lt_of_le_of_lt HN.out (by decide)) (Nat.le_refl _) Hc.out HC.out HB1.out (Kd.R_nil _ _ _ _ _) (by have := HN.out; simp; omega)).mono ?_); rintro e_ w2 ⟨v2, rfl, ho⟩; have HO2 := Aside0.mk ho; clear ho))
    go_ret2
    refine ⟨v2, by rw [HR.out]; rfl, ?_, HO2.out.below⟩
    rw [HR.out]
    have e := Kd.R_mono HO2.out.row (fun _ _ => trivial)
    rw [insAll_prinB] at e
    exact e
  · have hr : prinR x = ([], 151) := by unfold prinR; rw [if_neg h]
    have he : errT x = 151 := by unfold errT; rw [if_neg h]
    rw [he] at HCk
    have HR := Aside0.mk hr
    clear hr he h
    go_enter Tryz.func14, Tryz.ntmps14
    go_wp2_with (first | (go_at_call 18; (with_reducible refine (HCk.out _ (HB.out _)).mono ?_); rintro e_ w1 ⟨rfl, hb1⟩; have HB1 := Aside0.mk (below_step (HB.out _) hb1); have BL1 := Aside0.mk (blk_below (HNew.out _) hb1); clear hb1; have l0 := blk_cell BL1.out 0; have l1 := blk_cell BL1.out 1; have l2 := blk_cell BL1.out 2; have l3 := blk_cell BL1.out 3))
    go_ret2
    refine ⟨.slice none 0 0, by rw [HR.out]; rfl, ?_, HB1.out⟩
    rw [HR.out]
    exact Kd.R_nil _ _ _ _ _
end Go.Proofs.YtjapfefiaijfcaaGreatDoor.Q
