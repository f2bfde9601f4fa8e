/- The contract of KeptLic. -/
import Derived.Test.YtjapfefiaijfcaaGreatDoorQx0
import Derived.Test.YtjapfefiaijfcaaGreatDoorT20
import Derived.Test.YtjapfefiaijfcaaGreatDoorT23
import Derived.BigRegion
namespace Go.Proofs.YtjapfefiaijfcaaGreatDoor.Q
open Go.RowKit Go.Proofs.YtjapfefiaijfcaaGreatDoorW.PrintWords Go.Proofs.YtjapfefiaijfcaaGreatDoorW.PrintLast Go.Proofs.YtjapfefiaijfcaaGreatDoorW.PrintMore
set_option linter.unusedVariables false
theorem mark_at {w : World} {ad : Addr} {xs : List S24} (h : (optk km).C w (some ad) (xs.length + 1) (xs.map some ++ [none])) : w.cell? (ad.add (xs.length * 4)) = some (.int .u8 77) := by
  obtain ⟨h1, h2, h3⟩ := h
  obtain ⟨ad', e, hc⟩ := h3 (by omega)
  cases e
  obtain ⟨c, c1, c2, c3⟩ := hc xs.length none (by simp)
  obtain ⟨rfl, -⟩ := c2
  exact c3 0 _ rfl
theorem km_at {w : World} {ad : Addr} {xs : List S24} (h : (optk km).C w (some ad) (xs.length + 1) (xs.map some ++ [none])) (k : Nat) (hk : k < xs.length) : ∃ ad' c', w.cell? (ad.add (k * 4)) = some (.int .u8 xs[k].f0) ∧ w.cell? ⟨(ad.add (k * 4)).block, (ad.add (k * 4)).off + 1, none⟩ = some (.string xs[k].f1) ∧ w.cell? ⟨(ad.add (k * 4)).block, (ad.add (k * 4)).off + 2, none⟩ = some (.int .i64 xs[k].f2) ∧ w.cell? ⟨(ad.add (k * 4)).block, (ad.add (k * 4)).off + 3, none⟩ = some (.slice (some ad') xs[k].f3.length c') ∧ xs[k].f3.length + 1 ≤ c' ∧ (optk km).C w (some ad') (xs[k].f3.length + 1) (xs[k].f3.map some ++ [none]) := by
  obtain ⟨h1, h2, h3⟩ := h
  obtain ⟨ad0, e, hc0⟩ := h3 (by omega)
  cases e
  obtain ⟨c, c1, c2, c3⟩ := hc0 k (some xs[k]) (by rw [List.getElem?_append_left (by simpa using hk), List.getElem?_map, List.getElem?_eq_getElem hk]; rfl)
  obtain ⟨ad', c', rfl, l, g⟩ := km_open (c2 : km.K w xs[k] c)
  have hc : ∀ j u, [Value.int .u8 xs[k].f0, .string xs[k].f1, .int .i64 xs[k].f2, .slice (some ad') xs[k].f3.length c'][j]? = some u → w.cell? (ad.add (k * 4 + j)) = some u := c3
  exact ⟨ad', c', hc 0 _ rfl, by rw [← add_field _ _ 1 (by omega)]; exact hc 1 _ rfl, by rw [← add_field _ _ 2 (by omega)]; exact hc 2 _ rfl, by rw [← add_field _ _ 3 (by omega)]; exact hc 3 _ rfl, l, g⟩
set_option maxHeartbeats 8000000 in
set_option maxRecDepth 100000 in
theorem vouchkit_KeptLic.calls (N : Nat) : ∀ (x : S24) (ad : Addr) (c : Nat) (A : Option Addr) (c2 : Nat) (w : World), szT x < N → N ≤ 3000 → x.f3.length + 1 ≤ c → (optk km).C w (some ad) (x.f3.length + 1) (x.f3.map some ++ [none]) → x.f3.length ≤ c2 → Kd.C k24 w A x.f3.length x.f3 →
    Calls Tryz.prog 11 #[.agg #[.int .u8 x.f0, .string x.f1, .int .i64 x.f2, .slice (some ad) x.f3.length c], .agg #[.int .u8 x.f0, .string x.f1, .int .i64 x.f2, .slice A x.f3.length c2]] w fun e w' => e = .returned (.bool true) ∧ Below w.heap.size w w' := by
  induction N with
  | zero => exact fun x ad c A c2 w h => absurd h (Nat.not_lt_zero _)
  | succ N ih =>
    intro x ad c A c2 w hN hN2 hc hM hc2 hC
    have hlen := szT_len x
    have hmk := mark_at hM
    have hl3 : x.f3.length ≤ 3000 := by omega
    have q4 : IntKind.i64.wrap ((x.f3.length : Int) + 1) = (x.f3.length : Int) + 1 := IntWalk.i64_in _ (by omega)
    have hb2 : ∀ o o' : Obj, Below w.heap.size w ((w.alloc o).alloc o') := fun o o' => ((Below.refl _ _).alloc (Nat.le_refl _) o).alloc (by simp) o'
    have m0 : ∀ o o' : Obj, ((w.alloc o).alloc o').cell? (ad.add (x.f3.length * 4)) = some (.int .u8 77) := fun o o' => pw_cell_below (hb2 o o') hmk
    have HM := Aside0.mk hM
    have HC := Aside0.mk hC
    have IH := Aside0.mk ih
    have HN := Aside0.mk hN
    have HB2 := Aside0.mk hb2
    have p1 : ((x.f3.length : Int) + 1 ≤ (c : Int)) = True := eq_true (by omega)
    have p2 : (x.f3.length + 1 ≤ c) = True := eq_true hc
    have p3 : (0 ≤ (x.f3.length : Int) + 1) = True := eq_true (by omega)
    have HCc := Aside0.mk hc
    have HC2 := Aside0.mk hc2
    clear ih hM hC hN hb2 hmk hlen hc hc2
    go_enter Tryz.func11, Tryz.ntmps11
    go_wp2
    go_loopw [6] (fun i wr => ∃ k : Nat, i = .int .i64 k ∧ k ≤ x.f3.length ∧ Below w.heap.size w wr ∧ wr.heap[w.heap.size]? = some (.cells #[.int .u8 x.f0, .string x.f1, .int .i64 x.f2, .slice (some ad) x.f3.length c] 24 (0, 0)) ∧ wr.heap[w.heap.size + 1]? = some (.cells #[.int .u8 x.f0, .string x.f1, .int .i64 x.f2, .slice A x.f3.length c2] 24 (0, 0))) (fun i _ => x.f3.length - (intOf i).toNat)
    case atStart => exact ⟨0, rfl, Nat.zero_le _, HB2.out _ _, blk_alloc (blk_new w _) _, blk_new' _ (by simp)⟩
    case round =>
      obtain ⟨k, rfl, hk, hbel, hba, hbb⟩ := hrel
      have HBl := Aside0.mk hbel
      have HBa := Aside0.mk hba
      have HBb := Aside0.mk hbb
      have s3 := blk_cell hba 3
      have t3 := blk_cell hbb 3
      clear m0 p1 p2 p3
      by_cases hlt : k < x.f3.length
      · have d1 : decide ((k : Int) < (x.f3.length : Int)) = true := decide_eq_true (by omega)
        have d2 : (k < x.f3.length) = True := eq_true hlt
        have d3 : ((k : Int) < (x.f3.length : Int)) = True := eq_true (by omega)
        have d4 : (0 ≤ (k : Int)) = True := eq_true (by omega)
        have q5 : IntKind.i64.wrap ((k : Int) + 1) = (k : Int) + 1 := IntWalk.i64_in _ (by omega)
        obtain ⟨ad', c', x0, x1, x2, x3, x4, x5⟩ := km_at HM.out k hlt
        obtain ⟨ad2, A3, c3', e0, k0, k1, k2, k3, k4, k5⟩ := at_T24 HC.out (k : Int) (by omega) (by omega)
        subst e0
        rw [Int.toNat_natCast] at k0 k1 k2 k3
        rw [rd_nat hlt] at k0 k1 k2 k3 k4 k5
        have hsz := szT_mem (List.getElem_mem hlt)
        obtain ⟨y, hy⟩ : ∃ y, y = x.f3[k] := ⟨_, rfl⟩
        rw [← hy] at k0 k1 k2 k3 k4 k5 hsz x0 x1 x2 x3 x4 x5
        replace x0 := pw_cell_below hbel x0
        replace x1 := pw_cell_below hbel x1
        replace x2 := pw_cell_below hbel x2
        replace x3 := pw_cell_below hbel x3
        replace k0 := pw_cell_below hbel k0
        replace k1 := pw_cell_below hbel k1
        replace k2 := pw_cell_below hbel k2
        replace k3 := pw_cell_below hbel k3
        have hcall : ∀ W, Below w.heap.size w W → Calls Tryz.prog 11 #[.agg #[.int .u8 y.f0, .string y.f1, .int .i64 y.f2, .slice (some ad') y.f3.length c'], .agg #[.int .u8 y.f0, .string y.f1, .int .i64 y.f2, .slice A3 y.f3.length c3']] W fun e w' => e = .returned (.bool true) ∧ Below W.heap.size W w' := fun W hW => IH.out y ad' c' A3 c3' W (by have := HN.out; omega) (by omega) x4 (Kd.C_below x5 hW) k4 (Kd.C_below k5 hW)
        have HCall := Aside0.mk hcall
        clear hcall x4 x5 k4 k5 hsz hy hbel hba hbb
        go_wp2
        go_region_with (first | (go_at_call 11; (refine (HCall.out _ (below_drew1 HBl.out)).mono ?_); rintro e_ w2 ⟨rfl, hb2⟩; have HB3 := Aside0.mk hb2; clear hb2))
        all_goals go_wp2_with (fail)
        all_goals (refine ⟨⟨k + 1, by go_num, by omega, (below_drew1 HBl.out).trans (HB3.out.mono (below_drew1 HBl.out).size), blk_below (blk_drew HBa.out) HB3.out, blk_below (blk_drew HBb.out) HB3.out⟩, ?_⟩; simp [intOf]; omega)
      · have d1 : decide ((k : Int) < (x.f3.length : Int)) = false := decide_eq_false (by omega)
        have d2 : (k < x.f3.length) = False := eq_false hlt
        clear hbel hba hbb
        go_wp2
        go_ret
        exact ⟨rfl, HBl.out⟩
end Go.Proofs.YtjapfefiaijfcaaGreatDoor.Q
