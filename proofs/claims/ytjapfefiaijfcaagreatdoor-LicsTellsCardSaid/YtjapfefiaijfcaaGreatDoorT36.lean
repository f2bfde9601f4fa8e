/- The contract of Principals: the sorted texts of a tree's principals, each once. -/
import Derived.Test.YtjapfefiaijfcaaGreatDoorT35
import Derived.Test.YtjapfefiaijfcaaGreatDoorSh2
import Derived.Sort.OwnSorted
import Derived.Lib.OwnBridge
namespace Go.Proofs.YtjapfefiaijfcaaGreatDoor.Q
open Go.RowKit Go.Proofs.YtjapfefiaijfcaaGreatDoorW.PrintWords Go.Proofs.YtjapfefiaijfcaaGreatDoorW.PrintLast Go.Proofs.YtjapfefiaijfcaaGreatDoorW.PrintMore
open Go.Sort
set_option linter.unusedVariables false
theorem encs_Bs (xs : List ByteArray) : encs Value.string xs = (xs.map (·.data.toList)).map encStr := by
  unfold encs
  rw [List.map_map]
  refine List.map_congr_left (fun b _ => ?_)
  simp [encStr]
theorem prinB_encs (x : S24) : encs Value.string (prinB x) = (sortB (leaves x)).map encStr := by
  unfold encs prinB
  rw [List.map_map]
  exact List.map_congr_left (fun b _ => rfl)
theorem prinB_length (x : S24) : (prinB x).length = (sortB (leaves x)).length := by unfold prinB; simp
theorem sort_tail (w2 : World) (base g2 cap : Nat) (ss : List Bs) (h : w2.ownsRow base 9 1 (.slice (some ⟨g2, 0, none⟩) ss.length cap) ss.length (ss.map encStr)) (hl : ss.length ≤ 20000) :
    Calls Tryz.prog 31 #[.slice (some ⟨g2, 0, none⟩) ss.length cap] w2 fun e w3 => e = .returned (.tuple #[]) ∧ w3.ownsRow base 9 1 (.slice (some ⟨g2, 0, none⟩) ss.length cap) ss.length ((ss.mergeSort fun x y => decide (x ≤ y)).map encStr) ∧ w2.grownBy w3 (some g2) := by
  obtain ⟨g', cap', e, -, hgl, -, -, -, hH⟩ := Lib.holds_of_ownsRow h (by intro e; cases e)
  cases e
  refine (Tryz.slices_Sort_string g2 0 cap ss w2 hH hgl (by omega)).mono ?_
  rintro e w3 ⟨rfl, n, os, rfl⟩
  have hl2 : (ss.mergeSort fun x y => decide (x ≤ y)).length = ss.length := List.length_mergeSort ss
  rcases h.2 with ⟨h0, _⟩ | ⟨g', cap', cur, hv, hbase, hb, h1, h2, h3, h4⟩
  · cases h0
  cases hv
  exact ⟨rfl, ownsRow_sorted hl2 hbase hb h1 h2 h3, grownBy_sorted _⟩
theorem compact_tail (w0 w3 : World) (base g2 cap : Nat) (zs : List Bs) (h : w3.ownsRow base 9 1 (.slice (some ⟨g2, 0, none⟩) zs.length cap) zs.length (zs.map encStr)) (hl : zs.length ≤ 20000) (hb : Below base w0 w3) (hbg : base ≤ g2) :
    Calls Tryz.prog 32 #[.slice (some ⟨g2, 0, none⟩) zs.length cap] w3 fun e w4 => e = .returned (.slice (some ⟨g2, 0, none⟩) (Lib.compact zs).length cap) ∧ w4.ownsRow base 9 1 (.slice (some ⟨g2, 0, none⟩) (Lib.compact zs).length cap) (Lib.compact zs).length ((Lib.compact zs).map encStr) ∧ Below base w0 w4 := by
  obtain ⟨g', cap', e, -, hgl, hc, -, -, hH⟩ := Lib.holds_of_ownsRow h (by intro e; cases e)
  cases e
  have hle := Lib.compact_length_le zs
  refine (Tryz.slices_Compact_string g2 0 cap zs w3 hH (by omega) hc).mono ?_
  rintro e w4 ⟨rfl, q, rfl⟩
  have hcr := Lib.ownsRow_putRow (q := q) (k := (Lib.compact zs).length) (ys := Lib.compact zs ++ List.replicate (zs.length - (Lib.compact zs).length) []) h (by simp; omega) (by omega)
  rw [List.take_left] at hcr
  exact ⟨rfl, hcr, Lib.below_putRow hb hbg⟩
set_option maxHeartbeats 8000000 in
set_option maxRecDepth 100000 in
theorem lics_Principals.calls (x : S24) (A : Option Addr) (c : Nat) (w : World) (hN : szT x ≤ 9000) (hc : x.f3.length ≤ c) (hC : Kd.C k24 w A x.f3.length x.f3) :
    Calls Tryz.prog 15 #[.agg #[.int .u8 x.f0, .string x.f1, .int .i64 x.f2, .slice A x.f3.length c]] w (TextsOut (prinR x) w) := by
  have hck := fun (W : World) (hb : Below w.heap.size w W) => lics_Check.calls 10000 x A c W (by omega) (Nat.le_refl _) hc (Kd.C_below hC hb)
  have HC := Aside0.mk hC
  have Hc := Aside0.mk hc
  have HN := Aside0.mk hN
  have HCk := Aside0.mk hck
  have hb : ∀ o : Obj, Below w.heap.size w (w.alloc o) := fun o => (Below.refl _ _).alloc (Nat.le_refl _) o
  have HB := Aside0.mk hb
  have HNew := Aside0.mk (fun o : Obj => blk_new w o)
  clear hck hC hc hN hb
  by_cases h : okT x = true
  · have hr : prinR x = (prinB x, 0) := by unfold prinR; rw [if_pos h]
    have he : errT x = 0 := by unfold errT; rw [if_pos h]
    rw [he] at HCk
    have HR := Aside0.mk hr
    clear hr he h
    go_enter Tryz.func15, Tryz.ntmps15
    go_wp2_with (first | (go_at_call 17; (with_reducible refine (HCk.out _ (HB.out _)).mono ?_); rintro e_ w1 ⟨rfl, hb1⟩; have HB1 := Aside0.mk (below_step (HB.out _) hb1); have BL1 := Aside0.mk (blk_below (HNew.out _) hb1); have l0 := fun o => blk_cell (blk_alloc BL1.out o) 0; have l1 := fun o => blk_cell (blk_alloc BL1.out o) 1; have l2 := fun o => blk_cell (blk_alloc BL1.out o) 2; have l3 := fun o => blk_cell (blk_alloc BL1.out o) 3; clear hb1))
    go_wp2_with (first | (go_at_call 29; (with_reducible refine (lics_each.calls w w1.heap.size HB1.out.size 10000 x A c (.slice none 0 0) [] _ (Nat.lt_of_le_of_lt HN.out (by decide)) (Nat.le_refl _) Hc.out HC.out (HB1.out.alloc HB1.out.size _) (blk_new w1 _) (Kd.R_nil _ _ _ _ _) (by have := HN.out; simp; omega)).mono ?_); rintro e_ w2 ⟨rfl, v2, ho⟩; have HO2 := Aside0.mk ho; have m0 : w2.cell? ⟨w1.heap.size, 0, none⟩ = some v2 := (blk_cell ho.box 0).trans rfl; clear ho))
    have how := Kd.own_of_R (enc := Value.string) (h1 := fun _ => rfl) HO2.out.row
    rw [encs_Bs, List.nil_append] at how
    obtain ⟨ss, hss⟩ : ∃ ss, ss = (leaves x).map (·.data.toList) := ⟨_, rfl⟩
    have hsl : ss.length = (leaves x).length := by rw [hss, List.length_map]
    have hle := leaves_len 10000 x (Nat.lt_of_le_of_lt HN.out (by decide))
    have hl9 : ss.length ≤ 9000 := by have := HN.out; omega
    rw [← hss, ← hsl] at how
    have hpl : prinB x = (Lib.compact (ss.mergeSort fun x y => decide (x ≤ y))).map (fun l => ⟨l.toArray⟩) := by unfold prinB sortB; rw [hss]
    have HPl := Aside0.mk hpl
    have HL9 := Aside0.mk hl9
    clear hss hsl hle hl9 hpl
    rcases how.2 with ⟨hv, hnil⟩ | ⟨g2, cap, cur, hv, hbase, hbk, -⟩
    · have hs0 : ss = [] := by simpa using hnil
      have HS0 := Aside0.mk hs0
      subst hv
      clear hs0 hnil how
      go_wp2_with (first | (go_at_call 31; (with_reducible refine (Tryz.slices_Sort_string_none _ _ _).mono ?_); rintro e_ w3 ⟨rfl, rfl⟩) | (go_at_call 32; (with_reducible refine (Tryz.slices_Compact_string_empty _ _ _).mono ?_); rintro e_ w4 ⟨rfl, rfl⟩))
      go_ret2
      have e0 : prinB x = [] := by rw [HPl.out, HS0.out, List.mergeSort_nil]; rfl
      refine ⟨.slice none 0 0, by rw [HR.out]; rfl, ?_, HO2.out.below⟩
      rw [HR.out, e0]
      exact Kd.R_nil _ _ _ _ _
    · subst hv
      have HNe := Aside0.mk (HO2.out.row.1 g2 rfl)
      have HBx := Aside0.mk HO2.out.box
      have HOw := Aside0.mk how
      have HBase := Aside0.mk hbase
      have hl2 : (ss.mergeSort fun x y => decide (x ≤ y)).length = ss.length := List.length_mergeSort ss
      have HL2 := Aside0.mk hl2
      have hsort := sort_tail w2 w.heap.size g2 cap ss how (by have := HL9.out; omega)
      have HSort := Aside0.mk hsort
      clear how hbase hbk hl2 hsort
      go_wp2_with (first | (go_at_call 31; (with_reducible refine (HSort.out).mono ?_); rintro e_ w3 ⟨rfl, ho3, hg3⟩; have HO3 := Aside0.mk ho3; have HG3 := Aside0.mk hg3; have m1 : w3.cell? ⟨w1.heap.size, 0, none⟩ = some (.slice (some ⟨g2, 0, none⟩) ss.length cap) := (blk_cell (blk_grown HBx.out hg3 (fun h => HNe.out (Option.some.inj h).symm)) 0).trans rfl; clear ho3 hg3 m0))
      have ho3 := HO3.out
      rw [← HL2.out] at ho3
      have hbw3 : Below w.heap.size w w3 := HO2.out.below.grown HG3.out HO2.out.below.size (fun j hj => by cases hj; exact HBase.out)
      have hcomp := compact_tail w w3 w.heap.size g2 cap _ ho3 (by rw [HL2.out]; have := HL9.out; omega) hbw3 HBase.out
      rw [HL2.out] at hcomp
      have HComp := Aside0.mk hcomp
      clear ho3 hbw3 hcomp
      go_wp2_with (first | (go_at_call 32; (with_reducible refine (HComp.out).mono ?_); rintro e_ w4 ⟨rfl, ho4, hb4⟩; have HO4 := Aside0.mk ho4; have HB4 := Aside0.mk hb4; clear ho4 hb4))
      go_ret2
      refine ⟨_, by rw [HR.out]; rfl, ?_, HB4.out⟩
      have e := HO4.out
      have e1 : encs Value.string (prinB x) = (Lib.compact (ss.mergeSort fun x y => decide (x ≤ y))).map encStr := by
        rw [HPl.out]; unfold encs; rw [List.map_map]; exact List.map_congr_left (fun b _ => rfl)
      have e2 : (prinB x).length = (Lib.compact (ss.mergeSort fun x y => decide (x ≤ y))).length := by rw [HPl.out, List.length_map]
      rw [HR.out]
      refine Kd.R_of_own (enc := Value.string) (h1 := fun _ => rfl) ?_ (fun _ _ => trivial)
      show w4.ownsRow _ 9 1 _ (prinB x).length (encs Value.string (prinB x))
      rw [e1, e2]
      exact e
  · have hr : prinR x = ([], 151) := by unfold prinR; rw [if_neg h]
    have he : errT x = 151 := by unfold errT; rw [if_neg h]
    rw [he] at HCk
    have HR := Aside0.mk hr
    clear hr he h
    go_enter Tryz.func15, Tryz.ntmps15
    go_wp2_with (first | (go_at_call 17; (with_reducible refine (HCk.out _ (HB.out _)).mono ?_); rintro e_ w1 ⟨rfl, hb1⟩; have HB1 := Aside0.mk (below_step (HB.out _) hb1); have BL1 := Aside0.mk (blk_below (HNew.out _) hb1); clear hb1; have l0 := blk_cell BL1.out 0; have l1 := blk_cell BL1.out 1; have l2 := blk_cell BL1.out 2; have l3 := blk_cell BL1.out 3))
    go_ret2
    refine ⟨.slice none 0 0, by rw [HR.out]; rfl, ?_, HB1.out⟩
    rw [HR.out]
    exact Kd.R_nil _ _ _ _ _
end Go.Proofs.YtjapfefiaijfcaaGreatDoor.Q
