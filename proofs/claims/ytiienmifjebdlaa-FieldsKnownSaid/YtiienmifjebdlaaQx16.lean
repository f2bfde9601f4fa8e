/- Go functions as Lean functions, and that each call comes to its Lean function's answer, wherever that is some answer. Written by a program of this session out of the translation. -/
import Derived.Test.YtiienmifjebdlaaQx0
namespace Go.Proofs.Ytiienmifjebdlaa.Q
open Go.RowKit Go.Proofs.YtiienmifjebdlaaW.PrintWords Go.Proofs.YtiienmifjebdlaaW.PrintLast Go.Proofs.YtiienmifjebdlaaW.PrintMore
attribute [local go_sem] max2_int min2_int max_two min_two max_three min_three max_four min_four   -- for this text's walks alone
set_option linter.unusedVariables false
set_option linter.unusedSimpArgs false

-- HAND vouch/vouchlaw13.turned | 0 | 1
def turnC (c : Int) : Int := if 97 ≤ c ∧ c ≤ 122 then c - 32 else if 65 ≤ c ∧ c ≤ 90 then c + 32 else c
def turnIn : Nat → List Int → Nat → Option (List Int)
  | 0, xs, _ => some xs
  | d + 1, xs, k => if k < xs.length then turnIn d (xs.set k (turnC (xs.getD k 0))) (k + 1) else none
def turnFrom (b : Int) (k : Int) (xs : List Int) : Option (List Int) := if k < b then (if 0 ≤ k then turnIn (b - k).toNat xs k.toNat else none) else some xs
theorem turnFrom_step {b k : Int} {xs ys : List Int} (h : turnFrom b k xs = some ys) (hlt : k < b) : 0 ≤ k ∧ k.toNat < xs.length ∧ turnFrom b (k + 1) (xs.set k.toNat (turnC (xs.getD k.toNat 0))) = some ys := by
  unfold turnFrom at h
  rw [if_pos hlt] at h
  by_cases h0 : 0 ≤ k
  · rw [if_pos h0] at h
    obtain ⟨d, hd⟩ : ∃ d, (b - k).toNat = d + 1 := ⟨(b - k).toNat - 1, by omega⟩
    rw [hd] at h
    simp only [turnIn] at h
    by_cases q : k.toNat < xs.length
    · rw [if_pos q] at h
      refine ⟨h0, q, ?_⟩
      unfold turnFrom
      by_cases c : k + 1 < b
      · rw [if_pos c, if_pos (by omega), show (b - (k + 1)).toNat = d from by omega, show (k + 1).toNat = k.toNat + 1 from by omega]; exact h
      · rw [if_neg c]
        obtain rfl : d = 0 := by omega
        exact h
    · rw [if_neg q] at h; cases h
  · rw [if_neg h0] at h; cases h
def turnF (f : S28) (xs : List Int) : Option (List Int) := turnFrom f.f2 f.f1 xs
def turnAll : List S28 → List Int → Option (List Int)
  | [], xs => some xs
  | f :: l, xs => (turnF f xs).bind (turnAll l)
def vouchlaw13_turned.f (a0 : ByteArray) (l1 : List S28) : Option ByteArray := if a0.size ≤ 140737488355328 then (turnAll l1 (bytesOf a0)).map strOfNums else none

/-- a row of bytes in block g, of m cells, whose first n are xs. -/
def BRow (w : World) (g m : Nat) (xs : List Int) : Prop := ∃ cur : Array Value, w.heap[g]? = some (.cells cur 5 (m, m + 1)) ∧ cur.size = m ∧ xs.length ≤ m ∧ cur.toList.take xs.length = nums .u8 xs

theorem brow_new (W : World) (s : ByteArray) : BRow (Lib.bytesWorld W 5 s) W.heap.size (Lib.bytesCells W 5 s).size (bytesOf s) := by
  refine ⟨Lib.bytesCells W 5 s, Lib.bytesWorld_at_new W 5 s, rfl, ?_, ?_⟩
  · rw [bytesOf_length]; simp [Lib.bytesCells, ← ByteArray.size_data]
  · rw [bytesOf_length]
    have e : (Lib.bytesCells W 5 s).toList.take s.size = s.data.toList.map fun b => Value.int .u8 b.toNat := by
      simp [Lib.bytesCells, ← ByteArray.size_data]
    rw [e]; simp [nums, bytesOf]
theorem brow_cell {w : World} {g m : Nat} {xs : List Int} (h : BRow w g m xs) (k : Nat) (hk : k < xs.length) : w.cell? ⟨g, k, none⟩ = some (.int .u8 (xs.getD k 0)) := by
  obtain ⟨cur, h1, h2, h3, h4⟩ := h
  have e : w.cell? ⟨g, k, none⟩ = cur[k]? := by simp [World.cell?, h1]
  rw [e]
  have q : (cur.toList.take xs.length)[k]? = (nums .u8 xs)[k]? := by rw [h4]
  rw [List.getElem?_take_of_lt hk] at q
  rw [show cur[k]? = cur.toList[k]? from by simp, q]
  simp [nums, List.getElem?_eq_getElem hk, List.getD_eq_getElem?_getD]
theorem brow_frozen {w : World} {g m : Nat} {xs : List Int} (h : BRow w g m xs) (k : Nat) (hk : k < xs.length) : w.frozen? ⟨g, k, none⟩ = false := by
  obtain ⟨cur, h1, h2, h3, h4⟩ := h
  simp [World.frozen?, h1]; omega
theorem brow_set {w : World} {g m : Nat} {xs : List Int} (h : BRow w g m xs) (k : Nat) (v : Int) : BRow (w.setCell ⟨g, k, none⟩ (.int .u8 v)) g m (xs.set k v) := by
  obtain ⟨cur, h1, h2, h3, h4⟩ := h
  refine ⟨cur.setIfInBounds k (.int .u8 v), ?_, by simpa using h2, by simpa using h3, ?_⟩
  · simp [World.setCell, Array.getElem?_modify, h1]
  · rw [List.length_set, Array.toList_setIfInBounds, List.take_set, h4]; simp [nums, List.map_set]
theorem brow_move {w w1 : World} {g m : Nat} {xs : List Int} (h : BRow w g m xs) (hm : w1.heap[g]? = w.heap[g]?) : BRow w1 g m xs := by
  obtain ⟨cur, h1, h2⟩ := h
  exact ⟨cur, hm.trans h1, h2⟩

set_option maxHeartbeats 4000000 in
theorem vouchlaw13_turned.calls (a0 : ByteArray) (A1 : Option Addr) (c1 : Nat) (l1 : List S28) (r : ByteArray) (w : World) (hr1 : Kd.C k28 w A1 l1.length l1) (hc1 : l1.length ≤ c1) (h : vouchlaw13_turned.f a0 l1 = some r) :
    Calls Try.prog 21 #[.string a0, .slice A1 l1.length c1] w fun e w' => e = .returned (.string r) ∧ Below w.heap.size w w' := by
  have HR1 := Aside0.mk hr1
  have HC1 := Aside0.mk hc1
  have hs : a0.size ≤ 140737488355328 := by
    unfold vouchlaw13_turned.f at h
    by_cases q : a0.size ≤ 140737488355328
    · exact q
    · rw [if_neg q] at h; cases h
  unfold vouchlaw13_turned.f at h
  rw [if_pos hs] at h
  obtain ⟨ys, hy, hr⟩ := Option.map_eq_some_iff.mp h
  have HY := Aside0.mk hy
  have HV := Aside0.mk hr
  clear hr1 hc1 h hy hr
  have kb := fun W => print_bytes (P := Try.prog) 9 52 5 Try.underlying9 Try.underlying52 Try.underlying5 a0 W
  have hl : l1.length ≤ 9223372036854775807 := HR1.out.2.1
  go_enter Try.func21, Try.ntmps21
  go_wp2
  go_loopw [6] (fun i wr => ∃ (k : Nat) (xs : List Int), i = .int .i64 k ∧ k ≤ l1.length ∧ xs.length = a0.size ∧ turnAll (l1.drop k) xs = some ys ∧ BRow wr w.heap.size (Lib.bytesCells w 5 a0).size xs ∧ Below w.heap.size w wr) (fun i _ => l1.length - (intOf i).toNat)
  case atStart => exact ⟨0, bytesOf a0, rfl, Nat.zero_le _, bytesOf_length a0, HY.out, brow_new w a0, bytes_below (Below.refl _ _) (Nat.le_refl _) _ _⟩
  case round =>
    obtain ⟨k, xs, rfl, hk, hx, ht, hb, hB⟩ := hrel
    by_cases hlt : k < l1.length
    · have hat := at_T28 (Kd.C_below HR1.out hB) (k : Int) (by omega) (by omega)
      obtain ⟨ad, e1, d0, d1, d2, d3⟩ := hat
      cases e1
      obtain ⟨f, hf⟩ : ∃ f, f = rd_T28 l1 (k : Int) := ⟨_, rfl⟩
      rw [← hf] at d0 d1 d2 d3
      simp only [Int.toNat_natCast] at d0 d1 d2 d3
      have ht' : (turnFrom f.f2 f.f1 xs).bind (turnAll (l1.drop (k + 1))) = some ys := by
        have e : l1.drop k = f :: l1.drop (k + 1) := by
          rw [List.drop_eq_getElem_cons hlt, hf]; congr 1
          simp [rd_T28, List.getD_eq_getElem?_getD, List.getElem?_eq_getElem hlt]
        rw [e] at ht; exact ht
      have HF := Aside0.mk hf
      have HT := Aside0.mk ht'
      have HX := Aside0.mk hx
      have HB1 := Aside0.mk hB
      have HBR := Aside0.mk hb
      clear hf ht ht' hx hb hB
      go_wp2
      obtain ⟨wo, rfl⟩ : ∃ wo : World, wo = wr := ⟨_, rfl⟩
      go_loopw [7] (fun i wi => ∃ (kk : Int) (zs : List Int), i = .int .i64 kk ∧ zs.length = a0.size ∧ (turnFrom f.f2 kk zs).bind (turnAll (l1.drop (k + 1))) = some ys ∧ BRow wi w.heap.size (Lib.bytesCells w 5 a0).size zs ∧ Below w.heap.size w wi) (fun i _ => (f.f2 - intOf i).toNat)
      case atStart => exact ⟨f.f1, xs, rfl, HX.out, HT.out, HBR.out, HB1.out⟩
      case round =>
        obtain ⟨kk, zs, rfl, hz, hq, hb, hB⟩ := hrel
        have hat := at_T28 (Kd.C_below HR1.out hB) (k : Int) (by omega) (by omega)
        obtain ⟨ad', e1, d0, d1, d2, d3⟩ := hat
        cases e1
        rw [← HF.out] at d0 d1 d2 d3
        simp only [Int.toNat_natCast] at d0 d1 d2 d3
        have HZ := Aside0.mk hz
        have HQ := Aside0.mk hq
        have HBi := Aside0.mk hB
        have HBRi := Aside0.mk hb
        clear hz hq hb hB
        by_cases c : kk < f.f2
        · have hc : decide (kk < f.f2) = true := decide_eq_true c
          obtain ⟨vs, hv, hw⟩ := Option.bind_eq_some_iff.mp HQ.out
          obtain ⟨g0, g1, g2⟩ := turnFrom_step hv c
          obtain ⟨j, rfl⟩ := Int.eq_ofNat_of_zero_le g0
          rw [Int.toNat_natCast] at g1 g2
          have hcell := brow_cell HBRi.out j g1
          have hfr := brow_frozen HBRi.out j g1
          have hj : (j : Int) < (a0.size : Int) := by rw [← HZ.out]; omega
          have hj2 : j < a0.size := by rw [← HZ.out]; omega
          have G2 := Aside0.mk g2
          have G1 := Aside0.mk g1
          have HW2 := Aside0.mk hw
          obtain ⟨x, hx⟩ : ∃ x, x = zs.getD j 0 := ⟨_, rfl⟩
          rw [← hx] at hcell
          have HXX := Aside0.mk hx
          clear g2 g1 hw hv hx g0
          have hstep : ∀ v : Int, v = turnC x → BRow (wr.setCell ⟨w.heap.size, j, none⟩ (.int .u8 v)) w.heap.size (Lib.bytesCells w 5 a0).size (zs.set j (turnC x)) ∧ Below w.heap.size w (wr.setCell ⟨w.heap.size, j, none⟩ (.int .u8 v)) := by
            intro v hv
            rw [← hv]
            exact ⟨brow_set HBRi.out j v, HBi.out.setCell (Nat.le_refl _) _⟩
          have HS := Aside0.mk hstep
          have hkeep : turnC x = x → zs.set j (turnC x) = zs := by
            intro e; rw [e, HXX.out, List.getD_eq_getElem?_getD, List.getElem?_eq_getElem G1.out]; exact List.set_getElem_self _
          have HK := Aside0.mk hkeep
          clear hstep hkeep
          by_cases c1 : 97 ≤ x ∧ x ≤ 122
          · have e : turnC x = x - 32 := by unfold turnC; rw [if_pos c1]
            have E := Aside0.mk e
            clear e
            go_wp2
            obtain ⟨q1, q2⟩ := HS.out (x - 32) E.out.symm
            exact ⟨⟨(j : Int) + 1, zs.set j (turnC x), rfl, by rw [List.length_set]; exact HZ.out, by rw [HXX.out, G2.out]; exact HW2.out, q1, q2⟩, by simp [intOf]; omega⟩
          · by_cases c2 : 65 ≤ x ∧ x ≤ 90
            · have e : turnC x = x + 32 := by unfold turnC; rw [if_neg c1, if_pos c2]
              have E := Aside0.mk e
              clear e
              go_wp2
              obtain ⟨q1, q2⟩ := HS.out (x + 32) E.out.symm
              exact ⟨⟨(j : Int) + 1, zs.set j (turnC x), rfl, by rw [List.length_set]; exact HZ.out, by rw [HXX.out, G2.out]; exact HW2.out, q1, q2⟩, by simp [intOf]; omega⟩
            · have e : turnC x = x := by unfold turnC; rw [if_neg c1, if_neg c2]
              have E := Aside0.mk e
              clear e
              have EK := HK.out E.out
              have EK' := Aside0.mk EK
              clear EK
              go_wp2
              all_goals exact ⟨⟨(j : Int) + 1, zs.set j (turnC x), rfl, by rw [List.length_set]; exact HZ.out, by rw [HXX.out, G2.out]; exact HW2.out, by rw [EK'.out]; exact HBRi.out, HBi.out⟩, by simp [intOf]; omega⟩
        · have hc : decide (kk < f.f2) = false := decide_eq_false c
          have hfin := HQ.out
          unfold turnFrom at hfin
          rw [if_neg c] at hfin
          have HFIN := Aside0.mk hfin
          clear hfin
          go_wp2
          exact ⟨⟨k + 1, zs, by go_num, by omega, HZ.out, HFIN.out, HBRi.out, HBi.out⟩, by simp [intOf]; omega⟩
    · obtain rfl : k = l1.length := by omega
      have ht' : xs = ys := by
        rw [List.drop_length] at ht; exact Option.some.inj ht
      have HT := Aside0.mk ht'
      have HX := Aside0.mk hx
      have HB1 := Aside0.mk hB
      have HBR := Aside0.mk hb
      have hcv := run_convert_bytes_arg (P := Try.prog) wr 52 5 Try.underlying52 Try.underlying5 w.heap.size 0 a0.size (grownCap w a0.size 0 5) xs hx (fun i hi => by
        rw [Nat.zero_add]; exact brow_cell hb i (by omega)) 9 Try.underlying9
      clear ht ht' hx hb hB
      go_wp2
      go_ret
      exact ⟨by rw [HT.out, HV.out]; rfl, HB1.out⟩

end Go.Proofs.Ytiienmifjebdlaa.Q
