/- The contract of SpoilLic; a tree as it lies, in the shape that SpoilLic asks. -/
import Derived.Test.YtfaohklglblcbaaDoorT19
namespace Go.Proofs.YtfaohklglblcbaaDoor.Q
open Go.RowKit Go.Proofs.YtfaohklglblcbaaDoorW.PrintWords Go.Proofs.YtfaohklglblcbaaDoorW.PrintLast Go.Proofs.YtfaohklglblcbaaDoorW.PrintMore
set_option linter.unusedVariables false
/-- Rows of parts, nested at most so deep, in blocks from B to U. -/
def Sh : Nat → World → Nat → Nat → Value → Prop
  | 0, _, _, _, v => ∃ A c, v = .slice A 0 c
  | n + 1, w, B, U, v => (∃ A c, v = .slice A 0 c) ∨ ∃ (g len cap : Nat) (cells : Array Value), v = .slice (some ⟨g, 0, none⟩) len cap ∧ B ≤ g ∧ g < U ∧ w.heap[g]? = some (.cells cells 24 (0, 0)) ∧ len * 4 ≤ cells.size ∧ len ≤ 3000 ∧
      ∀ i, i < len → ∃ (a : Int) (b : ByteArray) (c : Int) (v' : Value), cells[i * 4]? = some (.int .u8 a) ∧ cells[i * 4 + 1]? = some (.string b) ∧ cells[i * 4 + 2]? = some (.int .i64 c) ∧ cells[i * 4 + 3]? = some v' ∧ Sh n w B U v'
theorem Sh.nil_ (n : Nat) (w : World) (B U : Nat) (A : Option Addr) (c : Nat) : Sh n w B U (.slice A 0 c) := by
  cases n
  · exact ⟨A, c, rfl⟩
  · exact .inl ⟨A, c, rfl⟩
/-- What is no row between B and U stays. -/
structure KB (B U : Nat) (w w' : World) : Prop where
  os : w'.os = w.os
  tape : w'.tape = w.tape
  output : w'.output = w.output
  size : w.heap.size ≤ w'.heap.size
  block : ∀ k, k < w.heap.size → (k < B ∨ U ≤ k) → w'.heap[k]? = w.heap[k]?
theorem KB.refl (B U : Nat) (w : World) : KB B U w w := ⟨rfl, rfl, rfl, Nat.le_refl _, fun _ _ _ => rfl⟩
theorem KB.trans {B U : Nat} {a b c : World} (h : KB B U a b) (k : KB B U b c) : KB B U a c := ⟨k.os.trans h.os, k.tape.trans h.tape, k.output.trans h.output, Nat.le_trans h.size k.size, fun i hi ho => (k.block i (by have := h.size; omega) ho).trans (h.block i hi ho)⟩
theorem KB.of_below {B U : Nat} {a b : World} (h : Below a.heap.size a b) : KB B U a b := ⟨h.os, h.tape, h.output, h.size, fun k hk _ => h.block k hk⟩
theorem KB.set {B U : Nat} {a b : World} (h : KB B U a b) {p : Addr} (h1 : B ≤ p.block) (h2 : p.block < U) (v : Value) : KB B U a (b.setCell p v) := ⟨h.os, h.tape, h.output, by simpa using h.size, fun k hk ho => (Below.heap_setCell _ _ _ _ (by omega)).trans (h.block k hk ho)⟩
theorem KB.blk {B U : Nat} {a b : World} (h : KB B U a b) {k : Nat} {o : Obj} (hb : a.heap[k]? = some o) (ho : k < B ∨ U ≤ k) : b.heap[k]? = some o := (h.block k (blk_lt hb) ho).trans hb
theorem Sh.keep (n : Nat) : ∀ {w W : World} {B U : Nat} {v : Value}, (∀ k, B ≤ k → k < U → ∀ o, w.heap[k]? = some o → W.heap[k]? = some o) → Sh n w B U v → Sh n W B U v := by
  induction n with
  | zero => intro w W B U v _ h; exact h
  | succ n ih =>
    intro w W B U v hk h
    rcases h with h | ⟨g, len, cap, cells, rfl, h1, h2, h3, h4, h5, h6⟩
    · exact .inl h
    · refine .inr ⟨g, len, cap, cells, rfl, h1, h2, hk g h1 h2 _ h3, h4, h5, fun i hi => ?_⟩
      obtain ⟨a, b, c, v', q0, q1, q2, q3, q4⟩ := h6 i hi
      exact ⟨a, b, c, v', q0, q1, q2, q3, ih hk q4⟩
/-- one part of a row is written over. -/
def over (w : World) (g k : Nat) (t : ByteArray) : World := (((w.setCell ⟨g, k * 4, none⟩ (.int .u8 99)).setCell ⟨g, k * 4 + 1, none⟩ (.string t)).setCell ⟨g, k * 4 + 2, none⟩ (.int .i64 0)).setCell ⟨g, k * 4 + 3, none⟩ (.slice none 0 0)
theorem over_at {w : World} {g : Nat} {cells : Array Value} (h : w.heap[g]? = some (.cells cells 24 (0, 0))) (k : Nat) (t : ByteArray) : (over w g k t).heap[g]? = some (.cells ((((cells.setIfInBounds (k * 4) (.int .u8 99)).setIfInBounds (k * 4 + 1) (.string t)).setIfInBounds (k * 4 + 2) (.int .i64 0)).setIfInBounds (k * 4 + 3) (.slice none 0 0)) 24 (0, 0)) :=
  blk_set (blk_set (blk_set (blk_set h _ _) _ _) _ _) _ _
theorem over_far {w : World} {g b : Nat} (h : b ≠ g) (k : Nat) (t : ByteArray) : (over w g k t).heap[b]? = w.heap[b]? :=
  (Below.heap_setCell _ _ _ _ h).trans ((Below.heap_setCell _ _ _ _ h).trans ((Below.heap_setCell _ _ _ _ h).trans (Below.heap_setCell _ _ _ _ h)))
theorem Sh.over_ (n : Nat) : ∀ {w : World} {B U : Nat} {v : Value} (g k : Nat) (t : ByteArray), Sh n w B U v → Sh n (over w g k t) B U v := by
  induction n with
  | zero => intro w B U v g k t h; exact h
  | succ n ih =>
    intro w B U v g k t h
    rcases h with h | ⟨g2, len, cap, cells, rfl, h1, h2, h3, h4, h5, h6⟩
    · exact .inl h
    · by_cases hg : g2 = g
      · subst hg
        refine .inr ⟨g2, len, cap, _, rfl, h1, h2, over_at h3 k t, by simpa using h4, h5, fun i hi => ?_⟩
        obtain ⟨a, b, c, v', q0, q1, q2, q3, q4⟩ := h6 i hi
        by_cases hik : i = k
        · subst hik
          refine ⟨99, t, 0, .slice none 0 0, ?_, ?_, ?_, ?_, Sh.nil_ _ _ _ _ _ _⟩
          · simp [Array.getElem?_setIfInBounds]; omega
          · simp [Array.getElem?_setIfInBounds]; omega
          · simp [Array.getElem?_setIfInBounds]; omega
          · simp [Array.getElem?_setIfInBounds]; omega
        · refine ⟨a, b, c, v', ?_, ?_, ?_, ?_, ih g2 k t q4⟩
          · rw [← q0]; simp [Array.getElem?_setIfInBounds]; repeat (rw [if_neg (by omega)])
          · rw [← q1]; simp [Array.getElem?_setIfInBounds]; repeat (rw [if_neg (by omega)])
          · rw [← q2]; simp [Array.getElem?_setIfInBounds]; repeat (rw [if_neg (by omega)])
          · rw [← q3]; simp [Array.getElem?_setIfInBounds]; repeat (rw [if_neg (by omega)])
      · refine .inr ⟨g2, len, cap, cells, rfl, h1, h2, (over_far hg k t).trans h3, h4, h5, fun i hi => ?_⟩
        obtain ⟨a, b, c, v', q0, q1, q2, q3, q4⟩ := h6 i hi
        exact ⟨a, b, c, v', q0, q1, q2, q3, ih g k t q4⟩
theorem Sh.form {n : Nat} {w : World} {B U : Nat} {v : Value} (h : Sh n w B U v) : ∃ A l c, v = .slice A l c := by
  cases n with
  | zero => obtain ⟨A, c, rfl⟩ := h; exact ⟨A, 0, c, rfl⟩
  | succ n =>
    rcases h with ⟨A, c, rfl⟩ | ⟨g, len, cap, cells, rfl, _⟩
    · exact ⟨A, 0, c, rfl⟩
    · exact ⟨_, len, cap, rfl⟩
/-- the cells of one part of a row. -/
theorem Sh.at_ {n : Nat} {w : World} {B U g len cap k : Nat} (h : Sh (n + 1) w B U (.slice (some ⟨g, 0, none⟩) len cap)) (hk : k < len) : B ≤ g ∧ g < U ∧ len ≤ 3000 ∧ (∃ cells, w.heap[g]? = some (.cells cells 24 (0, 0))) ∧ ∃ (a : Int) (b : ByteArray) (c : Int) (A' : Option Addr) (l' c' : Nat), w.cell? ⟨g, k * 4, none⟩ = some (.int .u8 a) ∧ w.cell? ⟨g, k * 4 + 1, none⟩ = some (.string b) ∧ w.cell? ⟨g, k * 4 + 2, none⟩ = some (.int .i64 c) ∧ w.cell? ⟨g, k * 4 + 3, none⟩ = some (.slice A' l' c') ∧ Sh n w B U (.slice A' l' c') := by
  rcases h with ⟨A, c, h⟩ | ⟨g2, len2, cap2, cells, h, h1, h2, h3, h4, h5, h6⟩
  · cases h; omega
  · cases h
    obtain ⟨a, b, c, v', q0, q1, q2, q3, q4⟩ := h6 k hk
    obtain ⟨A', l', c', rfl⟩ := q4.form
    exact ⟨h1, h2, h5, ⟨cells, h3⟩, a, b, c, A', l', c', (blk_cell h3 _).trans q0, (blk_cell h3 _).trans q1, (blk_cell h3 _).trans q2, (blk_cell h3 _).trans q3, q4⟩
theorem keep_alloc' {w : World} {U B : Nat} (hU : U ≤ w.heap.size) (o : Obj) (m : Nat) (u : Value) (h : Sh m w B U u) : Sh m (w.alloc o) B U u := h.keep m (fun k _ _ o' ho => blk_alloc ho o)
set_option maxHeartbeats 8000000 in
set_option maxRecDepth 100000 in
theorem vouchkit_SpoilLic.calls (B U : Nat) (n : Nat) : ∀ (a : Int) (b : ByteArray) (c : Int) (A : Option Addr) (len cap : Nat) (w : World), Sh n w B U (.slice A len cap) → U ≤ w.heap.size →
    Calls Tryd.prog 10 #[.agg #[.int .u8 a, .string b, .int .i64 c, .slice A len cap]] w fun e w' => e = .returned (.tuple #[]) ∧ KB B U w w' ∧ ∀ m u, Sh m w B U u → Sh m w' B U u := by
  have nil : ∀ (a : Int) (b : ByteArray) (c : Int) (A : Option Addr) (cap : Nat) (w : World), U ≤ w.heap.size → Calls Tryd.prog 10 #[.agg #[.int .u8 a, .string b, .int .i64 c, .slice A 0 cap]] w fun e w' => e = .returned (.tuple #[]) ∧ KB B U w w' ∧ ∀ m u, Sh m w B U u → Sh m w' B U u := by
    intro a b c A cap w hU
    have HU := Aside0.mk hU
    clear hU
    go_enter Tryd.func10, Tryd.ntmps10
    go_wp2
    go_loopw [2] (fun i wr => i = .int .i64 0 ∧ wr = w.alloc (.cells #[.int .u8 a, .string b, .int .i64 c, .slice A 0 cap] 24)) (fun _ _ => 0)
    case atStart => exact ⟨rfl, rfl⟩
    case round =>
      obtain ⟨rfl, rfl⟩ := hrel
      go_wp2
      go_end0
      exact ⟨rfl, .of_below ((Below.refl _ _).alloc (Nat.le_refl _) _), fun m u h => keep_alloc' HU.out _ m u h⟩
  induction n with
  | zero =>
    intro a b c A len cap w h hU
    obtain ⟨A', c', h⟩ := h
    cases h
    exact nil a b c _ _ w hU
  | succ n ih =>
    intro a b c A len cap w h hU
    by_cases h0 : len = 0
    · subst h0
      exact nil a b c A cap w hU
    · obtain ⟨g, rfl⟩ : ∃ g, A = some ⟨g, 0, none⟩ := by
        rcases h with ⟨A', c', h⟩ | ⟨g2, len2, cap2, cells, h, _⟩
        · cases h; exact absurd rfl h0
        · cases h; exact ⟨g2, rfl⟩
      have HSh := Aside0.mk h
      have HU := Aside0.mk hU
      have IH := Aside0.mk ih
      clear h hU ih nil h0
      go_enter Tryd.func10, Tryd.ntmps10
      go_wp2
      go_loopw [2] (fun i wr => ∃ k : Nat, i = .int .i64 k ∧ k ≤ len ∧ wr.heap[w.heap.size]? = some (.cells #[.int .u8 a, .string b, .int .i64 c, .slice (some ⟨g, 0, none⟩) len cap] 24 (0, 0)) ∧ KB B U w wr ∧ ∀ m u, Sh m w B U u → Sh m wr B U u) (fun i _ => len - (intOf i).toNat)
      case atStart => exact ⟨0, rfl, Nat.zero_le _, blk_new _ _, .of_below ((Below.refl _ _).alloc (Nat.le_refl _) _), fun m u h => keep_alloc' HU.out _ m u h⟩
      case round =>
        obtain ⟨k, rfl, hk, hblk, hkb, hpr⟩ := hrel
        have c3 := blk_cell hblk 3
        have HBk := Aside0.mk hblk
        have HKB := Aside0.mk hkb
        have HPr := Aside0.mk hpr
        by_cases hlt : k < len
        · obtain ⟨g1, g2, g3, _, a1, b1, c1, A', l', c', x0, x1, x2, x3, x4⟩ := (hpr _ _ HSh.out).at_ hlt
          have hcall := IH.out a1 b1 c1 A' l' c' wr x4 (by have := HU.out; have := hkb.size; omega)
          have HCall := Aside0.mk hcall
          have G1 := Aside0.mk g1
          have G2 := Aside0.mk g2
          have d1 : decide ((k : Int) < (len : Int)) = true := decide_eq_true (by omega)
          have d2 : (k < len) = True := eq_true hlt
          have d3 : ((k : Int) < (len : Int)) = True := eq_true (by omega)
          have d4 : (0 ≤ (k : Int)) = True := eq_true (by omega)
          have q4 : IntKind.i64.wrap ((k : Int) + 1) = (k : Int) + 1 := IntWalk.i64_in _ (by omega)
          clear hcall x4 hblk hkb hpr g1 g2 g3
          go_wp2_with (first | (go_at_call 10; (refine (HCall.out).mono ?_); rintro e_ w2 ⟨rfl, hb2, hp2⟩; have f0 := hb2.blk HBk.out (.inr HU.out); obtain ⟨-, -, -, ⟨cells, hcs⟩, a2, b2, c2, A2, l2, cc2, y0, y1, y2, y3, -⟩ := (hp2 _ _ (HPr.out _ _ HSh.out)).at_ hlt; have s3 := blk_cell f0 3; have z0 := blk_frozen hcs (k * 4); have z1 := blk_frozen hcs (k * 4 + 1); have z2 := blk_frozen hcs (k * 4 + 2); have z3 := blk_frozen hcs (k * 4 + 3); have F0 := Aside0.mk f0; have HB2 := Aside0.mk hb2; have HP2 := Aside0.mk hp2; clear f0 hb2 hp2 hcs))
          refine ⟨⟨k + 1, by go_num, by omega, (over_far (by have := G2.out; have := HU.out; omega) k _).trans F0.out, ((((HKB.out.trans HB2.out).set G1.out G2.out _).set G1.out G2.out _).set G1.out G2.out _).set G1.out G2.out _, fun m u h => Sh.over_ m g k _ (HP2.out m u (HPr.out m u h))⟩, ?_⟩
          simp [intOf]; omega
        · have d1 : decide ((k : Int) < (len : Int)) = false := decide_eq_false (by omega)
          have d2 : (k < len) = False := eq_false hlt
          clear hblk hkb hpr
          go_wp2
          go_end0
          exact ⟨rfl, HKB.out, HPr.out⟩
theorem R_Sh (N : Nat) : ∀ (xs : List S24) (v : Value) (w : World) (base : Nat) (ok : Nat → Prop), (xs.map szT).sum < N → N ≤ 3000 → Kd.R k24 24 w base ok v xs → Sh N w base w.heap.size v := by
  induction N with
  | zero => exact fun xs v w base ok h => absurd h (Nat.not_lt_zero _)
  | succ N ih =>
    intro xs v w base ok hN hN2 hR
    rcases Nat.eq_zero_or_pos xs.length with h0 | hp
    · obtain ⟨A, c, rfl⟩ := Kd.R_slice hR
      rw [h0]; exact Sh.nil_ _ _ _ _ _ _
    · obtain ⟨hok, inner, ho, hr⟩ := hR
      have hlen := len_le_sum xs xs.length (Nat.le_refl _)
      rw [List.take_length] at hlen
      rcases ho with ⟨hil, ⟨he, h0⟩ | ⟨g, cap, cur, rfl, hb, hh, hnc, hcm, hcs, ht⟩⟩
      · omega
      · have hsz : k24.sz = 4 := rfl
        rw [hsz] at hr hcs ht hil
        have hgs := blk_lt hh
        refine .inr ⟨g, xs.length, cap, cur, rfl, hb, hgs, hh, by omega, by omega, fun i hi => ?_⟩
        have hm := hr.2 i xs[i] (List.getElem?_eq_getElem hi)
        obtain ⟨v', hc, hR'⟩ := k24_openM hm
        have hget : ∀ j (u : Value), j < 4 → [Value.int .u8 xs[i].f0, .string xs[i].f1, .int .i64 xs[i].f2, v'][j]? = some u → cur[i * 4 + j]? = some u := fun j u hj hu => by
          rw [← hc, List.getElem?_take_of_lt hj, List.getElem?_drop, ← ht, List.getElem?_take_of_lt (by omega)] at hu
          simpa using hu
        have hs : szT xs[i] ≤ (xs.map szT).sum := sum_mem (List.mem_map_of_mem (f := szT) (List.getElem_mem hi))
        have hs2 := szT_eq xs[i]
        exact ⟨_, _, _, v', hget 0 _ (by omega) rfl, hget 1 _ (by omega) rfl, hget 2 _ (by omega) rfl, hget 3 _ (by omega) rfl, ih xs[i].f3 v' w base _ (by omega) (by omega) hR'⟩
end Go.Proofs.YtfaohklglblcbaaDoor.Q
