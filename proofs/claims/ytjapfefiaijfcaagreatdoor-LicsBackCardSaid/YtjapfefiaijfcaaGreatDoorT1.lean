/- Contracts of the scanner's small functions: what each call comes to, at every text. -/
import Derived.Test.YtjapfefiaijfcaaGreatDoorQx0
namespace Go.Proofs.YtjapfefiaijfcaaGreatDoor.Q
open Go.RowKit Go.Proofs.YtjapfefiaijfcaaGreatDoorW.PrintWords Go.Proofs.YtjapfefiaijfcaaGreatDoorW.PrintLast Go.Proofs.YtjapfefiaijfcaaGreatDoorW.PrintMore
set_option linter.unusedVariables false
/-- A scanner behind a pointer: the text and how far it was read. -/
structure Scan (w : World) (g : Nat) (s : ByteArray) (at_ : Int) : Prop where
  blk : w.heap[g]? = some (.cells #[.string s, .int .i64 at_] 94 (0, 0))
theorem Scan.c0 {w : World} {g : Nat} {s : ByteArray} {a : Int} (h : Scan w g s a) : w.cell? ⟨g, 0, none⟩ = some (.string s) := by simp [World.cell?, h.blk]
theorem Scan.c1 {w : World} {g : Nat} {s : ByteArray} {a : Int} (h : Scan w g s a) : w.cell? ⟨g, 1, none⟩ = some (.int .i64 a) := by simp [World.cell?, h.blk]
theorem Scan.f1 {w : World} {g : Nat} {s : ByteArray} {a : Int} (h : Scan w g s a) : w.frozen? ⟨g, 1, none⟩ = false := by simp [World.frozen?, h.blk]
theorem Scan.lt {w : World} {g : Nat} {s : ByteArray} {a : Int} (h : Scan w g s a) : g < w.heap.size := (Array.getElem?_eq_some_iff.1 h.blk).1
theorem Scan.keep {w w1 : World} {g : Nat} {s : ByteArray} {a : Int} (h : Scan w g s a) (hb : Below w.heap.size w w1) : Scan w1 g s a := ⟨(hb.block g h.lt).trans h.blk⟩
theorem Scan.drewN {w : World} {g : Nat} {s : ByteArray} {a : Int} (h : Scan w g s a) (n : Nat) : Scan (w.drewN n) g s a := ⟨h.blk⟩
theorem Scan.drew {w : World} {g : Nat} {s : ByteArray} {a : Int} (h : Scan w g s a) : Scan w.drew g s a := ⟨h.blk⟩
def scanAt (w : World) (g : Nat) : Nat := match w.cell? ⟨g, 1, none⟩ with | some (.int _ n) => n.toNat | _ => 0
theorem Scan.at' {w : World} {g : Nat} {s : ByteArray} {a : Int} (h : Scan w g s a) : scanAt w g = a.toNat := by unfold scanAt; rw [h.c1]
theorem Scan.set {w : World} {g : Nat} {s : ByteArray} {a : Int} (h : Scan w g s a) (b : Int) : Scan (w.setCell ⟨g, 1, none⟩ (.int .i64 b)) g s b := by
  refine ⟨?_⟩
  simp [World.setCell, Array.getElem?_modify, h.blk]

def isLetter (c : Int) : Bool := (decide (97 ≤ c) && decide (c ≤ 122)) || (decide (65 ≤ c) && decide (c ≤ 90)) || (c == 95)
def isDigit (c : Int) : Bool := decide (48 ≤ c) && decide (c ≤ 57)
set_option maxHeartbeats 1000000 in
theorem digit_same (c : Int) (w : World) : Calls Tryz.prog 100 #[.int .u8 c] w fun e w' => e = .returned (.bool (isDigit c)) ∧ w = w' := by
  unfold isDigit
  by_cases h1 : 48 ≤ c
  · have d1 : decide (48 ≤ c) = true := decide_eq_true h1
    rw [d1]
    go_enter Tryz.func100, Tryz.ntmps100
    go_wp2
    go_ret
    exact ⟨by simp, rfl⟩
  · have d1 : decide (48 ≤ c) = false := decide_eq_false h1
    rw [d1]
    clear h1
    go_enter Tryz.func100, Tryz.ntmps100
    go_wp2
    go_ret
    exact ⟨by simp, rfl⟩

set_option maxHeartbeats 2000000 in
theorem letter_same (c : Int) (w : World) : Calls Tryz.prog 97 #[.int .u8 c] w fun e w' => e = .returned (.bool (isLetter c)) ∧ w = w' := by
  obtain ⟨b, hb⟩ : ∃ b, b = isLetter c := ⟨_, rfl⟩
  have HB := Aside0.mk hb
  rw [← hb]
  clear hb
  by_cases h1 : 97 ≤ c
  · have d1 : decide (97 ≤ c) = true := decide_eq_true h1
    by_cases h2 : c ≤ 122
    · have d2 : decide (c ≤ 122) = true := decide_eq_true h2
      have hb : b = true := by rw [HB.out]; unfold isLetter; rw [d1, d2]; rfl
      subst hb
      clear h1 h2
      go_enter Tryz.func97, Tryz.ntmps97
      go_wp2
      go_ret
      exact ⟨rfl, rfl⟩
    · have d2 : decide (c ≤ 122) = false := decide_eq_false h2
      have d3 : decide (65 ≤ c) = true := decide_eq_true (by omega)
      have d4 : decide (c ≤ 90) = false := decide_eq_false (by omega)
      have d5 : (c == 95) = false := beq_eq_false_iff_ne.mpr (by omega)
      have hb : b = false := by rw [HB.out]; unfold isLetter; rw [d1, d2, d3, d4, d5]; rfl
      subst hb
      clear h1 h2
      go_enter Tryz.func97, Tryz.ntmps97
      go_wp2
      go_ret
      exact ⟨rfl, rfl⟩
  · have d1 : decide (97 ≤ c) = false := decide_eq_false h1
    by_cases h3 : 65 ≤ c
    · have d3 : decide (65 ≤ c) = true := decide_eq_true h3
      by_cases h4 : c ≤ 90
      · have d4 : decide (c ≤ 90) = true := decide_eq_true h4
        have hb : b = true := by rw [HB.out]; unfold isLetter; rw [d1, d3, d4]; rfl
        subst hb
        clear h1 h3 h4
        go_enter Tryz.func97, Tryz.ntmps97
        go_wp2
        go_ret
        exact ⟨rfl, rfl⟩
      · have d4 : decide (c ≤ 90) = false := decide_eq_false h4
        cases h5 : (c == 95)
        all_goals
          have hb : b = (c == 95) := by rw [HB.out]; unfold isLetter; rw [d1, d3, d4]; rfl
          rw [h5] at hb
          subst hb
          clear h1 h3 h4
          go_enter Tryz.func97, Tryz.ntmps97
          go_wp2
          go_ret
          exact ⟨rfl, rfl⟩
    · have d3 : decide (65 ≤ c) = false := decide_eq_false h3
      have h5 : (c == 95) = false := beq_eq_false_iff_ne.mpr (by omega)
      have hb : b = false := by rw [HB.out]; unfold isLetter; rw [d1, d3, h5]; rfl
      subst hb
      clear h1 h3
      go_enter Tryz.func97, Tryz.ntmps97
      go_wp2
      go_ret
      exact ⟨rfl, rfl⟩
def isName (c : Int) : Bool := isLetter c || isDigit c
set_option maxHeartbeats 2000000 in
theorem name_same (c : Int) (w : World) : Calls Tryz.prog 99 #[.int .u8 c] w fun e w' => e = .returned (.bool (isName c)) ∧ w = w' := by
  unfold isName
  have L := letter_same c
  have D := digit_same c
  have HL := Aside0.mk L
  have HD := Aside0.mk D
  clear L D
  cases hl : isLetter c
  · rw [hl] at HL
    go_enter Tryz.func99, Tryz.ntmps99
    go_wp2_with (first | (go_at_call 97; (with_reducible refine (HL.out _).mono ?_); rintro e w' ⟨rfl, rfl⟩) | (go_at_call 100; (with_reducible refine (HD.out _).mono ?_); rintro e w' ⟨rfl, rfl⟩))
    go_ret
    exact ⟨by simp, rfl⟩
  · rw [hl] at HL
    go_enter Tryz.func99, Tryz.ntmps99
    go_wp2_with (first | (go_at_call 97; (with_reducible refine (HL.out _).mono ?_); rintro e w' ⟨rfl, rfl⟩) | (go_at_call 100; (with_reducible refine (HD.out _).mono ?_); rintro e w' ⟨rfl, rfl⟩))
    go_ret
    exact ⟨by simp, rfl⟩
/-- from a place on, the bytes of a kind. -/
def whileFrom (p : Int → Bool) (s : ByteArray) : Nat → Nat → Nat
  | 0, i => i
  | d + 1, i => if p (bt s i) = true then whileFrom p s d (i + 1) else i
def whileS (p : Int → Bool) (s : ByteArray) (i : Nat) : Nat := whileFrom p s (s.size - i) i
theorem bt_atN' (s : ByteArray) (k : Nat) : ∀ h : k < s.size, ((s[k]'h).toNat : Int) = bt s (k : Int) := fun h => by simp [bt, h]
theorem whileS_end (p : Int → Bool) (s : ByteArray) (i : Nat) (h : s.size ≤ i) : whileS p s i = i := by unfold whileS; rw [show s.size - i = 0 from by omega]; rfl
theorem whileS_step (p : Int → Bool) (s : ByteArray) (i : Nat) (h : i < s.size) : whileS p s i = if p (bt s i) = true then whileS p s (i + 1) else i := by
  unfold whileS
  rw [show s.size - i = (s.size - (i + 1)) + 1 from by omega]; rfl

set_option maxHeartbeats 4000000 in
theorem tokens_while_digit.calls (g : Nat) (s : ByteArray) (a0 : Int) (at_ : Nat) (w : World) (hS : Scan w g s a0) (hs : s.size ≤ 140737488351232) (ha : at_ ≤ s.size) :
    Calls Tryz.prog 98 #[.pointer (some ⟨g, 0, none⟩), .int .i64 at_, .func (.func 100) #[] #[]] w fun e w' => e = .returned (.int .i64 (whileS isDigit s at_ : Nat)) ∧ w = w' := by
  obtain ⟨n, hn⟩ : ∃ n, n = whileS isDigit s at_ := ⟨_, rfl⟩
  rw [← hn]
  have HN := Aside0.mk hn
  have h0 := hS.c0
  clear hn
  go_enter Tryz.func98, Tryz.ntmps98
  go_wp2
  go_loop [1] (fun i => ∃ k : Nat, i = .int .i64 k ∧ k ≤ s.size ∧ n = whileS isDigit s k) (fun i => s.size - (intOf i).toNat)
  case atStart => exact ⟨at_, rfl, ha, HN.out⟩
  case round =>
    obtain ⟨k, rfl, hk, hq⟩ := hrel
    have HQ := Aside0.mk hq
    clear hq
    by_cases hlt : k < s.size
    · have hlt' : decide ((k : Int) < (s.size : Int)) = true := decide_eq_true (by omega)
      have hbt := bt_atN' s k
      obtain ⟨c, hc⟩ : ∃ c, c = bt s (k : Int) := ⟨_, rfl⟩
      rw [← hc] at hbt
      have HC := Aside0.mk hc
      have D := digit_same c
      have HD := Aside0.mk D
      clear D hc
      cases hd : isDigit c
      · have hd' : (isDigit c) = false := hd
        rw [hd'] at HD
        have e : n = k := by rw [HQ.out, whileS_step _ s k hlt, if_neg (by rw [← HC.out, hd]; simp)]
        clear hd hd'
        have HE := Aside0.mk e
        clear e
        go_wp2_with (go_at_call 100; (with_reducible refine (HD.out _).mono ?_); rintro e w' ⟨rfl, rfl⟩)
        go_ret
        exact ⟨by rw [HE.out] <;> rfl, rfl⟩
      · have hd' : (isDigit c) = true := hd
        rw [hd'] at HD
        have e : n = whileS isDigit s (k + 1) := by rw [HQ.out, whileS_step _ s k hlt, if_pos (by rw [← HC.out, hd])]
        clear hd hd'
        have HE := Aside0.mk e
        clear e
        go_wp2_with (go_at_call 100; (with_reducible refine (HD.out _).mono ?_); rintro e w' ⟨rfl, rfl⟩)
        go_round
        case rel => exact ⟨k + 1, by go_num, by omega, HE.out⟩
        case measure => simp [intOf]; omega
    · obtain rfl : k = s.size := by omega
      have hlt' : decide ((s.size : Int) < (s.size : Int)) = false := decide_eq_false (by omega)
      have e : n = s.size := by rw [HQ.out, whileS_end _ s _ (Nat.le_refl _)]
      have HE := Aside0.mk e
      clear e
      go_wp2
      go_ret
      exact ⟨by rw [HE.out] <;> rfl, rfl⟩

set_option maxHeartbeats 4000000 in
theorem tokens_while_name.calls (g : Nat) (s : ByteArray) (a0 : Int) (at_ : Nat) (w : World) (hS : Scan w g s a0) (hs : s.size ≤ 140737488351232) (ha : at_ ≤ s.size) :
    Calls Tryz.prog 98 #[.pointer (some ⟨g, 0, none⟩), .int .i64 at_, .func (.func 99) #[] #[]] w fun e w' => e = .returned (.int .i64 (whileS isName s at_ : Nat)) ∧ w = w' := by
  obtain ⟨n, hn⟩ : ∃ n, n = whileS isName s at_ := ⟨_, rfl⟩
  rw [← hn]
  have HN := Aside0.mk hn
  have h0 := hS.c0
  clear hn
  go_enter Tryz.func98, Tryz.ntmps98
  go_wp2
  go_loop [1] (fun i => ∃ k : Nat, i = .int .i64 k ∧ k ≤ s.size ∧ n = whileS isName s k) (fun i => s.size - (intOf i).toNat)
  case atStart => exact ⟨at_, rfl, ha, HN.out⟩
  case round =>
    obtain ⟨k, rfl, hk, hq⟩ := hrel
    have HQ := Aside0.mk hq
    clear hq
    by_cases hlt : k < s.size
    · have hlt' : decide ((k : Int) < (s.size : Int)) = true := decide_eq_true (by omega)
      have hbt := bt_atN' s k
      obtain ⟨c, hc⟩ : ∃ c, c = bt s (k : Int) := ⟨_, rfl⟩
      rw [← hc] at hbt
      have HC := Aside0.mk hc
      have D := name_same c
      have HD := Aside0.mk D
      clear D hc
      cases hd : isName c
      · have hd' : isName c = false := hd
        rw [hd'] at HD
        have e : n = k := by rw [HQ.out, whileS_step _ s k hlt, if_neg (by rw [← HC.out, hd]; simp)]
        clear hd hd'
        have HE := Aside0.mk e
        clear e
        go_wp2_with (go_at_call 99; (with_reducible refine (HD.out _).mono ?_); rintro e w' ⟨rfl, rfl⟩)
        go_ret
        exact ⟨by rw [HE.out] <;> rfl, rfl⟩
      · have hd' : isName c = true := hd
        rw [hd'] at HD
        have e : n = whileS isName s (k + 1) := by rw [HQ.out, whileS_step _ s k hlt, if_pos (by rw [← HC.out, hd])]
        clear hd hd'
        have HE := Aside0.mk e
        clear e
        go_wp2_with (go_at_call 99; (with_reducible refine (HD.out _).mono ?_); rintro e w' ⟨rfl, rfl⟩)
        go_round
        case rel => exact ⟨k + 1, by go_num, by omega, HE.out⟩
        case measure => simp [intOf]; omega
    · obtain rfl : k = s.size := by omega
      have hlt' : decide ((s.size : Int) < (s.size : Int)) = false := decide_eq_false (by omega)
      have e : n = s.size := by rw [HQ.out, whileS_end _ s _ (Nat.le_refl _)]
      have HE := Aside0.mk e
      clear e
      go_wp2
      go_ret
      exact ⟨by rw [HE.out] <;> rfl, rfl⟩

/-- Only one block has turned, of those that there were. -/
structure Only (g : Nat) (w w' : World) : Prop where
  os : w'.os = w.os
  tape : w'.tape = w.tape
  output : w'.output = w.output
  size : w.heap.size ≤ w'.heap.size
  block : ∀ k, k < w.heap.size → k ≠ g → w'.heap[k]? = w.heap[k]?
theorem Only.refl (g : Nat) (w : World) : Only g w w := ⟨rfl, rfl, rfl, Nat.le_refl _, fun _ _ _ => rfl⟩
theorem Only.trans {g : Nat} {a b c : World} (h : Only g a b) (k : Only g b c) : Only g a c :=
  ⟨k.os.trans h.os, k.tape.trans h.tape, k.output.trans h.output, Nat.le_trans h.size k.size, fun i hi hg => (k.block i (Nat.lt_of_lt_of_le hi h.size) hg).trans (h.block i hi hg)⟩
theorem Only.of_below {g : Nat} {w w' : World} (h : Below w.heap.size w w') : Only g w w' := ⟨h.os, h.tape, h.output, h.size, fun k hk _ => h.block k hk⟩
theorem Only.drewN {g : Nat} {w w' : World} (h : Only g w w') (n : Nat) : Only g w (w'.drewN n) := ⟨h.os, h.tape, h.output, h.size, h.block⟩
theorem Only.drew {g : Nat} {w w' : World} (h : Only g w w') : Only g w w'.drew := ⟨h.os, h.tape, h.output, h.size, h.block⟩
theorem Only.alloc {g : Nat} {w w' : World} (h : Only g w w') (o : Obj) : Only g w (w'.alloc o) := h.trans (.of_below ((Below.refl _ _).alloc (Nat.le_refl _) o))
theorem Only.set {g : Nat} {w w' : World} (h : Only g w w') (j : Nat) (v : Value) : Only g w (w'.setCell ⟨g, j, none⟩ v) :=
  h.trans ⟨rfl, rfl, rfl, by simp [World.setCell], fun k _ hg => Below.heap_setCell w' ⟨g, j, none⟩ v k hg⟩
theorem Only.far {g : Nat} {w w' : World} (h : Only g w w') {p : Addr} (hp : w.heap.size ≤ p.block) (v : Value) : Only g w (w'.setCell p v) :=
  ⟨h.os, h.tape, h.output, by simpa [World.setCell] using h.size, fun k hk hg => (Below.heap_setCell w' p v k (by omega)).trans (h.block k hk hg)⟩
theorem Only.below {g : Nat} {w w' : World} (h : Only g w w') {B : Nat} (hg : B ≤ g) (hB : B ≤ w.heap.size) : Below B w w' := ⟨h.os, h.tape, h.output, h.size, fun k hk => h.block k (by omega) (by omega)⟩
theorem Only.blk {g : Nat} {w w' : World} (h : Only g w w') {b : Nat} {o : Obj} (hb : w.heap[b]? = some o) (hne : b ≠ g) : w'.heap[b]? = some o := (h.block b (blk_lt hb) hne).trans hb
theorem Only.scan {g : Nat} {w w' : World} {s : ByteArray} {a : Int} (h : Only g w w') {b : Nat} (hS : Scan w b s a) (hne : b ≠ g) : Scan w' b s a := ⟨h.blk hS.blk hne⟩

def isBlk (c : Int) : Bool := c == 32 || c == 9 || c == 13 || c == 10
/-- behind blanks; remarks are not covered here. -/
def skipFrom (s : ByteArray) : Nat → Nat → Option Nat
  | 0, i => some i
  | d + 1, i => if bt s i = 35 then none else if isBlk (bt s i) = true then skipFrom s d (i + 1) else some i
def skipS (s : ByteArray) (i : Nat) : Option Nat := skipFrom s (s.size - i) i
theorem skipS_end (s : ByteArray) (i : Nat) (h : s.size ≤ i) : skipS s i = some i := by unfold skipS; rw [show s.size - i = 0 from by omega]; rfl
theorem skipS_step (s : ByteArray) (i : Nat) (h : i < s.size) : skipS s i = if bt s i = 35 then none else if isBlk (bt s i) = true then skipS s (i + 1) else some i := by
  unfold skipS
  rw [show s.size - i = (s.size - (i + 1)) + 1 from by omega]; rfl
theorem skipFrom_le (s : ByteArray) (d : Nat) : ∀ i j, i + d ≤ s.size → skipFrom s d i = some j → i ≤ j ∧ j ≤ s.size := by
  induction d with
  | zero => intro i j hi h; obtain rfl := Option.some.inj h; omega
  | succ d ih =>
    intro i j hi h
    simp only [skipFrom] at h
    split at h
    · cases h
    · split at h
      · have := ih (i + 1) j (by omega) h; omega
      · obtain rfl := Option.some.inj h; omega
set_option maxHeartbeats 4000000 in
theorem tokens_skip.calls (g : Nat) (s : ByteArray) (i j : Nat) (w : World) (hS : Scan w g s i) (hs : s.size ≤ 140737488351232) (hi : i ≤ s.size) (h : skipS s i = some j) :
    Calls Tryz.prog 78 #[.pointer (some ⟨g, 0, none⟩)] w fun e w' => e = .returned (.tuple #[]) ∧ Scan w' g s j ∧ Only g w w' := by
  have H := Aside0.mk h
  have HS := Aside0.mk hS
  clear h hS
  go_enter Tryz.func78, Tryz.ntmps78
  go_wp2
  go_loopw [] (fun wr => ∃ k : Nat, k ≤ s.size ∧ Scan wr g s k ∧ Only g w wr ∧ skipS s k = some j) (fun wr => s.size - scanAt wr g)
  case atStart => exact ⟨i, hi, HS.out, Only.refl _ _, H.out⟩
  case round =>
    obtain ⟨k, hk, hS, hO, hq⟩ := hrel
    have HQ := Aside0.mk hq
    have HS2 := Aside0.mk hS
    have HO := Aside0.mk hO
    have h0 := hS.c0
    have h1 := hS.c1
    have f1 := hS.f1
    clear hq hS hO
    by_cases hlt : k < s.size
    · have hlt' : decide ((k : Int) < (s.size : Int)) = true := decide_eq_true (by omega)
      have hbt := bt_atN' s k
      obtain ⟨c, hc⟩ : ∃ c, c = bt s (k : Int) := ⟨_, rfl⟩
      rw [← hc] at hbt
      have hst := skipS_step s k hlt
      rw [← hc, HQ.out] at hst
      have HST := Aside0.mk hst
      clear hst hc HQ
      by_cases c35 : c = 35
      · exfalso; have := HST.out; rw [if_pos c35] at this; cases this
      · have d35 : (c == 35) = false := beq_eq_false_iff_ne.mpr c35
        have hst := HST.out
        rw [if_neg c35] at hst
        cases hb : isBlk c
        · rw [hb, if_neg (by simp)] at hst
          have hb' := hb
          unfold isBlk at hb'
          simp only [Bool.or_eq_false_iff] at hb'
          obtain ⟨⟨⟨d32, d9⟩, d13⟩, d10⟩ := hb'
          have e : j = k := Option.some.inj hst
          have HE := Aside0.mk e
          clear e hst hb HST c35
          go_wp2
          repeat (go_quiet (fail); try go_wp2)
          refine bodyPost_ret (v := .tuple #[]) (by simp [results, Tryz.results78, go_sem]) rfl ⟨rfl, ?_, ?_⟩
          · rw [HE.out]; repeat (first | exact HS2.out | apply Scan.set | apply Scan.drewN | apply Scan.drew)
          · repeat (first | exact HO.out | apply Only.set | apply Only.drewN | apply Only.drew | apply Only.alloc)
        · rw [hb, if_pos rfl] at hst
          have HST2 := Aside0.mk hst.symm
          have hb' := hb
          unfold isBlk at hb'
          clear hst hb HST c35
          cases d32 : (c == 32)
          · cases d9 : (c == 9)
            · cases d13 : (c == 13)
              · have d10 : (c == 10) = true := by rw [d32, d9, d13] at hb'; simpa using hb'
                clear hb'
                go_wp2
                repeat (go_quiet (fail); try go_wp2)
                exact ⟨⟨k + 1, by omega, by repeat (first | exact HS2.out | apply Scan.set | apply Scan.drewN | apply Scan.drew), by repeat (first | exact HO.out | apply Only.set | apply Only.drewN | apply Only.drew | apply Only.alloc), HST2.out⟩, by
              rw [Scan.at' (g := g) (s := s) (a := (k : Int) + 1) (by repeat (first | exact HS2.out | apply Scan.set | apply Scan.drewN | apply Scan.drew)), HS2.out.at']; omega⟩
              · clear hb'
                go_wp2
                repeat (go_quiet (fail); try go_wp2)
                exact ⟨⟨k + 1, by omega, by repeat (first | exact HS2.out | apply Scan.set | apply Scan.drewN | apply Scan.drew), by repeat (first | exact HO.out | apply Only.set | apply Only.drewN | apply Only.drew | apply Only.alloc), HST2.out⟩, by
              rw [Scan.at' (g := g) (s := s) (a := (k : Int) + 1) (by repeat (first | exact HS2.out | apply Scan.set | apply Scan.drewN | apply Scan.drew)), HS2.out.at']; omega⟩
            · clear hb'
              go_wp2
              repeat (go_quiet (fail); try go_wp2)
              exact ⟨⟨k + 1, by omega, by repeat (first | exact HS2.out | apply Scan.set | apply Scan.drewN | apply Scan.drew), by repeat (first | exact HO.out | apply Only.set | apply Only.drewN | apply Only.drew | apply Only.alloc), HST2.out⟩, by
              rw [Scan.at' (g := g) (s := s) (a := (k : Int) + 1) (by repeat (first | exact HS2.out | apply Scan.set | apply Scan.drewN | apply Scan.drew)), HS2.out.at']; omega⟩
          · clear hb'
            go_wp2
            repeat (go_quiet (fail); try go_wp2)
            exact ⟨⟨k + 1, by omega, by repeat (first | exact HS2.out | apply Scan.set | apply Scan.drewN | apply Scan.drew), by repeat (first | exact HO.out | apply Only.set | apply Only.drewN | apply Only.drew | apply Only.alloc), HST2.out⟩, by
              rw [Scan.at' (g := g) (s := s) (a := (k : Int) + 1) (by repeat (first | exact HS2.out | apply Scan.set | apply Scan.drewN | apply Scan.drew)), HS2.out.at']; omega⟩
    · obtain rfl : k = s.size := by omega
      have hlt' : decide ((s.size : Int) < (s.size : Int)) = false := decide_eq_false (by omega)
      have e := HQ.out
      rw [skipS_end s _ (Nat.le_refl _)] at e
      have HE := Aside0.mk (Option.some.inj e).symm
      clear e
      go_wp2
      repeat (go_quiet (fail); try go_wp2)
      go_end0
      exact ⟨rfl, by rw [HE.out]; repeat (first | exact HS2.out | apply Scan.set | apply Scan.drewN | apply Scan.drew), by repeat (first | exact HO.out | apply Only.set | apply Only.drewN | apply Only.drew | apply Only.alloc)⟩
end Go.Proofs.YtjapfefiaijfcaaGreatDoor.Q
