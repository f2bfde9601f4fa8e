/- FieldsKnown: the plain law over the printed functions: the examples of the chapter, and a text of just the bound's size. -/
import Derived.Test.YtiienmifjebdlaaQx17
import Derived.Test.YtiienmifjebdlaaQx21
namespace Go.Proofs.Ytiienmifjebdlaa.Q
open Go.RowKit Go.Proofs.YtiienmifjebdlaaW.PrintWords Go.Proofs.YtiienmifjebdlaaW.PrintLast Go.Proofs.YtiienmifjebdlaaW.PrintMore
set_option linter.unusedVariables false
/-- t begins with the bytes of s. -/
structure Begins (s t : ByteArray) : Prop where
  le : s.size ≤ t.size
  at_ : ∀ j : Nat, j < s.size → bt t (j : Int) = bt s (j : Int)
  cut : ∀ i c : Nat, c ≤ s.size → t.extract i c = s.extract i c
theorem begins_append (s x : ByteArray) : Begins s (s ++ x) := by
  refine ⟨by rw [ByteArray.size_append]; omega, fun j hj => ?_, fun i c hc => ?_⟩
  · unfold bt
    simp only [Int.toNat_natCast]
    rw [dif_pos (by rw [ByteArray.size_append]; omega), dif_pos hj, ByteArray.getElem_append_left hj]
  · apply ByteArray.ext
    rw [ByteArray.data_extract, ByteArray.data_extract, ByteArray.data_append]
    rw [Array.extract_append]
    have : s.data.size = s.size := rfl
    rw [show (x.data.extract (i - s.data.size) (c - s.data.size)) = #[] from by simp; omega]
    simp
theorem bad_none (s : ByteArray) (d : Nat) : ∀ i, badFrom s d i = none ↔ ∀ j : Nat, i ≤ j → j < i + d → mayB (bt s (j : Int)) = true := by
  induction d with
  | zero => intro i; exact ⟨fun _ j h1 h2 => by omega, fun _ => rfl⟩
  | succ d ih =>
    intro i
    simp only [badFrom]
    by_cases q : mayB (bt s (i : Int)) = true
    · rw [if_pos q, ih (i + 1)]
      constructor
      · intro h j h1 h2
        by_cases e : j = i
        · rw [e]; exact q
        · exact h j (by omega) (by omega)
      · intro h j h1 h2; exact h j (by omega) (by omega)
    · rw [if_neg q]
      exact ⟨fun h => by simp at h, fun h => absurd (h i (by omega) (by omega)) q⟩
theorem bt_append_left (s x : ByteArray) (j : Nat) (hj : j < s.size) : bt (s ++ x) (j : Int) = bt s (j : Int) := (begins_append s x).at_ j hj
theorem bt_append_right (s x : ByteArray) (j : Nat) (hj : j < x.size) : bt (s ++ x) ((s.size + j : Nat) : Int) = bt x (j : Int) := by
  unfold bt
  simp only [Int.toNat_natCast]
  rw [dif_pos (by rw [ByteArray.size_append]; omega), dif_pos hj, ByteArray.getElem_append_right (by omega)]
  simp
theorem colon_at (s : ByteArray) (c : Nat) : ∀ (i d : Nat), c < d → (∀ j : Nat, j < c → bt s ((i + j : Nat) : Int) ≠ 58 ∧ bt s ((i + j : Nat) : Int) ≠ 10) → bt s ((i + c : Nat) : Int) = 58 → colonFrom s d i = some (i + c) := by
  induction c with
  | zero =>
    intro i d hd _ h
    obtain ⟨d, rfl⟩ : ∃ m, d = m + 1 := ⟨d - 1, by omega⟩
    simp only [colonFrom]; rw [Nat.add_zero] at h; rw [if_pos h]; rfl
  | succ c ih =>
    intro i d hd hno h
    obtain ⟨d, rfl⟩ : ∃ m, d = m + 1 := ⟨d - 1, by omega⟩
    have h0 := hno 0 (by omega)
    rw [Nat.add_zero] at h0
    simp only [colonFrom]
    rw [if_neg h0.1, if_neg h0.2, ih (i + 1) d (by omega) (fun j hj => by rw [show i + 1 + j = i + (j + 1) from by omega]; exact hno (j + 1) (by omega)) (by rw [show i + 1 + c = i + (c + 1) from by omega]; exact h)]
    congr 1; omega
theorem extract_behind (s x : ByteArray) (c : Nat) : (s ++ x).extract s.size (s.size + c) = x.extract 0 c := by
  apply ByteArray.ext
  rw [ByteArray.data_extract, ByteArray.data_extract, ByteArray.data_append, Array.extract_append]
  have e : s.data.size = s.size := rfl
  rw [e, show s.data.extract s.size (s.size + c) = #[] from by simp]
  simp
def authText : ByteArray := ⟨#[65, 117, 116, 104, 111, 114, 105, 122, 101, 114, 58]⟩
def blanks (n : Nat) : ByteArray := ⟨Array.replicate n 32⟩
/-- the name Authorizer, its colon, and n blanks. -/
def Ab (n : Nat) : ByteArray := authText ++ blanks n
theorem blanks_size (n : Nat) : (blanks n).size = n := by show (Array.replicate n (32 : UInt8)).size = n; simp
theorem Ab_size (n : Nat) : (Ab n).size = 11 + n := by unfold Ab; rw [ByteArray.size_append, blanks_size]; rfl
theorem blanks_add (m n : Nat) : blanks m ++ blanks n = blanks (m + n) := by
  apply ByteArray.ext
  rw [ByteArray.data_append]
  show Array.replicate m (32 : UInt8) ++ Array.replicate n 32 = Array.replicate (m + n) 32
  simp
theorem blanks_one : (⟨#[32]⟩ : ByteArray) = blanks 1 := rfl
theorem Ab_tail (n : Nat) : (Ab n).extract 11 (Ab n).size = blanks n := by
  rw [Ab_size]
  have e := extract_behind authText (blanks n) n
  rw [show authText.size = 11 from rfl] at e
  unfold Ab
  rw [e]
  apply ByteArray.ext
  rw [ByteArray.data_extract]
  show (Array.replicate n (32 : UInt8)).extract 0 n = Array.replicate n 32
  simp
theorem Ab_grow (n : Nat) : (Ab n ++ (Ab n).extract 11 (Ab n).size) ++ (⟨#[32]⟩ : ByteArray) = Ab (2 * n + 1) := by
  rw [Ab_tail, blanks_one]
  unfold Ab
  rw [ByteArray.append_assoc, ByteArray.append_assoc, blanks_add, blanks_add]
  congr 2; omega
theorem Ab_cut (m n : Nat) (h : m ≤ n) : (Ab n).extract 0 (11 + m) = Ab m := by
  unfold Ab
  apply ByteArray.ext
  rw [ByteArray.data_extract, ByteArray.data_append, ByteArray.data_append, Array.extract_append]
  have e : authText.data.size = 11 := rfl
  rw [e, show authText.data.extract 0 (11 + m) = authText.data from by rw [Array.extract_eq_self_iff]; right; rw [e]; omega]
  congr 1
  show (Array.replicate n (32 : UInt8)).extract (0 - 11) (11 + m - 11) = Array.replicate m 32
  simp; omega
theorem Ab_head (n : Nat) (j : Nat) (h : j < 11) : bt (Ab n) (j : Int) = bt authText (j : Int) := bt_append_left authText (blanks n) j h
theorem Ab_blank (n : Nat) (j : Nat) (h1 : 11 ≤ j) (h2 : j < 11 + n) : bt (Ab n) (j : Int) = 32 := by
  have e := bt_append_right authText (blanks n) (j - 11) (by rw [blanks_size]; omega)
  rw [show authText.size + (j - 11) = j from by rw [show authText.size = 11 from rfl]; omega] at e
  unfold Ab; rw [e]
  unfold bt
  rw [dif_pos (by rw [blanks_size, Int.toNat_natCast]; omega)]
  show (((Array.replicate n (32 : UInt8))[((j - 11 : Nat) : Int).toNat]'_).toNat : Int) = 32
  simp
theorem skip_starts (s : ByteArray) (l : List S28) (d : Nat) : ∀ i, i + d = s.size → (∀ j : Nat, i ≤ j → j < s.size → startsB s j = false) → splitFrom s d i l = splitFrom s 0 s.size l := by
  induction d with
  | zero => intro i hi _; rw [show s.size = i from by omega]
  | succ d ih =>
    intro i hi h
    have h0 := h i (Nat.le_refl _) (by omega)
    simp only [splitFrom] at ih ⊢
    rw [if_neg (by rw [h0]; simp)]
    exact ih (i + 1) (by omega) (fun j h1 h2 => h j (by omega) h2)
theorem Ab_starts (n : Nat) (j : Nat) (h1 : 1 ≤ j) (h2 : j < 11 + n) : startsB (Ab n) j = false := by
  unfold startsB
  by_cases q : 11 ≤ j
  · rw [Ab_blank n j q h2]; simp [begB, isBlank]
  · have e : bt (Ab n) ((j - 1 : Nat) : Int) ≠ 10 := by
      rw [Ab_head n (j - 1) (by omega)]
      have hj : j - 1 < 10 := by omega
      generalize j - 1 = i at hj
      match i, hj with
      | 0, _ | 1, _ | 2, _ | 3, _ | 4, _ | 5, _ | 6, _ | 7, _ | 8, _ | 9, _ => decide
    rw [beq_eq_false_iff_ne.mpr e, show (j == 0) = false from by simp; omega]; rfl
theorem Ab_split (n : Nat) (h : 11 + n ≤ 65536) : splitS (Ab n) = ([⟨2, 0, 11, ((11 + n : Nat) : Int)⟩], 0, 0) := by
  have hz := Ab_size n
  have h0 : bt (Ab n) 0 = 65 := Ab_head n 0 (by omega)
  have hbad : badFrom (Ab n) (Ab n).size 0 = none := by
    rw [bad_none]
    intro j _ hj
    by_cases q : 11 ≤ j
    · rw [Ab_blank n j q (by omega)]; rfl
    · rw [Ab_head n j (by omega)]
      have hj : j < 11 := by omega
      match j, hj with
      | 0, _ | 1, _ | 2, _ | 3, _ | 4, _ | 5, _ | 6, _ | 7, _ | 8, _ | 9, _ | 10, _ => decide
  have hc : colonFrom (Ab n) ((Ab n).size - 0) 0 = some 10 := by
    have e := colon_at (Ab n) 10 0 ((Ab n).size - 0) (by omega) (fun j hj => by
      rw [Nat.zero_add, Ab_head n j (by omega)]
      match j, hj with
      | 0, _ | 1, _ | 2, _ | 3, _ | 4, _ | 5, _ | 6, _ | 7, _ | 8, _ | 9, _ => decide) (by rw [Nat.zero_add, Ab_head n 10 (by omega)]; decide)
    rw [Nat.zero_add] at e; exact e
  have hh : headOf (Ab n) 0 = (2, 11, true) := by
    unfold headOf
    rw [hc]
    simp only
    have e : (Ab n).extract 0 10 = authText.extract 0 10 := (begins_append authText (blanks n)).cut 0 10 (by decide)
    rw [e, show kindFrom (authText.extract 0 10) 7 0 = (2, true) from by decide +kernel]
    rfl
  have hst : startsB (Ab n) 0 = true := by unfold startsB; rw [show ((0 : Nat) : Int) = 0 from rfl, h0]; rfl
  unfold splitS
  rw [if_neg (by omega), hbad]
  simp only
  rw [if_neg (by rw [h0]; rintro (q | q); · omega
                 · exact absurd q (by decide))]
  obtain ⟨m, hm⟩ : ∃ m, (Ab n).size = m + 1 := ⟨(Ab n).size - 1, by omega⟩
  have hsk := fun l => skip_starts (Ab n) l m 1 (by omega) (fun j h1 h2 => Ab_starts n j h1 (by omega))
  rw [hm]
  simp only [splitFrom]
  rw [if_pos hst, hh, show errOf [] ((2 : Int), (11 : Int), true) = 0 from rfl, if_pos rfl, Nat.zero_add, hsk]
  simp only [splitFrom, closeL, List.set_nil, List.nil_append]
  refine (if_pos (show hasK [(⟨2, ((0 : Nat) : Int), ((0 : Nat) : Int) + 11, ((Ab n).size : Int)⟩ : S28)] 2 = true from rfl)).trans ?_
  rw [hz]; rfl
theorem split_big (n : Nat) (h : 65536 < 11 + n) : splitS (Ab n) = ([], 0, 3) := by unfold splitS; rw [if_pos (by rw [Ab_size]; exact h)]
theorem long_step (k n : Nat) (h : 11 + n < 65536) : vouchlaw13_FieldsKnown.l0 (k + 1) (Ab n) = if 11 + (2 * n + 1) > 65536 then vouchlaw13_FieldsKnown.l0 k (Ab 65525) else vouchlaw13_FieldsKnown.l0 k (Ab (2 * n + 1)) := by
  have hz := Ab_size n
  have hb : ((Ab n).extract 11 (Ab n).size).size = n := by rw [Ab_tail, blanks_size]
  have hg : (Ab n ++ (Ab n).extract 11 (Ab n).size).size = 11 + n + n := by rw [ByteArray.size_append, hb, hz]
  have hs := Ab_size (2 * n + 1)
  simp only [vouchlaw13_FieldsKnown.l0]
  rw [if_pos (by omega), if_pos (by omega), if_pos (by rw [hb, hz]; omega), if_pos (by rw [hg]; omega), Ab_grow, hs]
  by_cases q : 11 + (2 * n + 1) > 65536
  · rw [if_pos (by omega), if_pos q, if_pos (by decide), if_pos (by omega)]
    rw [show (65536 : Nat) = 11 + 65525 from rfl, Ab_cut 65525 _ (by omega)]
  · rw [if_neg (by omega), if_neg q]
theorem Ab_one (n : Nat) : (Ab n ++ (⟨#[32]⟩ : ByteArray)) = Ab (n + 1) := by rw [blanks_one]; unfold Ab; rw [ByteArray.append_assoc, blanks_add]
theorem long_end' (k n : Nat) (h : 11 + n = 65536) : vouchlaw13_FieldsKnown.l0 (k + 1) (Ab n) = vouchlaw13_FieldsKnown.j1 k false := by
  have hz := Ab_size n
  have e1 : splitS (Ab n) = ([⟨2, 0, 11, ((11 + n : Nat) : Int)⟩], 0, 0) := Ab_split n (by omega)
  have e2 : splitS (Ab (n + 1)) = ([], 0, 3) := split_big (n + 1) (by omega)
  have h1 : fields_Split.f (Ab n) = some ([⟨2, 0, 11, ((11 + n : Nat) : Int)⟩], 0, 0) := by unfold fields_Split.f; rw [e1]
  have h2 : vouchlaw13_split.f (Ab (n + 1)) 3 0 = some true := by
    unfold vouchlaw13_split.f fields_Split.f; rw [e2]; rfl
  have er : (rd_T28 [(⟨2, 0, 11, ((11 + n : Nat) : Int)⟩ : S28)] 0).f3 = ((11 + n : Nat) : Int) := rfl
  have el : (([(⟨2, 0, 11, ((11 + n : Nat) : Int)⟩ : S28)].length : Nat) : Int) = 1 := rfl
  simp only [vouchlaw13_FieldsKnown.l0]
  rw [if_neg (by omega), h1, Ab_one, h2]
  simp only [Option.bind_some]
  rw [if_pos trivial, el, if_pos rfl, if_pos (by decide), er, if_pos (by omega), if_pos (by omega)]
  rfl
theorem long_end (k : Nat) : vouchlaw13_FieldsKnown.l0 (k + 1) (Ab 65525) = vouchlaw13_FieldsKnown.j1 k false := long_end' k 65525 (by decide)
theorem long_all (k : Nat) : vouchlaw13_FieldsKnown.l0 (k + 17) (Ab 0) = vouchlaw13_FieldsKnown.j1 k false := by
  have s0 : vouchlaw13_FieldsKnown.l0 (k + 17) (Ab 0) = vouchlaw13_FieldsKnown.l0 (k + 16) (Ab 1) := (long_step (k + 16) 0 (by decide)).trans (if_neg (by decide))
  have s1 : vouchlaw13_FieldsKnown.l0 (k + 16) (Ab 1) = vouchlaw13_FieldsKnown.l0 (k + 15) (Ab 3) := (long_step (k + 15) 1 (by decide)).trans (if_neg (by decide))
  have s2 : vouchlaw13_FieldsKnown.l0 (k + 15) (Ab 3) = vouchlaw13_FieldsKnown.l0 (k + 14) (Ab 7) := (long_step (k + 14) 3 (by decide)).trans (if_neg (by decide))
  have s3 : vouchlaw13_FieldsKnown.l0 (k + 14) (Ab 7) = vouchlaw13_FieldsKnown.l0 (k + 13) (Ab 15) := (long_step (k + 13) 7 (by decide)).trans (if_neg (by decide))
  have s4 : vouchlaw13_FieldsKnown.l0 (k + 13) (Ab 15) = vouchlaw13_FieldsKnown.l0 (k + 12) (Ab 31) := (long_step (k + 12) 15 (by decide)).trans (if_neg (by decide))
  have s5 : vouchlaw13_FieldsKnown.l0 (k + 12) (Ab 31) = vouchlaw13_FieldsKnown.l0 (k + 11) (Ab 63) := (long_step (k + 11) 31 (by decide)).trans (if_neg (by decide))
  have s6 : vouchlaw13_FieldsKnown.l0 (k + 11) (Ab 63) = vouchlaw13_FieldsKnown.l0 (k + 10) (Ab 127) := (long_step (k + 10) 63 (by decide)).trans (if_neg (by decide))
  have s7 : vouchlaw13_FieldsKnown.l0 (k + 10) (Ab 127) = vouchlaw13_FieldsKnown.l0 (k + 9) (Ab 255) := (long_step (k + 9) 127 (by decide)).trans (if_neg (by decide))
  have s8 : vouchlaw13_FieldsKnown.l0 (k + 9) (Ab 255) = vouchlaw13_FieldsKnown.l0 (k + 8) (Ab 511) := (long_step (k + 8) 255 (by decide)).trans (if_neg (by decide))
  have s9 : vouchlaw13_FieldsKnown.l0 (k + 8) (Ab 511) = vouchlaw13_FieldsKnown.l0 (k + 7) (Ab 1023) := (long_step (k + 7) 511 (by decide)).trans (if_neg (by decide))
  have s10 : vouchlaw13_FieldsKnown.l0 (k + 7) (Ab 1023) = vouchlaw13_FieldsKnown.l0 (k + 6) (Ab 2047) := (long_step (k + 6) 1023 (by decide)).trans (if_neg (by decide))
  have s11 : vouchlaw13_FieldsKnown.l0 (k + 6) (Ab 2047) = vouchlaw13_FieldsKnown.l0 (k + 5) (Ab 4095) := (long_step (k + 5) 2047 (by decide)).trans (if_neg (by decide))
  have s12 : vouchlaw13_FieldsKnown.l0 (k + 5) (Ab 4095) = vouchlaw13_FieldsKnown.l0 (k + 4) (Ab 8191) := (long_step (k + 4) 4095 (by decide)).trans (if_neg (by decide))
  have s13 : vouchlaw13_FieldsKnown.l0 (k + 4) (Ab 8191) = vouchlaw13_FieldsKnown.l0 (k + 3) (Ab 16383) := (long_step (k + 3) 8191 (by decide)).trans (if_neg (by decide))
  have s14 : vouchlaw13_FieldsKnown.l0 (k + 3) (Ab 16383) = vouchlaw13_FieldsKnown.l0 (k + 2) (Ab 32767) := (long_step (k + 2) 16383 (by decide)).trans (if_neg (by decide))
  have s15 : vouchlaw13_FieldsKnown.l0 (k + 2) (Ab 32767) = vouchlaw13_FieldsKnown.l0 (k + 1) (Ab 65525) := (long_step (k + 1) 32767 (by decide)).trans (if_pos (by decide))
  rw [s0, s1, s2, s3, s4, s5, s6, s7, s8, s9, s10, s11, s12, s13, s14, s15]
  exact long_end k
theorem known_rest : vouchlaw13_FieldsKnown.j1 60 false = some true := by decide +kernel
theorem FieldsKnown_pure : vouchlaw13_FieldsKnown.Pure := by
  refine ⟨60 + 17, ?_⟩
  unfold vouchlaw13_FieldsKnown.f
  rw [show (⟨#[65, 117, 116, 104, 111, 114, 105, 122, 101, 114, 58]⟩ : ByteArray) = Ab 0 from rfl, long_all 60]
  exact known_rest
end Go.Proofs.Ytiienmifjebdlaa.Q
