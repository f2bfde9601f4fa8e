/- What Split tells of a text behind which one field more is put; the pure statement of FieldsSigned holds. -/
import Derived.Test.YtiienmifjebdlaaR4
import Derived.Test.YtiienmifjebdlaaQx14
import Derived.Test.YtiienmifjebdlaaQx15
namespace Go.Proofs.Ytiienmifjebdlaa.Q
open Go.RowKit Go.Proofs.YtiienmifjebdlaaW.PrintWords Go.Proofs.YtiienmifjebdlaaW.PrintLast Go.Proofs.YtiienmifjebdlaaW.PrintMore
set_option linter.unusedVariables false
theorem closeL_closeL (l : List S28) (x y : Int) : closeL (closeL l x) y = closeL l y := by
  cases h : l.length with
  | zero => rw [List.eq_nil_of_length_eq_zero h]; rfl
  | succ n =>
    have hlt : l.length - 1 < l.length := by omega
    have hl2 := closeL_length l x
    have e : rd_T28 (closeL l x) ((l.length - 1 : Nat) : Int) = ⟨(rd_T28 l ((l.length - 1 : Nat) : Int)).f0, (rd_T28 l ((l.length - 1 : Nat) : Int)).f1, (rd_T28 l ((l.length - 1 : Nat) : Int)).f2, x⟩ := by
      have g := rd_get (closeL l x) (l.length - 1) (by rw [hl2]; exact hlt)
      have g2 : (closeL l x)[l.length - 1]? = some (⟨(rd_T28 l ((l.length - 1 : Nat) : Int)).f0, (rd_T28 l ((l.length - 1 : Nat) : Int)).f1, (rd_T28 l ((l.length - 1 : Nat) : Int)).f2, x⟩ : S28) := by
        unfold closeL; rw [List.getElem?_set_self hlt]
      rw [g] at g2; exact Option.some.inj g2
    unfold closeL at e hl2 ⊢
    rw [hl2, e, List.set_set]
theorem closeL_snoc (l : List S28) (k a b c x : Int) : closeL (l ++ [(⟨k, a, b, c⟩ : S28)]) x = l ++ [⟨k, a, b, x⟩] := by
  have e : rd_T28 (l ++ [(⟨k, a, b, c⟩ : S28)]) (((l ++ [(⟨k, a, b, c⟩ : S28)]).length - 1 : Nat) : Int) = ⟨k, a, b, c⟩ := by
    have g := rd_get (l ++ [(⟨k, a, b, c⟩ : S28)]) ((l ++ [(⟨k, a, b, c⟩ : S28)]).length - 1) (by simp)
    rw [show (l ++ [(⟨k, a, b, c⟩ : S28)])[(l ++ [(⟨k, a, b, c⟩ : S28)]).length - 1]? = some (⟨k, a, b, c⟩ : S28) from by simp] at g
    exact (Option.some.inj g).symm
  unfold closeL
  rw [e]
  simp
theorem closeL_nil_iff (l : List S28) (x : Int) : closeL l x = [] ↔ l = [] := by
  have h := closeL_length l x
  constructor
  · intro q; rw [q] at h; exact List.eq_nil_of_length_eq_zero h.symm
  · intro q; rw [q]; rfl
theorem errOf_closeL (l : List S28) (x : Int) (h : Int × Int × Bool) : errOf (closeL l x) h = errOf l h := by
  unfold errOf
  rw [hasK_closeL, hasK_closeL]
  simp only [ne_eq, closeL_nil_iff]
/-- t begins with the bytes of s. -/
structure Begins (s t : ByteArray) : Prop where
  le : s.size ≤ t.size
  at_ : ∀ j : Nat, j < s.size → bt t (j : Int) = bt s (j : Int)
  cut : ∀ i c : Nat, c ≤ s.size → t.extract i c = s.extract i c
theorem begins_append (s x : ByteArray) : Begins s (s ++ x) := by
  refine ⟨by rw [ByteArray.size_append]; omega, fun j hj => ?_, fun i c hc => ?_⟩
  · unfold bt
    simp only [Int.toNat_natCast]
    rw [dif_pos (by rw [ByteArray.size_append]; omega), dif_pos hj, ByteArray.getElem_append_left hj]
  · apply ByteArray.ext
    rw [ByteArray.data_extract, ByteArray.data_extract, ByteArray.data_append]
    rw [Array.extract_append]
    have : s.data.size = s.size := rfl
    rw [show (x.data.extract (i - s.data.size) (c - s.data.size)) = #[] from by simp; omega]
    simp
theorem colon_begins {s t : ByteArray} (h : Begins s t) (hp : 0 < s.size) (h10 : bt s ((s.size - 1 : Nat) : Int) = 10) (d : Nat) : ∀ (i : Nat), i + d = s.size → 0 < d → colonFrom t (t.size - i) i = colonFrom s d i := by
  induction d with
  | zero => intro i _ hd; omega
  | succ d ih =>
    intro i hi _
    have hle := h.le
    rw [show t.size - i = (t.size - (i + 1)) + 1 from by omega]
    simp only [colonFrom]
    rw [h.at_ i (by omega)]
    by_cases q : bt s (i : Int) = 58
    · rw [if_pos q, if_pos q]
    · rw [if_neg q, if_neg q]
      by_cases q2 : bt s (i : Int) = 10
      · rw [if_pos q2, if_pos q2]
      · rw [if_neg q2, if_neg q2]
        by_cases z : d = 0
        · exact absurd (by rw [show i = s.size - 1 from by omega]; exact h10) q2
        · exact ih (i + 1) (by omega) (by omega)
theorem head_begins {s t : ByteArray} (h : Begins s t) (hp : 0 < s.size) (h10 : bt s ((s.size - 1 : Nat) : Int) = 10) (i : Nat) (hi : i < s.size) : headOf t i = headOf s i := by
  unfold headOf
  rw [colon_begins h hp h10 (s.size - i) i (by omega) (by omega)]
  cases hc : colonFrom s (s.size - i) i with
  | none => rfl
  | some c =>
    have := colon_le s _ _ _ hc
    simp only
    rw [h.cut i c (by omega)]
theorem starts_begins {s t : ByteArray} (h : Begins s t) (i : Nat) (hi : i < s.size) : startsB t i = startsB s i := by
  unfold startsB
  rw [h.at_ i hi, h.at_ (i - 1) (by omega)]
theorem split_begins {s t : ByteArray} (h : Begins s t) (hp : 0 < s.size) (h10 : bt s ((s.size - 1 : Nat) : Int) = 10) (d : Nat) : ∀ (i : Nat) (l r1 : List S28), i + d = s.size →
    splitFrom s d i l = (r1, 0, 0) → splitFrom t (t.size - i) i (closeL l t.size) = splitFrom t (t.size - s.size) s.size (closeL r1 t.size) := by
  induction d with
  | zero =>
    intro i l r1 hi hs
    simp only [splitFrom] at hs
    by_cases q : hasK l 2 = true
    · rw [if_pos q] at hs
      obtain rfl : l = r1 := by simpa using hs
      rw [show i = s.size from by omega]
    · rw [if_neg q] at hs
      simp at hs
  | succ d ih =>
    intro i l r1 hi hs
    have hle := h.le
    rw [show t.size - i = (t.size - (i + 1)) + 1 from by omega]
    simp only [splitFrom] at hs ⊢
    rw [starts_begins h i (by omega), head_begins h hp h10 i (by omega), errOf_closeL]
    by_cases q : startsB s i = true
    · rw [if_pos q] at hs ⊢
      by_cases e : errOf l (headOf s i) = 0
      · rw [if_pos e] at hs ⊢
        have := ih (i + 1) _ r1 (by omega) hs
        rw [closeL_snoc] at this
        rw [closeL_closeL]; exact this
      · rw [if_neg e] at hs
        simp at hs
        exact absurd hs.2.2 e
    · rw [if_neg q] at hs ⊢
      exact ih (i + 1) l r1 (by omega) hs
theorem splitS_parts (s : ByteArray) (r1 : List S28) (h : splitS s = (r1, 0, 0)) : s.size ≤ 65536 ∧ badFrom s s.size 0 = none ∧ 0 < s.size ∧ begB (bt s 0) = true ∧ splitFrom s s.size 0 [] = (r1, 0, 0) := by
  unfold splitS at h
  by_cases hb : 65536 < s.size
  · rw [if_pos hb] at h; simp at h
  · rw [if_neg hb] at h
    cases hbad : badFrom s s.size 0 with
    | some j => rw [hbad] at h; simp at h
    | none =>
      rw [hbad] at h
      simp only at h
      by_cases q : s.size = 0 ∨ begB (bt s 0) = false
      · rw [if_pos q] at h; simp at h
      · rw [if_neg q] at h
        refine ⟨by omega, rfl, ?_, ?_, h⟩
        · have : s.size ≠ 0 := fun z => q (Or.inl z)
          omega
        · cases z : begB (bt s 0) with
          | true => rfl
          | false => exact absurd (Or.inr z) q
theorem bad_none (s : ByteArray) (d : Nat) : ∀ i, badFrom s d i = none ↔ ∀ j : Nat, i ≤ j → j < i + d → mayB (bt s (j : Int)) = true := by
  induction d with
  | zero => intro i; exact ⟨fun _ j h1 h2 => by omega, fun _ => rfl⟩
  | succ d ih =>
    intro i
    simp only [badFrom]
    by_cases q : mayB (bt s (i : Int)) = true
    · rw [if_pos q, ih (i + 1)]
      constructor
      · intro h j h1 h2
        by_cases e : j = i
        · rw [e]; exact q
        · exact h j (by omega) (by omega)
      · intro h j h1 h2; exact h j (by omega) (by omega)
    · rw [if_neg q]
      exact ⟨fun h => by simp at h, fun h => absurd (h i (by omega) (by omega)) q⟩
/-- one field more, behind a text whose last byte is 10. -/
theorem split_more (s t : ByteArray) (r1 : List S28) (h : splitS s = (r1, 0, 0)) (h10 : bt s ((s.size - 1 : Nat) : Int) = 10) (hB : Begins s t) (hlt : s.size < t.size) (ht : t.size ≤ 65536)
    (hmay : ∀ j : Nat, s.size ≤ j → j < t.size → mayB (bt t (j : Int)) = true) (hst : begB (bt t (s.size : Int)) = true) (hno : ∀ j : Nat, s.size < j → j < t.size → startsB t j = false)
    (he : errOf r1 (headOf t s.size) = 0) :
    splitS t = (r1 ++ [⟨(headOf t s.size).1, s.size, (s.size : Int) + (headOf t s.size).2.1, t.size⟩], 0, 0) := by
  obtain ⟨p1, p2, p3, p4, p5⟩ := splitS_parts s r1 h
  have hbad : badFrom t t.size 0 = none := by
    rw [bad_none]
    intro j _ hj
    by_cases q : j < s.size
    · rw [hB.at_ j q]; exact (bad_none s s.size 0).mp p2 j (by omega) (by omega)
    · exact hmay j (by omega) (by omega)
  unfold splitS
  rw [if_neg (by omega), hbad]
  simp only
  have b0 : bt t 0 = bt s 0 := hB.at_ 0 p3
  rw [if_neg (fun q => q.elim (fun z => by omega) (fun z => by rw [b0, p4] at z; cases z))]
  have e1 := split_begins hB p3 h10 s.size 0 [] r1 (by omega) p5
  rw [Nat.sub_zero] at e1
  replace e1 : splitFrom t t.size 0 [] = splitFrom t (t.size - s.size) s.size (closeL r1 t.size) := e1
  rw [e1, show t.size - s.size = (t.size - (s.size + 1)) + 1 from by omega]
  simp only [splitFrom]
  have s1 : startsB t s.size = true := by
    unfold startsB
    rw [hst, hB.at_ (s.size - 1) (by omega), h10]; simp
  rw [if_pos s1, errOf_closeL, if_pos he, closeL_closeL]
  have hT := splitS_tiled s r1 0 0 h
  have hclose : closeL r1 (s.size : Int) = r1 := by
    rcases hT with ⟨_, _, T, _, hne, _⟩ | ⟨q, _⟩
    · have hp : 0 < r1.length := List.length_pos_iff.mpr hne
      have L := T.last _ (rd_get r1 (r1.length - 1) (by omega))
      unfold closeL
      rw [show (⟨(rd_T28 r1 ((r1.length - 1 : Nat) : Int)).f0, (rd_T28 r1 ((r1.length - 1 : Nat) : Int)).f1, (rd_T28 r1 ((r1.length - 1 : Nat) : Int)).f2, (s.size : Int)⟩ : S28) = rd_T28 r1 ((r1.length - 1 : Nat) : Int) from by rw [← L.1]]
      have er : rd_T28 r1 ((r1.length - 1 : Nat) : Int) = r1[r1.length - 1] := by simp [rd_T28, List.getD_eq_getElem?_getD, List.getElem?_eq_getElem (show r1.length - 1 < r1.length by omega)]
      rw [er]; exact List.set_getElem_self _
    · exact absurd rfl q
  rw [hclose]
  have h2 : hasK r1 2 = true := by
    rcases hT with ⟨_, _, _, q, _⟩ | ⟨q, _⟩
    · exact q
    · exact absurd rfl q
  have e2 := split_skip t t.size (by omega) (t.size - (s.size + 1)) (s.size + 1) (r1 ++ [⟨(headOf t s.size).1, s.size, (s.size : Int) + (headOf t s.size).2.1, t.size⟩]) (by omega) (fun j h1 h2 => hno j (by omega) h2)
  rw [Nat.sub_self] at e2
  rw [e2]
  simp only [splitFrom]
  rw [if_pos]
  unfold hasK at h2 ⊢
  rw [List.any_append, h2]; rfl

theorem bt_str (xs : List Int) (h : ∀ x ∈ xs, 0 ≤ x ∧ x ≤ 255) (j : Nat) (hj : j < xs.length) : bt (strOfNums xs) (j : Int) = xs.getD j 0 := by
  have hsz := strOfNums_size xs
  have hm := h xs[j] (List.getElem_mem hj)
  unfold bt
  rw [Int.toNat_natCast, dif_pos (by omega)]
  have e : (strOfNums xs)[j]'(by omega) = UInt8.ofNat (xs[j]).toNat := by
    show (strOfNums xs).data[j]'(by rw [← ByteArray.size_data] at hsz; omega) = _
    simp [strOfNums]
  rw [e, UInt8.toNat_ofNat', List.getD_eq_getElem?_getD, List.getElem?_eq_getElem hj]
  simp only [Option.getD_some]
  omega
theorem bt_append_left (s x : ByteArray) (j : Nat) (hj : j < s.size) : bt (s ++ x) (j : Int) = bt s (j : Int) := (begins_append s x).at_ j hj
theorem bt_append_right (s x : ByteArray) (j : Nat) (hj : j < x.size) : bt (s ++ x) ((s.size + j : Nat) : Int) = bt x (j : Int) := by
  unfold bt
  simp only [Int.toNat_natCast]
  rw [dif_pos (by rw [ByteArray.size_append]; omega), dif_pos hj, ByteArray.getElem_append_right (by omega)]
  simp
/-- what is put behind: it begins with a blank, each byte may stand, behind a byte 10 no line of a field begins. -/
structure Behind (b : List Int) : Prop where
  ne : 0 < b.length
  head : b.getD 0 0 = 32
  may : ∀ x ∈ b, mayB x = true ∧ 0 ≤ x ∧ x ≤ 126
  nl : ∀ j, j + 1 < b.length → b.getD j 0 = 10 → begB (b.getD (j + 1) 0) = false
theorem behind_step {b : List Int} (h : Behind b) (v : Int) (hm : mayB v = true) (h0 : 0 ≤ v) (h1 : v ≤ 126) (hl : b.getD (b.length - 1) 0 = 10 → begB v = false) : Behind (b ++ [v]) := by
  have hne := h.ne
  refine ⟨by simp, ?_, ?_, ?_⟩
  · rw [List.getD_eq_getElem?_getD, List.getElem?_append_left hne, ← List.getD_eq_getElem?_getD]; exact h.head
  · intro x hx
    rcases List.mem_append.mp hx with q | q
    · exact h.may x q
    · simp at q; rw [q]; exact ⟨hm, h0, h1⟩
  · intro j hj hq
    rw [List.length_append] at hj
    simp at hj
    rw [List.getD_eq_getElem?_getD, List.getElem?_append_left (by omega), ← List.getD_eq_getElem?_getD] at hq
    by_cases q : j + 1 < b.length
    · rw [List.getD_eq_getElem?_getD, List.getElem?_append_left q, ← List.getD_eq_getElem?_getD]; exact h.nl j q hq
    · have e : j = b.length - 1 := by omega
      rw [List.getD_eq_getElem?_getD, List.getElem?_append_right (by omega), show j + 1 - b.length = 0 from by omega]
      rw [e] at hq
      exact hl hq
theorem behind_loop (a : ByteArray) (ha : a.size ≤ 140737488351232) (d : Nat) : ∀ (i : Nat) (b : List Int), i + d = min a.size 300 → b.length = i + 1 → Behind b →
    ∃ c : List Int, Behind c ∧ c.length = i + 1 + d ∧ ∀ k, 2 * d + 2 < k → vouchlaw13_behind.l0 k a b (i : Int) = some (strOfNums c ++ ⟨#[10]⟩) := by
  induction d with
  | zero =>
    intro i b hi hb h
    refine ⟨b, h, by omega, fun k hk => ?_⟩
    obtain ⟨k, rfl⟩ : ∃ m, k = m + 2 := ⟨k - 2, by omega⟩
    have fin : vouchlaw13_behind.j1 (k + 1) a b (i : Int) false = some (strOfNums b ++ ⟨#[10]⟩) := by
      simp only [vouchlaw13_behind.j1]
      rw [if_neg (by simp), if_pos (by rw [strOfNums_size]; omega)]
    simp only [vouchlaw13_behind.l0]
    by_cases q : (i : Int) < (a.size : Int)
    · rw [if_pos q, decide_eq_false (by omega)]; exact fin
    · rw [if_neg q]; exact fin
  | succ d ih =>
    intro i b hi hb h
    have r := bt_range a i
    have hw : wrap64 ((i : Int) + 1) = ((i + 1 : Nat) : Int) := wrapNat i a.size (by omega) (by omega)
    have hlast : wrap64 ((b.length : Int) - 1) = ((b.length - 1 : Nat) : Int) := by unfold wrap64; omega
    have go : ∀ v, mayB v = true → 0 ≤ v → v ≤ 126 → (b.getD (b.length - 1) 0 = 10 → begB v = false) → (∀ k, 0 < k → vouchlaw13_behind.l0 (k + 2) a b (i : Int) = vouchlaw13_behind.l0 k a (b ++ [v]) ((i + 1 : Nat) : Int)) →
        ∃ c : List Int, Behind c ∧ c.length = i + 1 + (d + 1) ∧ ∀ k, 2 * (d + 1) + 2 < k → vouchlaw13_behind.l0 k a b (i : Int) = some (strOfNums c ++ ⟨#[10]⟩) := by
      intro v hm h0 h1 hl hstep
      obtain ⟨c, hc, hcl, hk⟩ := ih (i + 1) (b ++ [v]) (by omega) (by simp [hb]) (behind_step h v hm h0 h1 hl)
      refine ⟨c, hc, by omega, fun k hkk => ?_⟩
      obtain ⟨k, rfl⟩ : ∃ m, k = m + 2 := ⟨k - 2, by omega⟩
      rw [hstep k (by omega)]
      exact hk k (by omega)
    have unf : ∀ k, vouchlaw13_behind.l0 (k + 2) a b (i : Int) = vouchlaw13_behind.j1 (k + 1) a b (i : Int) true := by
      intro k
      simp only [vouchlaw13_behind.l0]
      rw [if_pos (by omega), decide_eq_true (by omega)]
    have h32 : mayB 32 = true := by decide
    have b32 : begB 32 = false := by decide
    have rdl : rd b ((b.length - 1 : Nat) : Int) = b.getD (b.length - 1) 0 := by unfold rd; rw [Int.toNat_natCast]
    by_cases c10 : bt a (i : Int) = 10
    · by_cases cl : b.getD (b.length - 1) 0 = 10
      · refine go 32 h32 (by omega) (by omega) (fun _ => b32) (fun k hk => ?_)
        rw [unf]; simp only [vouchlaw13_behind.j1]
        rw [if_pos trivial, if_pos (by omega), if_pos (by omega), if_pos c10, hlast, if_pos (by omega), if_pos (by omega), rdl, if_pos cl, if_pos (by omega), hw]
      · refine go 10 (by decide) (by omega) (by omega) (fun q => absurd q cl) (fun k hk => ?_)
        rw [unf]; simp only [vouchlaw13_behind.j1]
        rw [if_pos trivial, if_pos (by omega), if_pos (by omega), if_pos c10, hlast, if_pos (by omega), if_pos (by omega), rdl, if_neg cl, if_pos (by omega), hw, c10]
    · by_cases c32 : bt a (i : Int) < 32
      · refine go 32 h32 (by omega) (by omega) (fun _ => b32) (fun k hk => ?_)
        rw [unf]; simp only [vouchlaw13_behind.j1]
        rw [if_pos trivial, if_pos (by omega), if_pos (by omega), if_neg c10, if_pos c32, if_pos (by omega), hw]
      · by_cases c126 : bt a (i : Int) > 126
        · refine go 32 h32 (by omega) (by omega) (fun _ => b32) (fun k hk => ?_)
          rw [unf]; simp only [vouchlaw13_behind.j1]
          rw [if_pos trivial, if_pos (by omega), if_pos (by omega), if_neg c10, if_neg c32, if_pos c126, if_pos (by omega), hw]
        · by_cases cl : b.getD (b.length - 1) 0 = 10
          · refine go 32 h32 (by omega) (by omega) (fun _ => b32) (fun k hk => ?_)
            rw [unf]; simp only [vouchlaw13_behind.j1]
            rw [if_pos trivial, if_pos (by omega), if_pos (by omega), if_neg c10, if_neg c32, if_neg c126, hlast, if_pos (by omega), if_pos (by omega), rdl, if_pos cl, if_pos (by omega), hw]
          · refine go (bt a (i : Int)) ?_ (by omega) (by omega) (fun q => absurd q cl) (fun k hk => ?_)
            · unfold mayB; rw [decide_eq_true (by omega : 32 ≤ bt a (i : Int)), decide_eq_true (by omega : bt a (i : Int) ≤ 126)]; simp
            · rw [unf]; simp only [vouchlaw13_behind.j1]
              rw [if_pos trivial, if_pos (by omega), if_pos (by omega), if_neg c10, if_neg c32, if_neg c126, hlast, if_pos (by omega), if_pos (by omega), rdl, if_neg cl, if_pos (by omega), hw]
/-- behind: what it answers, as far as the laws need it. -/
theorem behind_some (a : ByteArray) (ha : a.size ≤ 140737488351232) : ∃ b : ByteArray, (∀ k, 610 < k → vouchlaw13_behind.f k a = some b) ∧ 2 ≤ b.size ∧ b.size ≤ 302 ∧ bt b 0 = 32 ∧
    (∀ j : Nat, j < b.size → mayB (bt b (j : Int)) = true) ∧ (∀ j : Nat, 0 < j → j < b.size → bt b ((j - 1 : Nat) : Int) = 10 → begB (bt b (j : Int)) = false) := by
  have h0 : Behind [32] := ⟨by simp, rfl, by intro x hx; simp at hx; rw [hx]; exact ⟨by decide, by omega, by omega⟩, by intro j hj; simp at hj⟩
  obtain ⟨c, hc, hcl, hk⟩ := behind_loop a ha (min a.size 300) 0 [32] (by omega) rfl h0
  have hsz : (strOfNums c ++ (⟨#[10]⟩ : ByteArray)).size = c.length + 1 := by rw [ByteArray.size_append, strOfNums_size]; rfl
  have hr : ∀ x ∈ c, 0 ≤ x ∧ x ≤ 255 := fun x hx => by have := hc.may x hx; omega
  have left : ∀ j : Nat, j < c.length → bt (strOfNums c ++ (⟨#[10]⟩ : ByteArray)) (j : Int) = c.getD j 0 := fun j hj => by
    rw [bt_append_left _ _ j (by rw [strOfNums_size]; exact hj), bt_str c hr j hj]
  have right : bt (strOfNums c ++ (⟨#[10]⟩ : ByteArray)) ((c.length : Nat) : Int) = 10 := by
    have := bt_append_right (strOfNums c) ⟨#[10]⟩ 0 (by decide)
    rw [strOfNums_size, Nat.add_zero] at this
    rw [this]; rfl
  refine ⟨strOfNums c ++ (⟨#[10]⟩ : ByteArray), fun k hkk => hk k (by omega), by omega, by omega, ?_, ?_, ?_⟩
  · have := left 0 hc.ne
    rw [show (0 : Int) = ((0 : Nat) : Int) from rfl, this]; exact hc.head
  · intro j hj
    by_cases q : j < c.length
    · rw [left j q, List.getD_eq_getElem?_getD, List.getElem?_eq_getElem q]; exact (hc.may _ (List.getElem_mem q)).1
    · rw [show j = c.length from by omega, right]; decide
  · intro j h1 h2 h3
    by_cases q : j < c.length
    · rw [left (j - 1) (by omega)] at h3
      rw [left j q]
      have := hc.nl (j - 1) (by omega) h3
      rw [show j - 1 + 1 = j from by omega] at this; exact this
    · rw [show j = c.length from by omega, right]; decide

theorem colon_at (s : ByteArray) (c : Nat) : ∀ (i d : Nat), c < d → (∀ j : Nat, j < c → bt s ((i + j : Nat) : Int) ≠ 58 ∧ bt s ((i + j : Nat) : Int) ≠ 10) → bt s ((i + c : Nat) : Int) = 58 → colonFrom s d i = some (i + c) := by
  induction c with
  | zero =>
    intro i d hd _ h
    obtain ⟨d, rfl⟩ : ∃ m, d = m + 1 := ⟨d - 1, by omega⟩
    simp only [colonFrom]; rw [Nat.add_zero] at h; rw [if_pos h]; rfl
  | succ c ih =>
    intro i d hd hno h
    obtain ⟨d, rfl⟩ : ∃ m, d = m + 1 := ⟨d - 1, by omega⟩
    have h0 := hno 0 (by omega)
    rw [Nat.add_zero] at h0
    simp only [colonFrom]
    rw [if_neg h0.1, if_neg h0.2, ih (i + 1) d (by omega) (fun j hj => by rw [show i + 1 + j = i + (j + 1) from by omega]; exact hno (j + 1) (by omega)) (by rw [show i + 1 + c = i + (c + 1) from by omega]; exact h)]
    congr 1; omega
theorem extract_behind (s x : ByteArray) (c : Nat) : (s ++ x).extract s.size (s.size + c) = x.extract 0 c := by
  apply ByteArray.ext
  rw [ByteArray.data_extract, ByteArray.data_extract, ByteArray.data_append, Array.extract_append]
  have e : s.data.size = s.size := rfl
  rw [e, show s.data.extract s.size (s.size + c) = #[] from by simp]
  simp
/-- a name with its colon (H, m bytes ahead of the colon), and what lies behind it. -/
structure HeadText (H : ByteArray) (m : Nat) (k : Int) : Prop where
  size : H.size = m + 1
  colon : bt H (m : Int) = 58
  no : ∀ j : Nat, j < m → bt H (j : Int) ≠ 58 ∧ bt H (j : Int) ≠ 10
  kind : kindFrom (H.extract 0 m) 7 0 = (k, true)
  may : ∀ j : Nat, j < H.size → mayB (bt H (j : Int)) = true
  beg : begB (bt H 0) = true
structure BodyText (b : ByteArray) : Prop where
  pos : 0 < b.size
  may : ∀ j : Nat, j < b.size → mayB (bt b (j : Int)) = true
  nl : ∀ j : Nat, 0 < j → j < b.size → bt b ((j - 1 : Nat) : Int) = 10 → begB (bt b (j : Int)) = false
theorem split_chunk (a H b : ByteArray) (m : Nat) (k : Int) (r1 : List S28) (h : splitS a = (r1, 0, 0)) (h10 : bt a ((a.size - 1 : Nat) : Int) = 10) (hH : HeadText H m k) (hb : BodyText b)
    (ht : ((a ++ H) ++ b).size ≤ 65536) (he : errOf r1 (k, (m : Int) + 1, true) = 0) :
    splitS ((a ++ H) ++ b) = (r1 ++ [⟨k, a.size, (a.size : Int) + ((m : Int) + 1), ((a ++ H) ++ b).size⟩], 0, 0) := by
  obtain ⟨_, _, p3, _, _⟩ := splitS_parts a r1 h
  have hassoc : (a ++ H) ++ b = a ++ (H ++ b) := ByteArray.append_assoc
  have hB : Begins a ((a ++ H) ++ b) := by rw [hassoc]; exact begins_append a (H ++ b)
  have hs := hH.size
  have hp := hb.pos
  have hN : ((a ++ H) ++ b).size = a.size + (m + 1) + b.size := by rw [ByteArray.size_append, ByteArray.size_append]; omega
  have inH : ∀ j : Nat, j < m + 1 → bt ((a ++ H) ++ b) ((a.size + j : Nat) : Int) = bt H (j : Int) := by
    intro j hj
    rw [hassoc, bt_append_right a (H ++ b) j (by rw [ByteArray.size_append]; omega), bt_append_left H b j (by omega)]
  have inb : ∀ j : Nat, j < b.size → bt ((a ++ H) ++ b) ((a.size + (m + 1) + j : Nat) : Int) = bt b (j : Int) := by
    intro j hj
    have := bt_append_right (a ++ H) b j hj
    rw [ByteArray.size_append, hs] at this; exact this
  have hc : colonFrom ((a ++ H) ++ b) (((a ++ H) ++ b).size - a.size) a.size = some (a.size + m) := by
    refine colon_at _ m a.size _ (by omega) (fun j hj => ?_) ?_
    · rw [inH j (by omega)]; exact hH.no j hj
    · rw [inH m (by omega)]; exact hH.colon
  have hx : ((a ++ H) ++ b).extract a.size (a.size + m) = H.extract 0 m := by
    rw [hassoc, extract_behind, (begins_append H b).cut 0 m (by omega)]
  have hhead : headOf ((a ++ H) ++ b) a.size = (k, (m : Int) + 1, true) := by
    unfold headOf
    rw [hc]
    simp only
    rw [hx, hH.kind]
    simp only [Prod.mk.injEq, true_and, and_true]
    omega
  have main := split_more a ((a ++ H) ++ b) r1 h h10 hB (by omega) ht ?_ ?_ ?_ (by rw [hhead]; exact he)
  · rw [hhead] at main; exact main
  · intro j h1 h2
    by_cases q : j < a.size + (m + 1)
    · obtain ⟨i, rfl⟩ : ∃ i, j = a.size + i := ⟨j - a.size, by omega⟩
      rw [inH i (by omega)]; exact hH.may i (by omega)
    · obtain ⟨i, rfl⟩ : ∃ i, j = a.size + (m + 1) + i := ⟨j - (a.size + (m + 1)), by omega⟩
      rw [inb i (by omega)]; exact hb.may i (by omega)
  · have := inH 0 (by omega)
    rw [Nat.add_zero] at this
    rw [this]; exact hH.beg
  · intro j h1 h2
    unfold startsB
    rw [show (j == 0) = false from by simp; omega]
    by_cases q : j - 1 < a.size + (m + 1)
    · have e := inH (j - 1 - a.size) (by omega)
      rw [show a.size + (j - 1 - a.size) = j - 1 from by omega] at e
      rw [e]
      by_cases z : j - 1 - a.size < m
      · rw [beq_eq_false_iff_ne.mpr (hH.no _ z).2]; rfl
      · rw [show j - 1 - a.size = m from by omega, hH.colon]; rfl
    · have e := inb (j - 1 - (a.size + (m + 1))) (by omega)
      rw [show a.size + (m + 1) + (j - 1 - (a.size + (m + 1))) = j - 1 from by omega] at e
      have e2 := inb (j - (a.size + (m + 1))) (by omega)
      rw [show a.size + (m + 1) + (j - (a.size + (m + 1))) = j from by omega] at e2
      rw [e, e2]
      by_cases z : bt b ((j - 1 - (a.size + (m + 1)) : Nat) : Int) = 10
      · have := hb.nl (j - (a.size + (m + 1))) (by omega) (by omega) (by rw [show j - (a.size + (m + 1)) - 1 = j - 1 - (a.size + (m + 1)) from by omega]; exact z)
        rw [this]; simp
      · rw [beq_eq_false_iff_ne.mpr z]; rfl
def sigText : ByteArray := ⟨#[83, 73, 71, 78, 65, 84, 85, 82, 69, 58]⟩
theorem sig_head : HeadText sigText 9 7 := ⟨by decide, by decide, by decide, by decide +kernel, by decide, by decide⟩
theorem hasK_7 (l : List S28) (s : ByteArray) (hT : Tiled s l s.size) (hne : l ≠ []) (h : (rd_T28 l ((l.length - 1 : Nat) : Int)).f0 ≠ 7) : hasK l 7 = false := by
  have hp : 0 < l.length := List.length_pos_iff.mpr hne
  unfold hasK
  rw [List.any_eq_false]
  intro f hf
  obtain ⟨j, hj, rfl⟩ := List.mem_iff_getElem.mp hf
  by_cases q : j = l.length - 1
  · subst q
    have er : rd_T28 l ((l.length - 1 : Nat) : Int) = l[l.length - 1] := by simp [rd_T28, List.getD_eq_getElem?_getD, List.getElem?_eq_getElem hj]
    rw [← er]; simpa using h
  · have K := hT.kinds j (l.length - 1) _ _ (by omega) (List.getElem?_eq_getElem hj) (rd_get l (l.length - 1) (by omega))
    simpa using K.2
theorem signed_chunk (a b : ByteArray) (r1 : List S28) (h : splitS a = (r1, 0, 0)) (h10 : bt a ((a.size - 1 : Nat) : Int) = 10) (hb : BodyText b) (ht : ((a ++ sigText) ++ b).size ≤ 65536)
    (h7 : (rd_T28 r1 ((r1.length - 1 : Nat) : Int)).f0 ≠ 7) : (signedS ((a ++ sigText) ++ b)).2 = 0 ∧ (signedS ((a ++ sigText) ++ b)).1 = a ∧ (signedS a).2 = 134 := by
  have hT := splitS_tiled a r1 0 0 h
  rcases hT with ⟨_, _, T, _, hne, _⟩ | ⟨q, _⟩
  · have k7 := hasK_7 r1 a T hne h7
    have e := split_chunk a sigText b 9 7 r1 h h10 sig_head hb ht (by unfold errOf; simp [k7])
    have hsa : signedOf a r1 = (⟨#[]⟩, 134) := by rw [signed_last a r1 T hne, if_neg h7]
    refine ⟨?_, ?_, ?_⟩
    · unfold signedS; rw [e]; simp only [if_true]
      unfold signedOf
      rw [List.find?_append, show (r1.find? fun f => f.f0 == 7) = none from by
        rw [List.find?_eq_none]; intro f hf; unfold hasK at k7; rw [List.any_eq_false] at k7; exact k7 f hf]
      simp
    · unfold signedS; rw [e]; simp only [if_true]
      unfold signedOf
      rw [List.find?_append, show (r1.find? fun f => f.f0 == 7) = none from by
        rw [List.find?_eq_none]; intro f hf; unfold hasK at k7; rw [List.any_eq_false] at k7; exact k7 f hf]
      simp only [Option.none_or, List.find?_cons, beq_self_eq_true, Int.toNat_natCast]
      rw [ByteArray.append_assoc, (begins_append a (sigText ++ b)).cut 0 a.size (Nat.le_refl _)]
      apply ByteArray.ext
      rw [ByteArray.data_extract]
      exact Array.extract_size
    · unfold signedS; rw [h]; simp only [if_true]; rw [hsa]
  · exact absurd rfl q

theorem toList_ne (a : ByteArray) (h : 0 < a.size) : a.toList ≠ ([] : List UInt8) := by
  intro e
  rw [ByteArray.toList_eq] at e
  have e' : a.data.toList.length = 0 := by rw [e]; rfl
  rw [data_length] at e'
  omega
theorem FieldsSigned_pure : vouchlaw13_FieldsSigned.Pure := by
  intro a0 a1 hn hm
  obtain ⟨r1, r2, r3, h⟩ : ∃ r1 r2 r3, splitS a0 = (r1, r2, r3) := ⟨_, _, _, rfl⟩
  have hl : r1.length ≤ 65536 := by have := splitS_len a0; rw [h] at this; exact this
  obtain ⟨b, hb, hb2, hb3, hb4, hb5, hb6⟩ := behind_some a1 hm
  refine ⟨620, ?_⟩
  have j1t : ∀ k, vouchlaw13_FieldsSigned.j1 (k + 1) a0 a1 true = some true := by
    intro k; simp only [vouchlaw13_FieldsSigned.j1]; rw [if_pos trivial, works_true]; rfl
  unfold vouchlaw13_FieldsSigned.f
  simp only [fields_Split.f, Option.bind_some, h]
  by_cases h3 : r3 = 0
  · subst h3
    have hT := splitS_tiled a0 r1 r2 0 h
    rcases hT with ⟨_, rfl, T, _, hne, hs⟩ | ⟨q, _⟩
    · obtain ⟨_, _, p3, _, _⟩ := splitS_parts a0 r1 h
      have hp : 0 < r1.length := List.length_pos_iff.mpr hne
      rw [if_pos rfl, if_neg (toList_ne a0 p3), show ((r1.length : Int) == 0) = false from by simp; exact hne]
      rw [show (620 : Nat) = 619 + 1 from rfl]
      simp only [vouchlaw13_FieldsSigned.j0]
      have w1 : wrap64 ((a0.size : Int) - 1) = ((a0.size - 1 : Nat) : Int) := by unfold wrap64; omega
      have w2 : wrap64 ((r1.length : Int) - 1) = ((r1.length - 1 : Nat) : Int) := by unfold wrap64; omega
      rw [if_neg (by simp), if_pos trivial]
      by_cases hbig : (a0.size : Int) > 65136
      · rw [if_pos hbig]; exact j1t 618
      · rw [if_neg hbig, w1, if_pos (by omega), if_pos (by omega)]
        by_cases h10 : bt a0 ((a0.size - 1 : Nat) : Int) = 10
        · rw [if_pos h10, w2, if_pos (by omega), if_pos (by omega)]
          by_cases h7 : (rd_T28 r1 ((r1.length - 1 : Nat) : Int)).f0 = 7
          · rw [show ((rd_T28 r1 ((r1.length - 1 : Nat) : Int)).f0 == 7) = true from beq_iff_eq.mpr h7]; exact j1t 618
          · rw [show ((rd_T28 r1 ((r1.length - 1 : Nat) : Int)).f0 == 7) = false from beq_eq_false_iff_ne.mpr h7]
            have hsz : ((a0 ++ sigText) ++ b).size = a0.size + 10 + b.size := by rw [ByteArray.size_append, ByteArray.size_append]; rfl
            obtain ⟨s1, s2, s3⟩ := signed_chunk a0 b r1 h h10 ⟨by omega, hb5, hb6⟩ (by omega) h7
            simp only [vouchlaw13_FieldsSigned.j1]
            rw [if_neg (by simp), if_pos (by omega), hb _ (by omega), Option.bind_some]
            have hsz2 : (a0 ++ (⟨#[83, 73, 71, 78, 65, 84, 85, 82, 69, 58]⟩ : ByteArray)).size = a0.size + 10 := by rw [ByteArray.size_append]; rfl
            rw [if_pos (by rw [hsz2]; omega), signedSome, Option.bind_some, signedSome, Option.bind_some]
            rw [show ((a0 ++ (⟨#[83, 73, 71, 78, 65, 84, 85, 82, 69, 58]⟩ : ByteArray)) ++ b) = ((a0 ++ sigText) ++ b) from rfl]
            rw [if_pos s1, s2, if_pos rfl, if_pos s3, works_true]; rfl
        · rw [if_neg h10]; exact j1t 618
    · exact absurd rfl q
  · rw [if_neg h3, show (620 : Nat) = 619 + 1 from rfl]
    simp only [vouchlaw13_FieldsSigned.j0]
    rw [if_neg (by simp), if_neg h3]; exact j1t 618
end Go.Proofs.Ytiienmifjebdlaa.Q
