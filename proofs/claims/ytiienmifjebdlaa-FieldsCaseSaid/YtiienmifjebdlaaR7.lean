/- FieldsCase: a text with the letters of its fields' names in the other case is cut alike; the plain law over the printed functions. -/
import Derived.Test.YtiienmifjebdlaaR5
import Derived.Test.YtiienmifjebdlaaQx17
namespace Go.Proofs.Ytiienmifjebdlaa.Q
open Go.RowKit Go.Proofs.YtiienmifjebdlaaW.PrintWords Go.Proofs.YtiienmifjebdlaaW.PrintLast Go.Proofs.YtiienmifjebdlaaW.PrintMore
set_option linter.unusedVariables false
theorem low_eq (c d : Int) (h : lowerI c = lowerI d) : (c = 10 ↔ d = 10) ∧ (c = 58 ↔ d = 58) ∧ (c = 9 ↔ d = 9) ∧ (c = 13 ↔ d = 13) ∧ (c = 32 ↔ d = 32) ∧ (32 ≤ c ∧ c ≤ 126 ↔ 32 ≤ d ∧ d ≤ 126) := by
  unfold lowerI at h; split at h <;> split at h <;> omega
theorem beq_iff {c d : Int} {n : Int} (h : c = n ↔ d = n) : (c == n) = (d == n) := by
  rw [Bool.eq_iff_iff, beq_iff_eq, beq_iff_eq]; exact h
theorem low_blank (c d : Int) (h : lowerI c = lowerI d) : isBlank c = isBlank d := by
  obtain ⟨_, _, h9, h13, h32, _⟩ := low_eq c d h
  unfold isBlank; rw [beq_iff h9, beq_iff h13, beq_iff h32]
theorem low_beg (c d : Int) (h : lowerI c = lowerI d) : begB c = begB d := by
  unfold begB; rw [low_blank c d h, beq_iff (low_eq c d h).1]
theorem low_may (c d : Int) (h : lowerI c = lowerI d) : mayB c = mayB d := by
  unfold mayB; rw [low_blank c d h, beq_iff (low_eq c d h).1, ← Bool.decide_and, ← Bool.decide_and, decide_eq_decide.mpr (low_eq c d h).2.2.2.2.2]
/-- the same text but for letters' case. -/
structure Alike (t s : ByteArray) : Prop where
  size : t.size = s.size
  low : ∀ j : Nat, j < s.size → lowerI (bt t (j : Int)) = lowerI (bt s (j : Int))
theorem Alike.all {t s : ByteArray} (h : Alike t s) (j : Nat) : lowerI (bt t (j : Int)) = lowerI (bt s (j : Int)) := by
  by_cases q : j < s.size
  · exact h.low j q
  · have e : ∀ u : ByteArray, u.size ≤ j → bt u (j : Int) = 0 := by
      intro u hu; unfold bt; rw [Int.toNat_natCast, dif_neg (by omega)]
    rw [e t (by rw [h.size]; omega), e s (by omega)]
theorem alike_colon {t s : ByteArray} (h : Alike t s) (d : Nat) : ∀ i, colonFrom t d i = colonFrom s d i := by
  induction d with
  | zero => intro i; rfl
  | succ d ih =>
    intro i
    obtain ⟨h10, h58, _⟩ := low_eq _ _ (h.all i)
    simp only [colonFrom]
    rw [ih (i + 1)]
    by_cases q : bt s (i : Int) = 58
    · rw [if_pos q, if_pos (h58.mpr q)]
    · rw [if_neg q, if_neg (fun z => q (h58.mp z))]
      by_cases q2 : bt s (i : Int) = 10
      · rw [if_pos q2, if_pos (h10.mpr q2)]
      · rw [if_neg q2, if_neg (fun z => q2 (h10.mp z))]
theorem alike_kind (a b : ByteArray) (h : Alike a b) (d : Nat) : ∀ i, kindFrom a d i = kindFrom b d i := by
  induction d with
  | zero => intro i; rfl
  | succ d ih =>
    intro i
    simp only [kindFrom]
    have e : alikeB (fieldsNm i) a = alikeB (fieldsNm i) b := by
      unfold alikeB
      rw [decide_eq_decide, h.size]
      constructor
      · rintro ⟨q, r⟩; exact ⟨q, fun j hj => by rw [r j hj]; exact h.all j⟩
      · rintro ⟨q, r⟩; exact ⟨q, fun j hj => by rw [r j hj]; exact (h.all j).symm⟩
    rw [e, ih (i + 1)]
theorem alike_extract {t s : ByteArray} (h : Alike t s) (i c : Nat) (hc : c ≤ s.size) : Alike (t.extract i c) (s.extract i c) := by
  have hs := extract_size' s i c hc
  have ht := extract_size' t i c (by rw [h.size]; exact hc)
  refine ⟨by rw [hs, ht], fun j hj => ?_⟩
  rw [bt_extract s i c j hc (by omega), bt_extract t i c j (by rw [h.size]; exact hc) (by omega)]
  exact h.all (i + j)
theorem alike_head {t s : ByteArray} (h : Alike t s) (i : Nat) (hi : i < s.size) : headOf t i = headOf s i := by
  unfold headOf
  rw [h.size, alike_colon h]
  cases hc : colonFrom s (s.size - i) i with
  | none => rfl
  | some c =>
    have := colon_le s _ _ _ hc
    simp only
    rw [alike_kind _ _ (alike_extract h i c (by omega))]
theorem alike_starts {t s : ByteArray} (h : Alike t s) (i : Nat) : startsB t i = startsB s i := by
  unfold startsB
  rw [low_beg _ _ (h.all i), beq_iff (low_eq _ _ (h.all (i - 1))).1]
theorem alike_from {t s : ByteArray} (h : Alike t s) (d : Nat) : ∀ i l, i + d = s.size → splitFrom t d i l = splitFrom s d i l := by
  induction d with
  | zero => intro i l _; simp only [splitFrom]; rw [h.size]
  | succ d ih =>
    intro i l hi
    simp only [splitFrom]
    rw [alike_starts h i, alike_head h i (by omega), h.size, ih (i + 1) _ (by omega), ih (i + 1) _ (by omega)]
theorem alike_bad {t s : ByteArray} (h : Alike t s) (d : Nat) : ∀ i, badFrom t d i = badFrom s d i := by
  induction d with
  | zero => intro i; rfl
  | succ d ih =>
    intro i
    simp only [badFrom]
    rw [low_may _ _ (h.all i), ih (i + 1)]
theorem alike_split {t s : ByteArray} (h : Alike t s) : splitS t = splitS s := by
  have h0 := low_beg _ _ (h.all 0)
  unfold splitS
  rw [h.size, alike_bad h]
  rw [show ((0 : Nat) : Int) = 0 from rfl] at h0
  rw [h0, alike_from h s.size 0 [] (by omega)]
theorem turn_low (c : Int) : lowerI (turnC c) = lowerI c := by
  unfold turnC lowerI; repeat' split
  all_goals omega
theorem turn_range (c : Int) (h0 : 0 ≤ c) (h1 : c ≤ 255) : 0 ≤ turnC c ∧ turnC c ≤ 255 := by
  unfold turnC; repeat' split
  all_goals omega
/-- what a turning of bytes keeps. -/
structure Turned (H : Nat → Prop) (xs ys : List Int) : Prop where
  len : ys.length = xs.length
  low : ∀ j : Nat, lowerI (ys.getD j 0) = lowerI (xs.getD j 0)
  out : ∀ j : Nat, ¬ H j → ys.getD j 0 = xs.getD j 0
  rng : (∀ x ∈ xs, 0 ≤ x ∧ x ≤ 255) → ∀ x ∈ ys, 0 ≤ x ∧ x ≤ 255
theorem Turned.refl (H : Nat → Prop) (xs : List Int) : Turned H xs xs := ⟨rfl, fun _ => rfl, fun _ _ => rfl, fun h => h⟩
theorem Turned.trans {H H1 H2 : Nat → Prop} {xs ys zs : List Int} (a : Turned H1 xs ys) (b : Turned H2 ys zs) (h1 : ∀ j, H1 j → H j) (h2 : ∀ j, H2 j → H j) : Turned H xs zs :=
  ⟨b.len.trans a.len, fun j => (b.low j).trans (a.low j), fun j hj => (b.out j (fun q => hj (h2 j q))).trans (a.out j (fun q => hj (h1 j q))), fun h => b.rng (a.rng h)⟩
theorem turned_one (xs : List Int) (k : Nat) (hk : k < xs.length) : Turned (fun j => j = k) xs (xs.set k (turnC (xs.getD k 0))) := by
  have g : ∀ j : Nat, (xs.set k (turnC (xs.getD k 0))).getD j 0 = if j = k then turnC (xs.getD k 0) else xs.getD j 0 := by
    intro j
    rw [List.getD_eq_getElem?_getD, List.getElem?_set]
    by_cases q : k = j
    · rw [if_pos q, if_pos (by omega), if_pos q.symm]; rfl
    · rw [if_neg q, if_neg (fun z => q z.symm), List.getD_eq_getElem?_getD]
  refine ⟨by rw [List.length_set], fun j => ?_, fun j hj => ?_, fun h x hx => ?_⟩
  · rw [g]; split
    · next q => rw [turn_low, q]
    · rfl
  · rw [g, if_neg hj]
  · rcases List.mem_or_eq_of_mem_set hx with q | q
    · exact h x q
    · rw [q]
      have e : xs.getD k 0 = xs[k] := by rw [List.getD_eq_getElem?_getD, List.getElem?_eq_getElem hk]; rfl
      rw [e]
      have := h xs[k] (List.getElem_mem hk)
      exact turn_range _ this.1 this.2
theorem turned_in (d : Nat) : ∀ (xs : List Int) (k : Nat), k + d ≤ xs.length → ∃ ys, turnIn d xs k = some ys ∧ Turned (fun j => k ≤ j ∧ j < k + d) xs ys := by
  induction d with
  | zero => intro xs k _; exact ⟨xs, rfl, Turned.refl _ _⟩
  | succ d ih =>
    intro xs k hk
    obtain ⟨ys, h1, h2⟩ := ih (xs.set k (turnC (xs.getD k 0))) (k + 1) (by rw [List.length_set]; omega)
    refine ⟨ys, by simp only [turnIn]; rw [if_pos (by omega)]; exact h1, ?_⟩
    exact (turned_one xs k (by omega)).trans h2 (fun j hj => by omega) (fun j hj => by omega)
def InHead (l : List S28) (j : Nat) : Prop := ∃ f ∈ l, f.f1 ≤ (j : Int) ∧ (j : Int) < f.f2
theorem turned_all (l : List S28) : ∀ xs : List Int, (∀ f ∈ l, 0 ≤ f.f1 ∧ f.f2 ≤ (xs.length : Int)) → ∃ ys, turnAll l xs = some ys ∧ Turned (InHead l) xs ys := by
  induction l with
  | nil => intro xs _; exact ⟨xs, rfl, Turned.refl _ _⟩
  | cons f l ih =>
    intro xs h
    have hf := h f (List.mem_cons_self)
    obtain ⟨ys, h1, h2⟩ : ∃ ys, turnF f xs = some ys ∧ Turned (fun j => f.f1 ≤ (j : Int) ∧ (j : Int) < f.f2) xs ys := by
      unfold turnF turnFrom
      by_cases q : f.f1 < f.f2
      · rw [if_pos q, if_pos hf.1]
        obtain ⟨ys, h1, h2⟩ := turned_in (f.f2 - f.f1).toNat xs f.f1.toNat (by omega)
        exact ⟨ys, h1, (Turned.refl (fun _ => False) xs).trans h2 (fun j hj => hj.elim) (fun j hj => by omega)⟩
      · rw [if_neg q]; exact ⟨xs, rfl, Turned.refl _ _⟩
    obtain ⟨zs, h3, h4⟩ := ih ys (fun g hg => by rw [h2.len]; exact h g (List.mem_cons_of_mem _ hg))
    refine ⟨zs, by simp only [turnAll]; rw [h1]; exact h3, h2.trans h4 (fun j hj => ⟨f, List.mem_cons_self, hj⟩) (fun j hj => ?_)⟩
    obtain ⟨g, hg, hj⟩ := hj
    exact ⟨g, List.mem_cons_of_mem _ hg, hj⟩
theorem tiled_order {s : ByteArray} {l : List S28} {e : Int} (hT : Tiled s l e) (d : Nat) : ∀ j : Nat, j + (d + 1) < l.length → (rd_T28 l (j : Int)).f3 ≤ (rd_T28 l ((j + (d + 1) : Nat) : Int)).f1 := by
  induction d with
  | zero =>
    intro j h
    have := hT.next j _ _ (rd_get l j (by omega)) (rd_get l (j + 1) (by omega))
    have e := this.1
    rw [Nat.zero_add]; omega
  | succ d ih =>
    intro j h
    have a := ih j (by omega)
    have b := hT.next (j + (d + 1)) _ _ (rd_get l (j + (d + 1)) (by omega)) (rd_get l (j + (d + 1) + 1) (by omega))
    have F := (hT.ok _ _ (rd_get l (j + (d + 1)) (by omega))).ab
    have e := b.1
    rw [show j + (d + 1 + 1) = j + (d + 1) + 1 from by omega]
    omega
theorem body_out {s : ByteArray} {l : List S28} {e : Int} (hT : Tiled s l e) (i : Nat) (hi : i < l.length) (j : Nat) (h1 : (rd_T28 l (i : Int)).f2 ≤ (j : Int)) (h2 : (j : Int) < (rd_T28 l (i : Int)).f3) : ¬ InHead l j := by
  rintro ⟨g, hg, g1, g2⟩
  obtain ⟨m, hm, rfl⟩ := List.mem_iff_getElem.mp hg
  have er : rd_T28 l (m : Int) = l[m] := by simp [rd_T28, List.getD_eq_getElem?_getD, List.getElem?_eq_getElem hm]
  rw [← er] at g1 g2
  have F := (hT.ok _ _ (rd_get l i hi)).ab
  have G := tiled_f3 hT m hm
  by_cases q : m = i
  · subst q; omega
  · by_cases q2 : m < i
    · have o := tiled_order hT (i - m - 1) m (by omega)
      rw [show m + (i - m - 1 + 1) = i from by omega] at o
      omega
    · have o := tiled_order hT (m - i - 1) i (by omega)
      rw [show i + (m - i - 1 + 1) = m from by omega] at o
      omega
theorem extract_same (t s : ByteArray) (i c : Nat) (hs : t.size = s.size) (hc : c ≤ s.size) (h : ∀ j : Nat, i ≤ j → j < c → bt t (j : Int) = bt s (j : Int)) : t.extract i c = s.extract i c := by
  have e1 := extract_size' s i c hc
  have e2 := extract_size' t i c (by omega)
  apply ByteArray.ext_getElem
  · rw [e1, e2]
  · intro j h1 h2
    have b1 := bt_extract s i c j hc (by omega)
    have b2 := bt_extract t i c j (by omega) (by omega)
    have b3 := h (i + j) (by omega) (by omega)
    rw [← b1, ← b2] at b3
    unfold bt at b3
    rw [dif_pos (by rw [Int.toNat_natCast]; exact h1), dif_pos (by rw [Int.toNat_natCast]; exact h2)] at b3
    simp only [Int.toNat_natCast] at b3
    exact UInt8.toNat_inj.mp (by omega)
theorem turned_some (s : ByteArray) (l : List S28) (e : Int) (hT : Tiled s l e) (hs : s.size ≤ 65536) : ∃ t, vouchlaw13_turned.f s l = some t ∧ Alike t s ∧ ∀ j : Nat, j < s.size → ¬ InHead l j → bt t (j : Int) = bt s (j : Int) := by
  obtain ⟨ys, h1, h2⟩ := turned_all l (bytesOf s) (fun f hf => by
    obtain ⟨j, hj, rfl⟩ := List.mem_iff_getElem.mp hf
    have F := hT.ok j _ (List.getElem?_eq_getElem hj)
    rw [bytesOf_length]
    exact ⟨F.a0, F.bn⟩)
  have hr : ∀ x ∈ bytesOf s, 0 ≤ x ∧ x ≤ 255 := by
    intro x hx
    rw [bytesOf_eq] at hx
    obtain ⟨j, _, rfl⟩ := List.mem_map.mp hx
    exact bt_range s _
  have hl : ys.length = s.size := by rw [h2.len, bytesOf_length]
  have hb : ∀ j : Nat, j < s.size → bt (strOfNums ys) (j : Int) = ys.getD j 0 := fun j hj => bt_str ys (h2.rng hr) j (by omega)
  have hx : ∀ j : Nat, (bytesOf s).getD j 0 = bt s (j : Int) := by
    intro j; have := rd_bytesOf s (j : Int); unfold rd at this; rw [Int.toNat_natCast] at this; exact this
  refine ⟨strOfNums ys, by unfold vouchlaw13_turned.f; rw [if_pos (by omega), h1]; rfl, ⟨by rw [strOfNums_size, hl], fun j hj => ?_⟩, fun j hj hn => ?_⟩
  · rw [hb j hj, h2.low j, hx]
  · rw [hb j hj, h2.out j hn, hx]
theorem find2 (s : ByteArray) (l : List S28) (e : Int) (hT : Tiled s l e) (h2 : hasK l 2 = true) : ∃ i : Nat, i < l.length ∧ ∀ (u : ByteArray) (e' : Int), bodyOf u l 2 e' = (u.extract (rd_T28 l (i : Int)).f2.toNat (rd_T28 l (i : Int)).f3.toNat, true, 0) := by
  unfold hasK at h2
  cases hf : l.find? (fun f => f.f0 == 2) with
  | none =>
    rw [List.find?_eq_none] at hf
    rw [List.any_eq_true] at h2
    obtain ⟨f, hm, hk⟩ := h2
    exact absurd hk (hf f hm)
  | some f =>
    obtain ⟨i, hi, rfl⟩ := List.mem_iff_getElem.mp (List.mem_of_find?_eq_some hf)
    have er : rd_T28 l (i : Int) = l[i] := by simp [rd_T28, List.getD_eq_getElem?_getD, List.getElem?_eq_getElem hi]
    refine ⟨i, hi, fun u e' => ?_⟩
    unfold bodyOf; rw [hf, er]
theorem FieldsCase_pure : vouchlaw13_FieldsCase.Pure := by
  intro a hn
  obtain ⟨r1, r2, r3, h⟩ : ∃ r1 r2 r3, splitS a = (r1, r2, r3) := ⟨_, _, _, rfl⟩
  have hl : r1.length ≤ 65536 := by have := splitS_len a; rw [h] at this; exact this
  refine ⟨5 * a.size + 66001, ?_⟩
  unfold vouchlaw13_FieldsCase.f
  rw [refSplit a _ (by omega), h]
  simp only [Option.bind_some]
  by_cases h3 : r3 = 0
  · subst h3
    rcases splitS_tiled a r1 r2 0 h with ⟨_, rfl, T, k2, hne, hs⟩ | ⟨q, _⟩
    · obtain ⟨t, ht, hA, hO⟩ := turned_some a r1 _ T hs
      have e : splitS t = (r1, 0, 0) := by rw [alike_split hA, h]
      obtain ⟨i, hi, hf⟩ := find2 a r1 _ T k2
      have B := bodies_of T i hi
      have f1 : findS t 2 = findS a 2 := by
        unfold findS
        rw [if_pos (by decide), if_pos (by decide), e, h]
        simp only
        rw [hf, hf, extract_same t a _ _ hA.size (by omega) (fun j j1 j2 => hO j (by omega) (body_out T i hi j (by omega) (by omega)))]
      have f2 : (findS a 2).2.2 = 0 ∧ (findS a 2).2.1 = true := by
        unfold findS
        rw [if_pos (by decide), h]
        simp only
        rw [hf]; exact ⟨rfl, rfl⟩
      rw [if_pos rfl, ht, Option.bind_some]
      simp only [fields_Split.f, Option.bind_some]
      rw [findSome t 2 _ (by omega), findSome a 2 _ (by omega), e, f1]
      simp only [Option.bind_some]
      rw [if_pos trivial, if_pos trivial, same_refl r1 (by omega) _ (by omega), works_true]
      simp only [Option.bind_some, if_true]
      simp only [f2.1, f2.2, if_true]
    · exact absurd rfl q
  · rw [if_neg h3, works_true]; rfl
end Go.Proofs.Ytiienmifjebdlaa.Q
