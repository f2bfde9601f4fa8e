/- The reference Split answers what the plain function splitS tells, for every text (rounds enough). -/
import Derived.Test.YtiienmifjebdlaaQx5
import Derived.Test.YtiienmifjebdlaaQx8
import Derived.Test.YtiienmifjebdlaaQx4
namespace Go.Proofs.Ytiienmifjebdlaa.Q
open Go.RowKit Go.Proofs.YtiienmifjebdlaaW.PrintWords Go.Proofs.YtiienmifjebdlaaW.PrintLast Go.Proofs.YtiienmifjebdlaaW.PrintMore
set_option linter.unusedVariables false
theorem refBlank (c : Int) : vouchref13_Blank.f c = some (isBlank c) := by
  unfold vouchref13_Blank.f isBlank
  by_cases h : c = 9
  · rw [if_pos h, h]; rfl
  · rw [if_neg h]
    by_cases h2 : c = 13
    · rw [if_pos h2, h2]; rfl
    · rw [if_neg h2]; simp [h, h2]
theorem refMay (c : Int) : vouchref13_may.f c = some (mayB c) := by
  unfold vouchref13_may.f mayB
  rw [refBlank, Option.bind_some]
  cases isBlank c with
  | true => rfl
  | false =>
    rw [if_neg (by simp)]
    by_cases h : c = 10
    · rw [if_pos h, h]; rfl
    · rw [if_neg h]
      by_cases h2 : c ≥ 32
      · rw [if_pos h2]; simp [h, h2]
      · rw [if_neg h2]; simp [h]; omega
theorem wrapNat (i : Nat) (n : Nat) (h : i < n) (hn : n ≤ 140737488355328) : wrap64 ((i : Int) + 1) = ((i + 1 : Nat) : Int) := by unfold wrap64; omega
/-- the bytes, one by one. -/
theorem bytesOf_eq (s : ByteArray) : bytesOf s = (List.range s.size).map fun i : Nat => bt s (i : Int) := by
  apply List.ext_getElem
  · simp [bytesOf_length]
  · intro i h1 h2
    have h1' : i < s.size := by rw [bytesOf_length] at h1; exact h1
    simp only [List.getElem_map, List.getElem_range]
    have := rd_bytesOf s (i : Int)
    rw [← this, rd, Int.toNat_natCast, List.getD_eq_getElem?_getD, List.getElem?_eq_getElem h1]; rfl
theorem small_loop (a : ByteArray) (hn : a.size ≤ 140737488351232) (d : Nat) : ∀ (i k : Nat) (acc : List Int), i + d = a.size → d < k → acc.length = i →
    vouchref13_small.l0 k a acc (i : Int) = some (strOfNums (acc ++ ((List.range' i d).map fun j : Nat => lowerI (bt a (j : Int))))) := by
  induction d with
  | zero =>
    intro i k acc hi hk ha
    obtain ⟨k, rfl⟩ : ∃ m, k = m + 1 := ⟨k - 1, by omega⟩
    simp only [vouchref13_small.l0]; rw [if_neg (by omega)]; simp
  | succ d ih =>
    intro i k acc hi hk ha
    obtain ⟨k, rfl⟩ : ∃ m, k = m + 1 := ⟨k - 1, by omega⟩
    have r := bt_range a i
    have step : ∀ x, x = lowerI (bt a (i : Int)) → vouchref13_small.l0 k a (acc ++ [x]) (wrap64 ((i : Int) + 1)) = some (strOfNums (acc ++ ((List.range' i (d + 1)).map fun j : Nat => lowerI (bt a (j : Int))))) := by
      intro x hx
      rw [wrapNat i a.size (by omega) (by omega), ih (i + 1) k (acc ++ [x]) (by omega) (by omega) (by simp [ha])]
      rw [List.range'_succ, List.map_cons, ← hx, List.append_assoc]; rfl
    simp only [vouchref13_small.l0]
    rw [if_pos (by omega), if_pos (by omega)]
    by_cases h1 : bt a (i : Int) ≥ 65
    · rw [if_pos h1]
      by_cases h2 : bt a (i : Int) ≤ 90
      · rw [if_pos h2, if_pos (by omega)]; exact step _ (by unfold lowerI; rw [if_pos ⟨h1, h2⟩]; omega)
      · rw [if_neg h2, if_pos (by omega)]; exact step _ (by unfold lowerI; rw [if_neg (by omega)])
    · rw [if_neg h1, if_pos (by omega)]; exact step _ (by unfold lowerI; rw [if_neg (by omega)])
def lowList (a : ByteArray) : List Int := (List.range a.size).map fun j : Nat => lowerI (bt a (j : Int))
theorem refSmall (a : ByteArray) (hn : a.size ≤ 140737488351232) (k : Nat) (hk : a.size < k) : vouchref13_small.f k a = some (strOfNums (lowList a)) := by
  unfold vouchref13_small.f
  rw [show (0 : Int) = ((0 : Nat) : Int) from rfl, small_loop a hn a.size 0 k [] (by omega) hk rfl]
  rw [List.nil_append, ← List.range_eq_range']; rfl
theorem low_range (c : Int) (h0 : 0 ≤ c) (h1 : c ≤ 255) : 0 ≤ lowerI c ∧ lowerI c ≤ 255 := by unfold lowerI; split <;> omega

theorem strOfNums_inj (xs ys : List Int) (hx : ∀ x ∈ xs, 0 ≤ x ∧ x ≤ 255) (hy : ∀ x ∈ ys, 0 ≤ x ∧ x ≤ 255) : (strOfNums xs).toList = (strOfNums ys).toList ↔ xs = ys := by
  rw [ByteArray.toList_eq, ByteArray.toList_eq, strOfNums_data, strOfNums_data]
  constructor
  · intro h
    have h2 := congrArg (List.map fun u : UInt8 => (u.toNat : Int)) h
    rw [List.map_map, List.map_map] at h2
    have e : ∀ zs : List Int, (∀ x ∈ zs, 0 ≤ x ∧ x ≤ 255) → zs.map ((fun u : UInt8 => (u.toNat : Int)) ∘ fun n : Int => UInt8.ofNat n.toNat) = zs := by
      intro zs hz
      conv => rhs; rw [← List.map_id zs]
      apply List.map_congr_left
      intro x hx
      have := hz x hx
      simp only [Function.comp, id]
      rw [UInt8.toNat_ofNat']
      omega
    rw [e xs hx, e ys hy] at h2
    exact h2
  · intro h; rw [h]
theorem lowList_range (a : ByteArray) : ∀ x ∈ lowList a, 0 ≤ x ∧ x ≤ 255 := by
  intro x hx
  obtain ⟨j, _, rfl⟩ := List.mem_map.mp hx
  have r := bt_range a (j : Int)
  exact low_range _ r.1 r.2
theorem lowList_eq (a b : ByteArray) : lowList a = lowList b ↔ alikeB a b = true := by
  unfold alikeB
  rw [decide_eq_true_iff]
  constructor
  · intro h
    have hs : a.size = b.size := by have := congrArg List.length h; simpa [lowList] using this
    refine ⟨hs, fun j hj => ?_⟩
    have h2 : (lowList a)[j]? = (lowList b)[j]? := by rw [h]
    simp only [lowList, List.getElem?_map] at h2
    rw [List.getElem?_range hj, List.getElem?_range (by omega)] at h2
    simpa using h2
  · intro ⟨hs, h⟩
    unfold lowList
    rw [← hs]
    apply List.map_congr_left
    intro j hj
    exact h j (List.mem_range.mp hj)
theorem refName (i : Nat) (h : i < 7) : vouchref13_Name.f ((i : Int) + 1) = some (fieldsNm i) := by
  match i, h with
  | 0, _ => rfl
  | 1, _ => rfl
  | 2, _ => rfl
  | 3, _ => rfl
  | 4, _ => rfl
  | 5, _ => rfl
  | 6, _ => rfl
theorem kind_loop (a : ByteArray) (hn : a.size ≤ 20) (d : Nat) : ∀ (i k : Nat), i + d = 7 → d + 30 < k →
    vouchref13_Kind.l0 k a ((i : Int) + 1) = some (kindFrom a d i) := by
  induction d with
  | zero =>
    intro i k hi hk
    obtain ⟨k, rfl⟩ : ∃ m, k = m + 1 := ⟨k - 1, by omega⟩
    simp only [vouchref13_Kind.l0]; rw [if_neg (by omega)]; rfl
  | succ d ih =>
    intro i k hi hk
    obtain ⟨k, rfl⟩ : ∃ m, k = m + 1 := ⟨k - 1, by omega⟩
    have hsz := fieldsNm_size i
    simp only [vouchref13_Kind.l0, kindFrom]
    rw [if_pos (by omega), refName i (by omega)]
    simp only [Option.bind_some]
    rw [refSmall _ (by omega) k (by omega), Option.bind_some, refSmall _ (by omega) k (by omega), Option.bind_some]
    by_cases h : alikeB (fieldsNm i) a = true
    · rw [if_pos ((strOfNums_inj _ _ (lowList_range _) (lowList_range _)).mpr ((lowList_eq _ _).mpr h)), if_pos h]
    · rw [if_neg (fun q => h ((lowList_eq _ _).mp ((strOfNums_inj _ _ (lowList_range _) (lowList_range _)).mp q))), if_neg h]
      rw [show ((i : Int) + 1 + 1) % 256 = ((i + 1 : Nat) : Int) + 1 from by omega]
      exact ih (i + 1) k (by omega) (by omega)
theorem kind_long (a : ByteArray) (h : 15 < a.size) (d : Nat) : ∀ i, kindFrom a d i = (0, false) := by
  induction d with
  | zero => intro i; rfl
  | succ d ih =>
    intro i
    simp only [kindFrom]
    rw [if_neg ?_]
    · exact ih (i + 1)
    · unfold alikeB
      rw [decide_eq_true_iff]
      intro q
      have := fieldsNm_size i
      omega
theorem refKind (a : ByteArray) (k : Nat) (hk : 40 < k) : vouchref13_Kind.f k a = some (kindFrom a 7 0) := by
  unfold vouchref13_Kind.f
  by_cases h : (a.size : Int) > 20
  · rw [if_pos h, kind_long a (by omega)]
  · rw [if_neg h]
    exact kind_loop a (by omega) 7 0 k (by omega) (by omega)
theorem hasK_cons (f : S28) (l : List S28) (c : Int) : hasK (f :: l) c = (f.f0 == c || hasK l c) := rfl
theorem has_loop (l : List S28) (c : Int) (hl : l.length ≤ 140737488351232) (d : Nat) : ∀ (i k : Nat), i + d = l.length → d < k →
    vouchref13_has.l0 k l c (i : Int) = some (hasK (l.drop i) c) := by
  induction d with
  | zero =>
    intro i k hi hk
    obtain ⟨k, rfl⟩ : ∃ m, k = m + 1 := ⟨k - 1, by omega⟩
    simp only [vouchref13_has.l0]; rw [if_neg (by omega), List.drop_of_length_le (by omega)]; rfl
  | succ d ih =>
    intro i k hi hk
    obtain ⟨k, rfl⟩ : ∃ m, k = m + 1 := ⟨k - 1, by omega⟩
    have hlt : i < l.length := by omega
    have e : rd_T28 l (i : Int) = l[i] := by simp [rd_T28, List.getD_eq_getElem?_getD, List.getElem?_eq_getElem hlt]
    simp only [vouchref13_has.l0]
    rw [if_pos (by omega), if_pos (by omega), e, List.drop_eq_getElem_cons hlt]
    by_cases h : l[i].f0 = c
    · rw [if_pos h, hasK_cons, h]; simp
    · rw [if_neg h, wrapNat i l.length hlt (by omega), ih (i + 1) k (by omega) (by omega), hasK_cons, beq_eq_false_iff_ne.mpr h]; rfl
theorem refHas (l : List S28) (c : Int) (hl : l.length ≤ 140737488351232) (k : Nat) (hk : l.length < k) : vouchref13_has.f k l c = some (hasK l c) := by
  unfold vouchref13_has.f
  exact has_loop l c hl l.length 0 k (by omega) hk
theorem colon_loop (a : ByteArray) (hn : a.size ≤ 140737488351232) (d : Nat) : ∀ (i k : Nat), i + d = a.size → 2 * d + 1 < k →
    vouchref13_colon.l0 k a (i : Int) = some (match colonFrom a d i with | none => -1 | some c => (c : Int)) := by
  induction d with
  | zero =>
    intro i k hi hk
    obtain ⟨k, rfl⟩ : ∃ m, k = m + 2 := ⟨k - 2, by omega⟩
    simp only [vouchref13_colon.l0]; rw [if_neg (by omega)]
    simp only [vouchref13_colon.j1]; rw [if_neg (by simp)]; rfl
  | succ d ih =>
    intro i k hi hk
    obtain ⟨k, rfl⟩ : ∃ m, k = m + 2 := ⟨k - 2, by omega⟩
    simp only [vouchref13_colon.l0, colonFrom]
    rw [if_pos (by omega), if_pos (by omega)]
    simp only [vouchref13_colon.j1]
    by_cases h10 : bt a (i : Int) = 10
    · rw [if_neg (by simp [h10]), if_neg (by omega), if_pos h10]
    · rw [if_pos (by simp [h10]), if_pos (by omega), if_pos (by omega)]
      by_cases h58 : bt a (i : Int) = 58
      · rw [if_pos h58, if_pos h58]
      · rw [if_neg h58, if_neg h58, if_neg h10, wrapNat i a.size (by omega) (by omega)]
        exact ih (i + 1) k (by omega) (by omega)
theorem refColon (a : ByteArray) (hn : a.size ≤ 140737488351232) (i : Nat) (hi : i ≤ a.size) (k : Nat) (hk : 2 * a.size + 2 < k) : vouchref13_colon.f k a (i : Int) = some (match colonFrom a (a.size - i) i with | none => -1 | some c => (c : Int)) := by
  unfold vouchref13_colon.f
  exact colon_loop a hn (a.size - i) i k (by omega) (by omega)
theorem refOne (a : ByteArray) (hn : a.size ≤ 65536) (i : Nat) (hi : i ≤ a.size) (l : List S28) (hl : l.length ≤ a.size) (k : Nat) (hk : 2 * a.size + 50 < k) :
    vouchref13_one.f k a (i : Int) l = some (if errOf l (headOf a i) = 0 then ((headOf a i).1, (i : Int), (i : Int) + (headOf a i).2.1, (a.size : Int), 0) else (0, 0, 0, 0, errOf l (headOf a i))) := by
  unfold vouchref13_one.f
  rw [refColon a (by omega) i hi k (by omega), Option.bind_some]
  unfold headOf errOf
  cases hc : colonFrom a (a.size - i) i with
  | none => simp
  | some c =>
    have hcl := colon_le a _ _ _ hc
    simp only
    rw [if_neg (by omega), if_pos (by omega), if_pos (by omega), if_pos (by omega), Int.toNat_natCast, Int.toNat_natCast, refKind _ k (by omega), Option.bind_some]
    cases hk2 : (kindFrom (a.extract i c) 7 0).2 with
    | false => rw [if_neg (by simp)]; simp
    | true =>
      rw [if_pos rfl, refHas l _ (by omega) k (by omega), Option.bind_some]
      cases hh : hasK l (kindFrom (a.extract i c) 7 0).1 with
      | true => simp
      | false =>
        rw [if_neg (by simp), refHas l _ (by omega) k (by omega)]
        simp only [Option.bind_some, Bool.true_eq_false, if_false, Bool.false_eq_true]
        rw [show wrap64 ((c : Int) + 1) = (i : Int) + ((c : Int) - i + 1) from by unfold wrap64; omega]
        by_cases h1 : (kindFrom (a.extract i c) 7 0).1 = 1
        · by_cases h2 : l = []
          · rw [if_pos h1, if_neg (by rw [h2]; simp)]
            cases h7 : hasK l 7 with
            | true => rw [h2] at h7; cases h7
            | false => simp [h2]
          · have hp : 0 < l.length := List.length_pos_iff.mpr h2
            rw [if_pos h1, if_pos (by omega)]; simp [h1, h2]
        · rw [if_neg h1]
          cases h7 : hasK l 7 with
          | true => simp
          | false => simp [h1]

theorem l1_head (a : ByteArray) (hn : a.size ≤ 65536) (k i : Nat) (hi : i < a.size) (l : List S28) :
    vouchref13_Split.l1 (k + 1) a l (i : Int) = vouchref13_Split.j3 k a l (i : Int) (!startsB a i) := by
  simp only [vouchref13_Split.l1]
  rw [if_pos (by omega)]
  have hb : (!begB (bt a (i : Int))) = (isBlank (bt a (i : Int)) || bt a (i : Int) == 10) := by
    unfold begB
    cases isBlank (bt a (i : Int)) <;> cases (bt a (i : Int) == 10) <;> rfl
  have inner : ((vouchref13_Blank.f (bt a (i : Int))).bind fun t => if t = true then vouchref13_Split.j3 k a l (i : Int) true else vouchref13_Split.j3 k a l (i : Int) (bt a (i : Int) == 10)) = vouchref13_Split.j3 k a l (i : Int) (!begB (bt a (i : Int))) := by
    rw [refBlank, Option.bind_some, hb]
    cases isBlank (bt a (i : Int)) with
    | true => rfl
    | false => rw [if_neg (by simp)]; rfl
  by_cases h0 : i = 0
  · subst h0
    rw [if_neg (by omega), if_pos (by omega), inner]
    unfold startsB; simp
  · have e : wrap64 ((i : Int) - 1) = ((i - 1 : Nat) : Int) := by unfold wrap64; omega
    rw [if_pos (by omega), e, if_pos (by omega), if_pos (by omega)]
    unfold startsB
    rw [show (i == 0) = false from by simp [h0]]
    by_cases h10 : bt a ((i - 1 : Nat) : Int) = 10
    · rw [if_pos h10, if_pos (by omega), inner, h10]; rfl
    · rw [if_neg h10, show (bt a ((i - 1 : Nat) : Int) == 10) = false from beq_eq_false_iff_ne.mpr h10]; rfl
theorem l1_loop (a : ByteArray) (hn : a.size ≤ 65536) (d : Nat) : ∀ (i k : Nat) (l : List S28), i + d = a.size → 2 * d + 2 * a.size + 60 < k → l.length ≤ i →
    vouchref13_Split.l1 k a l (i : Int) = some (splitFrom a d i l) := by
  induction d with
  | zero =>
    intro i k l hi hk hl
    obtain ⟨k, rfl⟩ : ∃ m, k = m + 1 := ⟨k - 1, by omega⟩
    simp only [vouchref13_Split.l1, splitFrom]
    rw [if_neg (by omega), refHas l 2 (by omega) k (by omega), Option.bind_some]
    split <;> rfl
  | succ d ih =>
    intro i k l hi hk hl
    obtain ⟨k, rfl⟩ : ∃ m, k = m + 2 := ⟨k - 2, by omega⟩
    have hw : wrap64 ((i : Int) + 1) = ((i + 1 : Nat) : Int) := wrapNat i a.size (by omega) (by omega)
    rw [show k + 2 = (k + 1) + 1 from rfl, l1_head a hn (k + 1) i (by omega) l]
    simp only [vouchref13_Split.j3, splitFrom]
    cases hs : startsB a i with
    | false =>
      rw [if_pos (by rfl), if_neg (by simp), hw]
      exact ih (i + 1) k l (by omega) (by omega) (by omega)
    | true =>
      rw [if_neg (by simp), if_pos rfl, refOne a hn i (by omega) l (by omega) k (by omega), Option.bind_some]
      by_cases he : errOf l (headOf a i) = 0
      · rw [if_pos he, if_pos he]
        simp only [if_true]
        by_cases hp : (l.length : Int) > 0
        · have e : wrap64 ((l.length : Int) - 1) = ((l.length - 1 : Nat) : Int) := by unfold wrap64; omega
          rw [if_pos hp, e, if_pos (by omega), if_pos (by omega)]
          simp only [Option.bind_some, Int.toNat_natCast]
          have ec : (l.set (l.length - 1) (⟨(rd_T28 l ((l.length - 1 : Nat) : Int)).f0, (rd_T28 l ((l.length - 1 : Nat) : Int)).f1, (rd_T28 l ((l.length - 1 : Nat) : Int)).f2, (i : Int)⟩ : S28)) = closeL l (i : Int) := rfl
          rw [ec, if_pos (by rw [closeL_length]; omega), hw]
          exact ih (i + 1) k _ (by omega) (by omega) (by rw [List.length_append, closeL_length]; simp; omega)
        · have hl0 : l = [] := List.eq_nil_of_length_eq_zero (by omega)
          rw [if_neg hp, if_pos (by omega), hw]
          subst hl0
          exact ih (i + 1) k _ (by omega) (by omega) (by simp)
      · rw [if_neg he, if_neg he]
        simp only [if_neg he]
theorem l0_loop (a : ByteArray) (hn : a.size ≤ 65536) (d : Nat) : ∀ (i k : Nat), i + d = a.size → d + 4 * a.size + 70 < k →
    vouchref13_Split.l0 k a (i : Int) = some (match badFrom a d i with
      | some j => ([], (j : Int), 130)
      | none => if a.size = 0 ∨ begB (bt a 0) = false then ([], 0, 131) else splitFrom a a.size 0 []) := by
  induction d with
  | zero =>
    intro i k hi hk
    obtain ⟨k, rfl⟩ : ∃ m, k = m + 2 := ⟨k - 2, by omega⟩
    simp only [vouchref13_Split.l0, badFrom]
    rw [if_neg (by omega)]
    by_cases h0 : a.size = 0
    · have e : a = ByteArray.empty := by simpa using h0
      rw [if_pos (by rw [e, ByteArray.toList_eq]; rfl), if_pos (Or.inl h0)]
      simp only [vouchref13_Split.j1]; rfl
    · have e0 : a.toList ≠ [] := by
        intro e
        rw [ByteArray.toList_eq] at e
        have e' : a.data.toList.length = 0 := by rw [e]; rfl
        rw [data_length] at e'
        exact h0 e'
      rw [if_neg e0, if_pos (by omega), refBlank, Option.bind_some]
      cases hbl : isBlank (bt a 0) with
      | true =>
        rw [if_pos rfl, if_pos (Or.inr (by unfold begB; rw [hbl]; simp))]
        simp only [vouchref13_Split.j1]; rfl
      | false =>
        rw [if_neg (by simp)]
        by_cases h10 : bt a 0 = 10
        · rw [if_pos (Or.inr (by unfold begB; rw [h10]; rfl))]
          simp only [vouchref13_Split.j1]; rw [if_pos (by simp [h10])]
        · rw [if_neg (by unfold begB; rw [hbl, beq_eq_false_iff_ne.mpr h10]; simp [h0])]
          simp only [vouchref13_Split.j1]; rw [if_neg (by simp [h10])]
          exact l1_loop a hn a.size 0 k [] (by omega) (by omega) (by simp)
  | succ d ih =>
    intro i k hi hk
    obtain ⟨k, rfl⟩ : ∃ m, k = m + 1 := ⟨k - 1, by omega⟩
    simp only [vouchref13_Split.l0, badFrom]
    rw [if_pos (by omega), if_pos (by omega), refMay, Option.bind_some]
    cases hm : mayB (bt a (i : Int)) with
    | true =>
      rw [if_pos rfl, if_pos rfl, wrapNat i a.size (by omega) (by omega)]
      exact ih (i + 1) k (by omega) (by omega)
    | false => rw [if_neg (by simp), if_neg (by simp)]
theorem refSplit (a : ByteArray) (k : Nat) (hk : 5 * a.size + 80 < k) : vouchref13_Split.f k a = some (splitS a) := by
  unfold vouchref13_Split.f splitS
  by_cases h : 65536 < a.size
  · rw [if_pos (by omega), if_pos h]
  · rw [if_neg (by omega), if_neg h]
    exact l0_loop a (by omega) a.size 0 k (by omega) (by omega)
end Go.Proofs.Ytiienmifjebdlaa.Q
