/- The pure statement of FieldsFinds holds: Find and Signed of the program and of the reference answer the same, for every text and kind. -/
import Derived.Test.YtiienmifjebdlaaR3
import Derived.Test.YtiienmifjebdlaaQx17
import Derived.Test.YtiienmifjebdlaaQx19
import Derived.Test.YtiienmifjebdlaaQx20
namespace Go.Proofs.Ytiienmifjebdlaa.Q
open Go.RowKit Go.Proofs.YtiienmifjebdlaaW.PrintWords Go.Proofs.YtiienmifjebdlaaW.PrintLast Go.Proofs.YtiienmifjebdlaaW.PrintMore
set_option linter.unusedVariables false
/-- what Find answers: the body of the first field of a kind. -/
def bodyOf (s : ByteArray) (l : List S28) (k : Int) (e : Int) : ByteArray × Bool × Int :=
  match l.find? fun f => f.f0 == k with
  | some f => (s.extract f.f2.toNat f.f3.toNat, true, 0)
  | none => (⟨#[]⟩, false, e)
def Bodies (s : ByteArray) (l : List S28) : Prop := ∀ j, j < l.length → 0 ≤ (rd_T28 l (j : Int)).f2 ∧ (rd_T28 l (j : Int)).f2 ≤ (rd_T28 l (j : Int)).f3 ∧ (rd_T28 l (j : Int)).f3 ≤ s.size
theorem bodies_of {s : ByteArray} {l : List S28} {e : Int} (hT : Tiled s l e) : Bodies s l := by
  intro j hj
  have F := hT.ok j _ (rd_get l j hj)
  have T := tiled_f3 hT j hj
  have := F.a0
  have := F.ab
  omega
theorem bodyOf_step (s : ByteArray) (l : List S28) (i : Nat) (h : i < l.length) (k e : Int) : bodyOf s (l.drop i) k e = if (rd_T28 l (i : Int)).f0 = k then (s.extract (rd_T28 l (i : Int)).f2.toNat (rd_T28 l (i : Int)).f3.toNat, true, 0) else bodyOf s (l.drop (i + 1)) k e := by
  have er : rd_T28 l (i : Int) = l[i] := by simp [rd_T28, List.getD_eq_getElem?_getD, List.getElem?_eq_getElem h]
  unfold bodyOf
  rw [List.drop_eq_getElem_cons h, List.find?_cons, er]
  by_cases q : l[i].f0 = k
  · rw [if_pos q, show (l[i].f0 == k) = true from beq_iff_eq.mpr q]
  · rw [if_neg q, show (l[i].f0 == k) = false from beq_eq_false_iff_ne.mpr q]
theorem find_loop (s : ByteArray) (l : List S28) (hB : Bodies s l) (hl : l.length ≤ 65536) (k e : Int) (d : Nat) : ∀ (i n : Nat), i + d = l.length → d < n →
    fields_Find.l0 n s k e l (l.length : Int) (i : Int) = some (bodyOf s (l.drop i) k e) := by
  induction d with
  | zero =>
    intro i n hi hn
    obtain ⟨n, rfl⟩ : ∃ m, n = m + 1 := ⟨n - 1, by omega⟩
    simp only [fields_Find.l0]; rw [if_neg (by omega), List.drop_of_length_le (by omega)]; rfl
  | succ d ih =>
    intro i n hi hn
    obtain ⟨n, rfl⟩ : ∃ m, n = m + 1 := ⟨n - 1, by omega⟩
    have B := hB i (by omega)
    simp only [fields_Find.l0]
    rw [if_pos (by omega), if_pos (by omega), if_pos (by omega), bodyOf_step s l i (by omega)]
    by_cases q : (rd_T28 l (i : Int)).f0 = k
    · rw [if_pos q, if_pos q, if_pos B.1, if_pos B.2.1, if_pos B.2.2]
    · rw [if_neg q, if_neg q, wrapNat i l.length (by omega) (by omega)]
      exact ih (i + 1) n (by omega) (by omega)
theorem rfind_loop (s : ByteArray) (l : List S28) (hB : Bodies s l) (hl : l.length ≤ 65536) (k : Int) (d : Nat) : ∀ (i n : Nat), i + d = l.length → d < n →
    vouchref13_Find.l0 n s k l (i : Int) = some (bodyOf s (l.drop i) k 0) := by
  induction d with
  | zero =>
    intro i n hi hn
    obtain ⟨n, rfl⟩ : ∃ m, n = m + 1 := ⟨n - 1, by omega⟩
    simp only [vouchref13_Find.l0]; rw [if_neg (by omega), List.drop_of_length_le (by omega)]; rfl
  | succ d ih =>
    intro i n hi hn
    obtain ⟨n, rfl⟩ : ∃ m, n = m + 1 := ⟨n - 1, by omega⟩
    have B := hB i (by omega)
    simp only [vouchref13_Find.l0]
    rw [if_pos (by omega), if_pos (by omega), bodyOf_step s l i (by omega)]
    by_cases q : (rd_T28 l (i : Int)).f0 = k
    · rw [if_pos q, if_pos q, if_pos B.1, if_pos B.2.1, if_pos B.2.2]
    · rw [if_neg q, if_neg q, wrapNat i l.length (by omega) (by omega)]
      exact ih (i + 1) n (by omega) (by omega)
def findS (s : ByteArray) (k : Int) : ByteArray × Bool × Int :=
  if 1 ≤ k ∧ k ≤ 7 then bodyOf s (splitS s).1 k (splitS s).2.2 else (⟨#[]⟩, false, 2)
theorem splitS_bodies (s : ByteArray) : Bodies s (splitS s).1 := by
  obtain ⟨r1, r2, r3, h⟩ : ∃ r1 r2 r3, splitS s = (r1, r2, r3) := ⟨_, _, _, rfl⟩
  rw [h]
  rcases splitS_tiled s r1 r2 r3 h with ⟨_, _, hT, _⟩ | ⟨_, rfl, _⟩
  · exact bodies_of hT
  · intro j hj; simp at hj
theorem nameOf_nil (k : Int) : (nameOf k).toList = ([] : List UInt8) ↔ ¬ (1 ≤ k ∧ k ≤ 7) := by
  unfold nameOf
  by_cases h : 1 ≤ k ∧ k ≤ 7
  · rw [if_pos h]
    refine ⟨fun q => ?_, fun q => absurd h q⟩
    rw [ByteArray.toList_eq] at q
    have hk : (k - 1).toNat < 7 := by omega
    generalize (k - 1).toNat = i at q hk
    match i, hk with
    | 0, _ => simp [fieldsNm] at q
    | 1, _ => simp [fieldsNm] at q
    | 2, _ => simp [fieldsNm] at q
    | 3, _ => simp [fieldsNm] at q
    | 4, _ => simp [fieldsNm] at q
    | 5, _ => simp [fieldsNm] at q
    | 6, _ => simp [fieldsNm] at q
  · rw [if_neg h]
    exact ⟨fun _ => h, fun _ => by rw [ByteArray.toList_eq]⟩
theorem findSome (s : ByteArray) (k : Int) (n : Nat) (hn : 65536 < n) : fields_Find.f n s k = some (findS s k) := by
  unfold fields_Find.f findS
  simp only [fields_Name.f, Option.bind_some]
  by_cases h : 1 ≤ k ∧ k ≤ 7
  · have hl := splitS_len s
    rw [if_neg (fun q => (nameOf_nil k).mp q h), if_pos h]
    simp only [fields_Split.f, Option.bind_some]
    exact find_loop s (splitS s).1 (splitS_bodies s) hl k (splitS s).2.2 (splitS s).1.length 0 n (by omega) (by omega)
  · rw [if_pos ((nameOf_nil k).mpr h), if_neg h]
theorem refFind (s : ByteArray) (k : Int) (n : Nat) (hn : 5 * s.size + 66000 < n) : vouchref13_Find.f n s k = some (findS s k) := by
  obtain ⟨n, rfl⟩ : ∃ m, n = m + 1 := ⟨n - 1, by omega⟩
  have main : 1 ≤ k → k ≤ 7 → vouchref13_Find.j0 (n + 1) s k false = some (findS s k) := by
    intro h1 h7
    have hl := splitS_len s
    obtain ⟨r1, r2, r3, h⟩ : ∃ r1 r2 r3, splitS s = (r1, r2, r3) := ⟨_, _, _, rfl⟩
    have hB := splitS_bodies s
    have ef : findS s k = bodyOf s (splitS s).1 k (splitS s).2.2 := by unfold findS; rw [if_pos ⟨h1, h7⟩]
    simp only [vouchref13_Find.j0]
    rw [if_neg (by simp), refSplit s n (by omega), Option.bind_some, ef]
    rw [h] at hl hB ⊢
    simp only at hl hB ⊢
    rcases splitS_tiled s r1 r2 r3 h with ⟨rfl, _, hT, _⟩ | ⟨h3, rfl, _⟩
    · rw [if_pos rfl]
      exact rfind_loop s r1 hB hl k r1.length 0 n (by omega) (by omega)
    · rw [if_neg h3]; rfl
  unfold vouchref13_Find.f
  by_cases h1 : k < 1
  · have ef : findS s k = (⟨#[]⟩, false, 2) := by unfold findS; rw [if_neg (by omega)]
    rw [if_pos h1, ef]
    simp only [vouchref13_Find.j0]; rfl
  · rw [if_neg h1]
    by_cases h7 : k > 7
    · have ef : findS s k = (⟨#[]⟩, false, 2) := by unfold findS; rw [if_neg (by omega)]
      rw [decide_eq_true h7, ef]
      simp only [vouchref13_Find.j0]; rfl
    · rw [decide_eq_false h7]; exact main (by omega) (by omega)
/-- what Signed answers. -/
def signedOf (s : ByteArray) (l : List S28) : ByteArray × Int :=
  match l.find? fun f => f.f0 == 7 with
  | some f => (s.extract 0 f.f1.toNat, 0)
  | none => (⟨#[]⟩, 134)
def signedS (s : ByteArray) : ByteArray × Int := if (splitS s).2.2 = 0 then signedOf s (splitS s).1 else (⟨#[]⟩, (splitS s).2.2)
theorem signedOf_step (s : ByteArray) (l : List S28) (i : Nat) (h : i < l.length) : signedOf s (l.drop i) = if (rd_T28 l (i : Int)).f0 = 7 then (s.extract 0 (rd_T28 l (i : Int)).f1.toNat, 0) else signedOf s (l.drop (i + 1)) := by
  have er : rd_T28 l (i : Int) = l[i] := by simp [rd_T28, List.getD_eq_getElem?_getD, List.getElem?_eq_getElem h]
  unfold signedOf
  rw [List.drop_eq_getElem_cons h, List.find?_cons, er]
  by_cases q : l[i].f0 = 7
  · rw [if_pos q, show (l[i].f0 == 7) = true from beq_iff_eq.mpr q]
  · rw [if_neg q, show (l[i].f0 == 7) = false from beq_eq_false_iff_ne.mpr q]
theorem rsigned_loop (s : ByteArray) (l : List S28) (hT : Tiled s l s.size) (hl : l.length ≤ 65536) (d : Nat) : ∀ (i n : Nat), i + d = l.length → d < n →
    vouchref13_Signed.l0 n s l (i : Int) = some (signedOf s (l.drop i)) := by
  induction d with
  | zero =>
    intro i n hi hn
    obtain ⟨n, rfl⟩ : ∃ m, n = m + 1 := ⟨n - 1, by omega⟩
    simp only [vouchref13_Signed.l0]; rw [if_neg (by omega), List.drop_of_length_le (by omega)]; rfl
  | succ d ih =>
    intro i n hi hn
    obtain ⟨n, rfl⟩ : ∃ m, n = m + 1 := ⟨n - 1, by omega⟩
    have F := hT.ok i _ (rd_get l i (by omega))
    have A0 := F.a0
    have AB := F.ab
    have BN := F.bn
    simp only [vouchref13_Signed.l0]
    rw [if_pos (by omega), if_pos (by omega), signedOf_step s l i (by omega)]
    by_cases q : (rd_T28 l (i : Int)).f0 = 7
    · rw [if_pos q, if_pos q, if_pos A0, if_pos (by omega)]
    · rw [if_neg q, if_neg q, wrapNat i l.length (by omega) (by omega)]
      exact ih (i + 1) n (by omega) (by omega)
theorem refSigned (s : ByteArray) (n : Nat) (hn : 5 * s.size + 66000 < n) : vouchref13_Signed.f n s = some (signedS s) := by
  have hl := splitS_len s
  obtain ⟨r1, r2, r3, h⟩ : ∃ r1 r2 r3, splitS s = (r1, r2, r3) := ⟨_, _, _, rfl⟩
  unfold vouchref13_Signed.f signedS
  rw [refSplit s n (by omega), Option.bind_some]
  rw [h] at hl ⊢
  simp only at hl ⊢
  rcases splitS_tiled s r1 r2 r3 h with ⟨rfl, _, hT, _⟩ | ⟨h3, rfl, _⟩
  · rw [if_pos rfl, if_pos rfl]
    exact rsigned_loop s r1 hT hl r1.length 0 n (by omega) (by omega)
  · rw [if_neg h3, if_neg h3]
theorem signed_last (s : ByteArray) (l : List S28) (hT : Tiled s l s.size) (hne : l ≠ []) : signedOf s l = if (rd_T28 l ((l.length - 1 : Nat) : Int)).f0 = 7 then (s.extract 0 (rd_T28 l ((l.length - 1 : Nat) : Int)).f1.toNat, 0) else (⟨#[]⟩, 134) := by
  have hp : 0 < l.length := List.length_pos_iff.mpr hne
  have aux : ∀ d i, i + d + 1 = l.length → signedOf s (l.drop i) = signedOf s (l.drop (l.length - 1)) := by
    intro d
    induction d with
    | zero => intro i hi; rw [show l.length - 1 = i from by omega]
    | succ d ih =>
      intro i hi
      have K := hT.kinds i (l.length - 1) _ _ (by omega) (rd_get l i (by omega)) (rd_get l (l.length - 1) (by omega))
      rw [signedOf_step s l i (by omega), if_neg K.2, ih (i + 1) (by omega)]
  have e := aux (l.length - 1) 0 (by omega)
  rw [List.drop_zero] at e
  rw [e, signedOf_step s l (l.length - 1) (by omega), List.drop_of_length_le (by omega)]; rfl
theorem signedSome (s : ByteArray) : fields_Signed.f s = some (signedS s) := by
  have hl := splitS_len s
  obtain ⟨r1, r2, r3, h⟩ : ∃ r1 r2 r3, splitS s = (r1, r2, r3) := ⟨_, _, _, rfl⟩
  unfold fields_Signed.f signedS
  simp only [fields_Split.f, Option.bind_some]
  rw [h] at hl ⊢
  simp only at hl ⊢
  rcases splitS_tiled s r1 r2 r3 h with ⟨rfl, _, hT, _, hne, _⟩ | ⟨h3, rfl, _⟩
  · have hp : 0 < r1.length := List.length_pos_iff.mpr hne
    have F := hT.ok _ _ (rd_get r1 (r1.length - 1) (by omega))
    have A0 := F.a0
    have AB := F.ab
    have BN := F.bn
    have w : wrap64 ((r1.length : Int) - 1) = ((r1.length - 1 : Nat) : Int) := by unfold wrap64; omega
    rw [if_pos rfl, if_pos rfl, w, if_pos (by omega), if_pos (by omega), signed_last s r1 hT hne]
    by_cases q : (rd_T28 r1 ((r1.length - 1 : Nat) : Int)).f0 = 7
    · rw [if_pos q, if_pos q, if_pos A0, if_pos (by omega)]
    · rw [if_neg q, if_neg q]
  · rw [if_neg h3, if_neg h3]
theorem FieldsFinds_pure : vouchlaw13_FieldsFinds.Pure := by
  intro a n hn hw
  refine ⟨5 * a.size + 66001, ?_⟩
  unfold vouchlaw13_FieldsFinds.f
  rw [refFind a n _ (by omega), findSome a n _ (by omega), refSigned a _ (by omega), signedSome a, works_true]
  simp
end Go.Proofs.Ytiienmifjebdlaa.Q
