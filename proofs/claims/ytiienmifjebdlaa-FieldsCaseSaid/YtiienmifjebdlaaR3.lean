/- The pure statement of FieldsTile holds: the fields that splitS tells lie side by side, for every text. -/
import Derived.Test.YtiienmifjebdlaaR2
import Derived.Test.YtiienmifjebdlaaQx11
namespace Go.Proofs.Ytiienmifjebdlaa.Q
open Go.RowKit Go.Proofs.YtiienmifjebdlaaW.PrintWords Go.Proofs.YtiienmifjebdlaaW.PrintLast Go.Proofs.YtiienmifjebdlaaW.PrintMore
set_option linter.unusedVariables false
/-- a field's begin, name and colon. -/
structure FieldOK (s : ByteArray) (f : S28) : Prop where
  a0 : 0 ≤ f.f1
  ab : f.f1 < f.f2
  bn : f.f2 ≤ s.size
  co : bt s (f.f2 - 1) = 58
  kd : kindFrom (s.extract f.f1.toNat (f.f2 - 1).toNat) 7 0 = (f.f0, true)
  nl : f.f1 = 0 ∨ bt s (f.f1 - 1) = 10
  ln : ∀ j : Int, f.f1 ≤ j → j < f.f2 → bt s j ≠ 10
structure Tiled (s : ByteArray) (l : List S28) (e : Int) : Prop where
  ok : ∀ (j : Nat) (f : S28), l[j]? = some f → FieldOK s f
  first : ∀ f : S28, l[0]? = some f → f.f1 = 0
  next : ∀ (j : Nat) (f g : S28), l[j]? = some f → l[j + 1]? = some g → g.f1 = f.f3 ∧ f.f2 ≤ f.f3
  last : ∀ f : S28, l[l.length - 1]? = some f → f.f3 = s.size ∧ f.f1 < e
  kinds : ∀ (j j' : Nat) (f g : S28), j < j' → l[j]? = some f → l[j']? = some g → f.f0 ≠ g.f0 ∧ f.f0 ≠ 7
theorem colon_no10 (s : ByteArray) (d : Nat) : ∀ i c, colonFrom s d i = some c → ∀ j : Nat, i ≤ j → j ≤ c → bt s (j : Int) ≠ 10 := by
  induction d with
  | zero => intro i c h; cases h
  | succ d ih =>
    intro i c h j h1 h2
    simp only [colonFrom] at h
    by_cases q : bt s (i : Int) = 58
    · rw [if_pos q] at h
      obtain rfl := Option.some.inj h
      obtain rfl : j = i := by omega
      rw [q]; omega
    · rw [if_neg q] at h
      by_cases q2 : bt s (i : Int) = 10
      · rw [if_pos q2] at h; cases h
      · rw [if_neg q2] at h
        by_cases e : j = i
        · rw [e]; exact q2
        · exact ih (i + 1) c h j (by omega) h2
theorem head_ok (s : ByteArray) (i : Nat) (hs : startsB s i = true) (hi : i < s.size) (h : (headOf s i).2.2 = true) (e : Int) : FieldOK s ⟨(headOf s i).1, i, (i : Int) + (headOf s i).2.1, e⟩ := by
  unfold headOf at h ⊢
  cases hc : colonFrom s (s.size - i) i with
  | none => rw [hc] at h; cases h
  | some c =>
    rw [hc] at h
    simp only at h ⊢
    have hl := colon_le s _ _ _ hc
    have h10 := colon_no10 s _ _ _ hc
    refine ⟨by simp, by simp; omega, by simp; omega, ?_, ?_, ?_, ?_⟩
    · simp only
      rw [show (i : Int) + ((c : Int) - i + 1) - 1 = c from by omega]; exact hl.2.2
    · simp only
      rw [show ((i : Int) + ((c : Int) - i + 1) - 1).toNat = c from by omega, Int.toNat_natCast]
      rw [← h]
    · simp only
      unfold startsB at hs
      simp only [Bool.and_eq_true, Bool.or_eq_true, beq_iff_eq] at hs
      rcases hs.1 with q | q
      · left; omega
      · by_cases h0 : i = 0
        · left; omega
        · right; rw [show (i : Int) - 1 = ((i - 1 : Nat) : Int) from by omega]; exact q
    · simp only
      intro j h1 h2
      obtain ⟨j, rfl⟩ := Int.eq_ofNat_of_zero_le (show 0 ≤ j by omega)
      exact h10 j (by omega) (by omega)
theorem hasK_false {l : List S28} {k : Int} (h : hasK l k = false) : ∀ (j : Nat) (f : S28), l[j]? = some f → f.f0 ≠ k := by
  intro j f hf e
  have hm : f ∈ l := List.mem_of_getElem? hf
  unfold hasK at h
  rw [List.any_eq_false] at h
  exact h f hm (by simp [e])
theorem closeL_get (l : List S28) (x : Int) (j : Nat) (f : S28) (h : (closeL l x)[j]? = some f) : ∃ g, l[j]? = some g ∧ f.f0 = g.f0 ∧ f.f1 = g.f1 ∧ f.f2 = g.f2 ∧ (j + 1 = l.length → f.f3 = x) ∧ (j + 1 ≠ l.length → f.f3 = g.f3) := by
  unfold closeL at h
  by_cases hl : j < l.length
  · rw [List.getElem?_set] at h
    by_cases e : l.length - 1 = j
    · rw [if_pos e, if_pos (by omega)] at h
      obtain rfl := Option.some.inj h
      have er : rd_T28 l ((l.length - 1 : Nat) : Int) = l[j] := by
        simp [rd_T28, List.getD_eq_getElem?_getD, e, List.getElem?_eq_getElem hl]
      refine ⟨l[j], List.getElem?_eq_getElem hl, by rw [er], by rw [er], by rw [er], fun _ => rfl, fun q => by omega⟩
    · rw [if_neg e] at h
      exact ⟨f, h, rfl, rfl, rfl, fun q => by omega, fun _ => rfl⟩
  · rw [List.getElem?_eq_none (by rw [List.length_set]; omega)] at h; cases h
theorem tiled_step (s : ByteArray) (l : List S28) (i : Nat) (hi : i < s.size) (hT : Tiled s l i) (h0 : i = 0 ∨ l ≠ []) (hs : startsB s i = true) (he : errOf l (headOf s i) = 0) (h00 : i = 0 → l = []) :
    Tiled s (closeL l (i : Int) ++ [⟨(headOf s i).1, i, (i : Int) + (headOf s i).2.1, s.size⟩]) (i + 1) := by
  have hok : (headOf s i).2.2 = true := by
    cases q : (headOf s i).2.2 with
    | true => rfl
    | false => unfold errOf at he; rw [if_pos q] at he; cases he
  have hnk : hasK l (headOf s i).1 = false := by
    cases q : hasK l (headOf s i).1 with
    | false => rfl
    | true => unfold errOf at he; rw [if_neg (by rw [hok]; simp), if_pos q] at he; cases he
  have hn7 : hasK l 7 = false := by
    cases q : hasK l 7 with
    | false => rfl
    | true => unfold errOf at he; rw [if_neg (by rw [hok]; simp), if_neg (by rw [hnk]; simp), if_pos (Or.inr q)] at he; cases he
  have hF := head_ok s i hs hi hok s.size
  have hlen : (closeL l (i : Int)).length = l.length := closeL_length _ _
  have hget : ∀ (j : Nat) (f : S28), (closeL l (i : Int) ++ [(⟨(headOf s i).1, i, (i : Int) + (headOf s i).2.1, s.size⟩ : S28)])[j]? = some f → (j < l.length ∧ (closeL l (i : Int))[j]? = some f) ∨ (j = l.length ∧ f = ⟨(headOf s i).1, i, (i : Int) + (headOf s i).2.1, s.size⟩) := by
    intro j f h
    by_cases q : j < l.length
    · rw [List.getElem?_append_left (by omega)] at h; exact Or.inl ⟨q, h⟩
    · rw [List.getElem?_append_right (by omega), hlen] at h
      have hj : j - l.length = 0 := by
        by_cases z : j - l.length = 0
        · exact z
        · rw [List.getElem?_eq_none (by simp; omega)] at h; cases h
      rw [hj] at h
      exact Or.inr ⟨by omega, (Option.some.inj h).symm⟩
  have hnl : l ≠ [] → bt s ((i : Int) - 1) = 10 := by
    intro hne
    rcases hF.nl with q | q
    · simp only at q
      exact absurd (h00 (by omega)) hne
    · exact q
  refine ⟨?_, ?_, ?_, ?_, ?_⟩
  · intro j f h
    rcases hget j f h with ⟨h1, h2⟩ | ⟨h1, rfl⟩
    · obtain ⟨g, hg, e0, e1, e2, _, _⟩ := closeL_get l i j f h2
      have G := hT.ok j g hg
      exact ⟨by rw [e1]; exact G.a0, by rw [e1, e2]; exact G.ab, by rw [e2]; exact G.bn, by rw [e2]; exact G.co, by rw [e0, e1, e2]; exact G.kd, by rw [e1]; exact G.nl, by rw [e1, e2]; exact G.ln⟩
    · exact hF
  · intro f h
    rcases hget 0 f h with ⟨h1, h2⟩ | ⟨h1, rfl⟩
    · obtain ⟨g, hg, e0, e1, e2, _, _⟩ := closeL_get l i 0 f h2
      rw [e1]; exact hT.first g hg
    · simp only
      rcases h0 with q | q
      · omega
      · exact absurd (List.eq_nil_of_length_eq_zero h1.symm) q
  · intro j f g hf hg
    rcases hget j f hf with ⟨h1, h2⟩ | ⟨h1, rfl⟩
    · obtain ⟨f', hf', e0, e1, e2, e3, e4⟩ := closeL_get l i j f h2
      rcases hget (j + 1) g hg with ⟨k1, k2⟩ | ⟨k1, rfl⟩
      · obtain ⟨g', hg', d0, d1, d2, d3, d4⟩ := closeL_get l i (j + 1) g k2
        have := hT.next j f' g' hf' hg'
        rw [d1, e2, e4 (by omega)]; exact this
      · have hlast := hT.last f' (by rw [show l.length - 1 = j from by omega]; exact hf')
        have F := hT.ok j f' hf'
        refine ⟨by rw [e3 (by omega)], ?_⟩
        rw [e2, e3 (by omega)]
        have hne : l ≠ [] := by intro q; rw [q] at h1; simp at h1
        have q10 := hnl hne
        by_cases q : f'.f2 ≤ (i : Int)
        · exact q
        · exact absurd q10 (F.ln _ (by omega) (by omega))
    · rcases hget (l.length + 1) g (by rw [← h1]; exact hg) with ⟨k1, _⟩ | ⟨k1, _⟩ <;> omega
  · intro f h
    rw [List.length_append, hlen] at h
    rcases hget _ f h with ⟨h1, h2⟩ | ⟨h1, rfl⟩
    · simp at h1
    · exact ⟨rfl, by simp only; omega⟩
  · intro j j' f g hjj hf hg
    rcases hget j f hf with ⟨h1, h2⟩ | ⟨h1, rfl⟩
    · obtain ⟨f', hf', e0, _⟩ := closeL_get l i j f h2
      rcases hget j' g hg with ⟨k1, k2⟩ | ⟨k1, rfl⟩
      · obtain ⟨g', hg', d0, _⟩ := closeL_get l i j' g k2
        rw [e0, d0]; exact hT.kinds j j' f' g' hjj hf' hg'
      · rw [e0]
        exact ⟨hasK_false hnk j f' hf', hasK_false hn7 j f' hf'⟩
    · rcases hget j' g hg with ⟨k1, _⟩ | ⟨k1, _⟩ <;> omega
theorem tiled_mono {s : ByteArray} {l : List S28} {e e' : Int} (h : Tiled s l e) (he : e ≤ e') : Tiled s l e' := ⟨h.ok, h.first, h.next, fun f hf => ⟨(h.last f hf).1, by have := (h.last f hf).2; omega⟩, h.kinds⟩
theorem errOf_range (l : List S28) (h : Int × Int × Bool) : errOf l h = 0 ∨ errOf l h = 131 ∨ errOf l h = 132 ∨ errOf l h = 133 := by
  unfold errOf; split
  · simp
  · split
    · simp
    · split <;> simp
theorem splitFrom_tiled (s : ByteArray) (d : Nat) : ∀ (i : Nat) (l : List S28), i + d = s.size → Tiled s l i → (i = 0 ∨ l ≠ []) → (i = 0 → l = [] ∧ startsB s 0 = true) →
    ∀ r1 r2 r3, splitFrom s d i l = (r1, r2, r3) → (r3 = 0 ∧ r2 = 0 ∧ Tiled s r1 s.size ∧ hasK r1 2 = true ∧ (r1 ≠ [] ∨ s.size = 0)) ∨ (r3 ≠ 0 ∧ r1 = [] ∧ 0 ≤ r2 ∧ r2 ≤ s.size) := by
  induction d with
  | zero =>
    intro i l hi hT h0 hz r1 r2 r3 h
    simp only [splitFrom] at h
    by_cases q : hasK l 2 = true
    · rw [if_pos q] at h
      obtain ⟨rfl, rfl, rfl⟩ : l = r1 ∧ 0 = r2 ∧ 0 = r3 := by simpa [Prod.mk.injEq] using h
      refine Or.inl ⟨rfl, rfl, ?_, q, ?_⟩
      · rw [← hi]; exact hT
      · rcases h0 with z | z
        · right; omega
        · left; exact z
    · rw [if_neg q] at h
      obtain ⟨rfl, rfl, rfl⟩ : [] = r1 ∧ (s.size : Int) = r2 ∧ 134 = r3 := by simpa [Prod.mk.injEq] using h
      exact Or.inr ⟨by omega, rfl, by omega, by omega⟩
  | succ d ih =>
    intro i l hi hT h0 hz r1 r2 r3 h
    simp only [splitFrom] at h
    by_cases hs : startsB s i = true
    · rw [if_pos hs] at h
      by_cases he : errOf l (headOf s i) = 0
      · rw [if_pos he] at h
        exact ih (i + 1) _ (by omega) (tiled_step s l i (by omega) hT h0 hs he (fun z => (hz z).1)) (Or.inr (by simp)) (fun z => by omega) r1 r2 r3 h
      · rw [if_neg he] at h
        obtain ⟨rfl, rfl, rfl⟩ : [] = r1 ∧ (i : Int) = r2 ∧ errOf l (headOf s i) = r3 := by simpa [Prod.mk.injEq] using h
        exact Or.inr ⟨he, rfl, by omega, by omega⟩
    · rw [if_neg hs] at h
      refine ih (i + 1) l (by omega) (tiled_mono hT (by omega)) ?_ (fun z => by omega) r1 r2 r3 h
      rcases h0 with z | z
      · subst z; exact absurd (hz rfl).2 hs
      · exact Or.inr z
theorem splitS_tiled (s : ByteArray) : ∀ r1 r2 r3, splitS s = (r1, r2, r3) → (r3 = 0 ∧ r2 = 0 ∧ Tiled s r1 s.size ∧ hasK r1 2 = true ∧ r1 ≠ [] ∧ s.size ≤ 65536) ∨ (r3 ≠ 0 ∧ r1 = [] ∧ 0 ≤ r2 ∧ r2 ≤ s.size) := by
  intro r1 r2 r3 h
  unfold splitS at h
  by_cases hb : 65536 < s.size
  · rw [if_pos hb] at h
    obtain ⟨rfl, rfl, rfl⟩ : [] = r1 ∧ 0 = r2 ∧ 3 = r3 := by simpa [Prod.mk.injEq] using h
    exact Or.inr ⟨by omega, rfl, by omega, by omega⟩
  · rw [if_neg hb] at h
    cases hbad : badFrom s s.size 0 with
    | some j =>
      rw [hbad] at h
      obtain ⟨rfl, rfl, rfl⟩ : [] = r1 ∧ (j : Int) = r2 ∧ 130 = r3 := by simpa [Prod.mk.injEq] using h
      have := bad_range s _ _ _ hbad
      exact Or.inr ⟨by omega, rfl, by omega, by omega⟩
    | none =>
      rw [hbad] at h
      simp only at h
      by_cases q : s.size = 0 ∨ begB (bt s 0) = false
      · rw [if_pos q] at h
        obtain ⟨rfl, rfl, rfl⟩ : [] = r1 ∧ 0 = r2 ∧ 131 = r3 := by simpa [Prod.mk.injEq] using h
        exact Or.inr ⟨by omega, rfl, by omega, by omega⟩
      · rw [if_neg q] at h
        have hne : s.size ≠ 0 := fun z => q (Or.inl z)
        have hbg : begB (bt s 0) = true := by
          cases z : begB (bt s 0) with
          | true => rfl
          | false => exact absurd (Or.inr z) q
        have hT : Tiled s [] ((0 : Nat) : Int) := ⟨fun j f h => by simp at h, fun f h => by simp at h, fun j f g h => by simp at h, fun f h => by simp at h, fun j j' f g _ h => by simp at h⟩
        rcases splitFrom_tiled s s.size 0 [] (by omega) hT (Or.inl rfl) (fun _ => ⟨rfl, by unfold startsB; simpa using hbg⟩) r1 r2 r3 h with ⟨a, b, c, d, e⟩ | e
        · exact Or.inl ⟨a, b, c, d, e.resolve_right hne, by omega⟩
        · exact Or.inr e

theorem rd_get (l : List S28) (j : Nat) (h : j < l.length) : l[j]? = some (rd_T28 l (j : Int)) := by
  simp [rd_T28, List.getD_eq_getElem?_getD, List.getElem?_eq_getElem h]
theorem tiled_f3 {s : ByteArray} {l : List S28} {e : Int} (hT : Tiled s l e) (j : Nat) (h : j < l.length) : (rd_T28 l (j : Int)).f2 ≤ (rd_T28 l (j : Int)).f3 ∧ (rd_T28 l (j : Int)).f3 ≤ s.size := by
  have hf := rd_get l j h
  have F := hT.ok j _ hf
  by_cases q : j + 1 < l.length
  · have hg := rd_get l (j + 1) q
    have G := hT.ok _ _ hg
    have N := hT.next j _ _ hf hg
    have := G.ab
    have := G.bn
    omega
  · have L := hT.last _ (by rw [show l.length - 1 = j from by omega]; exact hf)
    have := F.bn
    omega
theorem hasK_take (l : List S28) (j : Nat) (h : j < l.length) (k : Int) : hasK (l.take (j + 1)) k = (hasK (l.take j) k || (rd_T28 l (j : Int)).f0 == k) := by
  have e : rd_T28 l (j : Int) = l[j] := by simp [rd_T28, List.getD_eq_getElem?_getD, List.getElem?_eq_getElem h]
  unfold hasK
  rw [List.take_succ_eq_append_getElem h, List.any_append, e]; simp
theorem tile_l1 (s : ByteArray) (l : List S28) (hT : Tiled s l s.size) (hl : l.length ≤ 65536) (i : Nat) (hi : i < l.length) (x4 : Int) (x7 : Bool) (g0 g1 g2 g3 : Int) (hg0 : g0 = (rd_T28 l (i : Int)).f0) (R : Option Bool) (m : Nat)
    (hR : ∀ k, m < k → (if x7 = true then (vouchlaw13_FieldsTile.l0 k s l x4 g3 true (wrap64 ((i : Int) + 1))) else (vouchlaw13_FieldsTile.l0 k s l x4 g3 (g0 == 2) (wrap64 ((i : Int) + 1)))) = R) (d : Nat) :
    ∀ (j k : Nat), j + d = i → m + d + 1 < k → vouchlaw13_FieldsTile.l1 k s l x4 x7 (i : Int) g0 (j : Int) g0 g1 g2 g3 = R := by
  induction d with
  | zero =>
    intro j k hj hk
    obtain ⟨k, rfl⟩ : ∃ m, k = m + 1 := ⟨k - 1, by omega⟩
    simp only [vouchlaw13_FieldsTile.l1]
    rw [if_neg (by omega)]
    exact hR k (by omega)
  | succ d ih =>
    intro j k hj hk
    obtain ⟨k, rfl⟩ : ∃ m, k = m + 1 := ⟨k - 1, by omega⟩
    have K := hT.kinds j i _ _ (by omega) (rd_get l j (by omega)) (rd_get l i hi)
    simp only [vouchlaw13_FieldsTile.l1]
    rw [if_pos (by omega), if_pos (by omega), if_pos (by omega), if_neg (by rw [hg0]; exact K.1), if_neg K.2, wrapNat j l.length (by omega) (by omega)]
    exact ih (j + 1) k (by omega) (by omega)
theorem tile_l0 (s : ByteArray) (hs : s.size ≤ 65536) (l : List S28) (hT : Tiled s l s.size) (hl : l.length ≤ 65536) (hne : l ≠ []) (h2 : hasK l 2 = true) (d : Nat) :
    ∀ (i k : Nat) (e : Int), i + d = l.length → d * (l.length + 10) + 10 < k → (i = 0 → e = 0) → (∀ j, i = j + 1 → e = (rd_T28 l (j : Int)).f3) →
    vouchlaw13_FieldsTile.l0 k s l 0 e (hasK (l.take i) 2) (i : Int) = some true := by
  induction d with
  | zero =>
    intro i k e hi hk h0 hj
    obtain ⟨k, rfl⟩ : ∃ m, k = m + 1 := ⟨k - 1, by omega⟩
    simp only [vouchlaw13_FieldsTile.l0]
    rw [if_neg (by omega), if_pos trivial, List.take_of_length_le (by omega), if_pos h2]
    have hp : 0 < l.length := List.length_pos_iff.mpr hne
    have L := hT.last _ (rd_get l (l.length - 1) (by omega))
    rw [if_pos (by rw [hj (l.length - 1) (by omega)]; exact L.1), works_true]; rfl
  | succ d ih =>
    intro i k e hi hk h0 hj
    obtain ⟨k, rfl⟩ : ∃ m, k = m + 3 := ⟨k - 3, by omega⟩
    have hlt : i < l.length := by omega
    have hf := rd_get l i hlt
    have F := hT.ok i _ hf
    have T3 := tiled_f3 hT i hlt
    have he : (rd_T28 l (i : Int)).f1 = e := by
      by_cases q : i = 0
      · subst q; rw [h0 rfl]; exact hT.first _ hf
      · obtain ⟨j, rfl⟩ : ∃ j, i = j + 1 := ⟨i - 1, by omega⟩
        rw [hj j rfl]
        exact (hT.next j _ _ (rd_get l j (by omega)) hf).1
    have hpos : 0 < i → 0 < (rd_T28 l (i : Int)).f1 := by
      intro q
      obtain ⟨j, rfl⟩ : ∃ j, i = j + 1 := ⟨i - 1, by omega⟩
      have N := hT.next j _ _ (rd_get l j (by omega)) hf
      have G := hT.ok j _ (rd_get l j (by omega))
      have := G.ab
      have := G.a0
      omega
    have A0 := F.a0
    have AB := F.ab
    have BN := F.bn
    have CO := F.co
    have KD := F.kd
    have NL := F.nl
    obtain ⟨g, hg⟩ : ∃ g, g = rd_T28 l (i : Int) := ⟨_, rfl⟩
    have hg0 : g.f0 = (rd_T28 l (i : Int)).f0 := by rw [hg]
    have htk := hasK_take l i hlt 2
    simp only [vouchlaw13_FieldsTile.l0]
    rw [← hg] at A0 AB BN CO KD NL T3 he hpos htk ⊢
    have w2 : wrap64 (g.f2 - 1) = g.f2 - 1 := by unfold wrap64; omega
    have w1 : wrap64 (g.f1 - 1) = g.f1 - 1 ∨ g.f1 = 0 := by unfold wrap64; omega
    rw [if_pos (by omega), if_pos (by omega), if_pos he, if_neg (by omega), if_neg (by omega), if_neg (by omega), w2, if_pos (by omega), if_pos (by omega), show (bt s (g.f2 - 1) != 58) = false from bne_eq_false_iff_eq.mpr CO]
    simp only [vouchlaw13_FieldsTile.j1]
    rw [if_neg (by simp), if_pos (by omega), w2, if_pos (by omega), if_pos (by omega)]
    simp only [fields_Kind.f, KD, Option.bind_some]
    rw [if_pos trivial, if_pos trivial]
    have hj2 : vouchlaw13_FieldsTile.j2 (k + 1) s l 0 (hasK (l.take i) 2) (i : Int) g.f0 false g.f0 g.f1 g.f2 g.f3 = some true := by
      simp only [vouchlaw13_FieldsTile.j2]
      rw [if_neg (by simp)]
      refine tile_l1 s l hT hl i hlt 0 _ _ _ _ _ hg0 (some true) (d * (l.length + 10) + 10) (fun k' hk' => ?_) i 0 k (by omega) ?_
      · have step := ih (i + 1) k' g.f3 (by omega) hk' (fun q => by omega) (fun j q => by
          obtain rfl : j = i := by omega
          rw [hg])
        rw [htk] at step
        rw [wrapNat i l.length hlt (by omega)]
        cases hq : hasK (l.take i) 2 with
        | true => rw [hq] at step; simpa using step
        | false => rw [hq] at step; simpa using step
      · have h_ : (d + 1) * (l.length + 10) = d * (l.length + 10) + (l.length + 10) := Nat.succ_mul d (l.length + 10)
        omega
    by_cases q : (i : Int) > 0
    · rw [if_pos q]
      have hp := hpos (by omega)
      have w1' : wrap64 (g.f1 - 1) = g.f1 - 1 := by unfold wrap64; omega
      have nl : bt s (g.f1 - 1) = 10 := NL.resolve_left (by omega)
      rw [w1', if_pos (by omega), if_pos (by omega), show (bt s (g.f1 - 1) != 10) = false from bne_eq_false_iff_eq.mpr nl]
      exact hj2
    · rw [if_neg q]; exact hj2
theorem FieldsTile_pure : vouchlaw13_FieldsTile.Pure := by
  intro a hn
  obtain ⟨r1, r2, r3, h⟩ : ∃ r1 r2 r3, splitS a = (r1, r2, r3) := ⟨_, _, _, rfl⟩
  have hl : r1.length ≤ 65536 := by have := splitS_len a; rw [h] at this; exact this
  refine ⟨r1.length * (r1.length + 10) + 11, ?_⟩
  unfold vouchlaw13_FieldsTile.f
  simp only [fields_Split.f, Option.bind_some, h]
  rcases splitS_tiled a r1 r2 r3 h with ⟨rfl, rfl, hT, h2, hne, hs⟩ | ⟨h3, rfl, hp0, hp1⟩
  · rw [if_pos rfl]
    exact tile_l0 a hs r1 hT hl hne h2 r1.length 0 _ 0 (by omega) (by omega) (fun _ => rfl) (fun j q => by omega)
  · rw [if_neg h3, if_pos (by simp), if_pos hp0, if_pos hp1, works_true]; rfl
end Go.Proofs.Ytiienmifjebdlaa.Q
