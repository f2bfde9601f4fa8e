/- Plain facts: texts that are sorted, each once; both sides tell the same principals. -/
import Derived.Test.YtjapfefiaijfcaaGreatDoorT31
import Derived.Lib.SlicesCompact
import Derived.Sort.Walk0
import Derived.Test.YtjapfefiaijfcaaGreatDoorQx8
import Derived.IntWalk
namespace Go.Proofs.YtjapfefiaijfcaaGreatDoor.Q
open Go.RowKit Go.Proofs.YtjapfefiaijfcaaGreatDoorW.PrintWords Go.Proofs.YtjapfefiaijfcaaGreatDoorW.PrintLast Go.Proofs.YtjapfefiaijfcaaGreatDoorW.PrintMore
set_option linter.unusedVariables false
abbrev Bs := List UInt8
theorem bs_lt {a b : Bs} (h : a ≤ b) (n : a ≠ b) : a < b := by
  by_cases hl : a < b
  · exact hl
  · exact absurd (List.le_antisymm h hl) n
/-- Two lists that rise strictly and have the same members are one. -/
theorem rise_uniq : ∀ (l m : List Bs), l.Pairwise (· < ·) → m.Pairwise (· < ·) → (∀ x, x ∈ l ↔ x ∈ m) → l = m
  | [], [], _, _, _ => rfl
  | [], b :: m, _, _, h => absurd ((h b).2 List.mem_cons_self) (by simp)
  | a :: l, [], _, _, h => absurd ((h a).1 List.mem_cons_self) (by simp)
  | a :: l, b :: m, hl, hm, h => by
    rw [List.pairwise_cons] at hl hm
    have e : a = b := by
      rcases List.mem_cons.1 ((h a).1 List.mem_cons_self) with e | ha
      · exact e
      · rcases List.mem_cons.1 ((h b).2 List.mem_cons_self) with e | hb
        · exact e.symm
        · exact absurd (List.lt_trans (hm.1 a ha) (hl.1 b hb)) (List.lt_irrefl b)
    subst e
    have := rise_uniq l m hl.2 hm.2 (fun x => by
      constructor
      · intro hx
        rcases List.mem_cons.1 ((h x).1 (List.mem_cons_of_mem _ hx)) with e | hx'
        · subst e; exact absurd (hl.1 x hx) (List.lt_irrefl x)
        · exact hx'
      · intro hx
        rcases List.mem_cons.1 ((h x).2 (List.mem_cons_of_mem _ hx)) with e | hx'
        · subst e; exact absurd (hm.1 x hx) (List.lt_irrefl x)
        · exact hx')
    rw [this]
/-- What slices.Compact leaves has the same members. -/
theorem compact_mem (zs : List Bs) (x : Bs) : x ∈ Lib.compact zs ↔ x ∈ zs := by
  unfold Lib.compact Lib.compactUpTo
  rw [List.mem_map]
  constructor
  · rintro ⟨j, hj, rfl⟩
    have hl : j < zs.length := List.mem_range.1 (List.mem_filter.1 hj).1
    have : (zs.toArray)[j]! = zs[j] := by simp [hl]
    rw [this]; exact List.getElem_mem hl
  · have key : ∀ j, (h : j < zs.length) → ∃ i, i ∈ (List.range zs.length).filter (Lib.keeps zs.toArray) ∧ zs.toArray[i]! = zs[j] := by
      intro j
      induction j with
      | zero => intro h; exact ⟨0, List.mem_filter.2 ⟨List.mem_range.2 h, by simp [Lib.keeps]⟩, by simp [h]⟩
      | succ j ih =>
        intro h
        have hj : j < zs.length := Nat.lt_of_succ_lt h
        by_cases e : zs[j + 1] = zs[j]
        · obtain ⟨i, h1, h2⟩ := ih hj
          exact ⟨i, h1, h2.trans e.symm⟩
        · refine ⟨j + 1, List.mem_filter.2 ⟨List.mem_range.2 h, ?_⟩, by simp [h]⟩
          simp [Lib.keeps, h, hj, e]
    intro hx
    obtain ⟨j, hj, rfl⟩ := List.mem_iff_getElem.1 hx
    exact key j hj
/-- What slices.Compact leaves of a list that rises, rises strictly. -/
theorem compact_rise (zs : List Bs) (h : zs.Pairwise (· ≤ ·)) : (Lib.compact zs).Pairwise (· < ·) := by
  unfold Lib.compact Lib.compactUpTo
  rw [List.pairwise_map]
  have hr : ((List.range zs.length).filter (Lib.keeps zs.toArray)).Pairwise (· < ·) := List.Pairwise.filter _ List.pairwise_lt_range
  refine List.Pairwise.imp_of_mem ?_ hr
  intro i j hi hj hij
  have hjl : j < zs.length := List.mem_range.1 (List.mem_filter.1 hj).1
  have hk := (List.mem_filter.1 hj).2
  have hil : i < zs.length := by omega
  have e1 : (zs.toArray)[i]! = zs[i] := by simp [hil]
  have e2 : (zs.toArray)[j]! = zs[j] := by simp [hjl]
  have hj1 : j - 1 < zs.length := by omega
  have e3 : (zs.toArray)[j - 1]! = zs[j - 1] := by simp [hj1]
  rw [e1, e2]
  unfold Lib.keeps at hk
  rw [e2, e3, decide_eq_true_iff] at hk
  have hne : zs[j] ≠ zs[j - 1] := by
    rcases hk with h0 | h1
    · omega
    · exact h1
  rw [List.pairwise_iff_getElem] at h
  have le1 : zs[i] ≤ zs[j - 1] := by
    rcases Nat.lt_or_ge i (j - 1) with hlt | hge
    · exact h i (j - 1) hil hj1 hlt
    · have : i = j - 1 := by omega
      subst this; exact List.le_refl _
  have le2 : zs[j - 1] ≤ zs[j] := h (j - 1) j hj1 hjl (by omega)
  exact List.lt_of_le_of_lt le1 (bs_lt le2 (fun e => hne e.symm))
def leB (x y : Bs) : Bool := decide (x ≤ y)
theorem sort_rise (zs : List Bs) : (zs.mergeSort fun x y => decide (x ≤ y)).Pairwise (· ≤ ·) := by
  have := List.pairwise_mergeSort (le := fun x y : Bs => decide (x ≤ y)) (fun a b c h1 h2 => decide_eq_true (List.le_trans (of_decide_eq_true h1) (of_decide_eq_true h2))) (fun a b => by
    rcases List.le_total a b with h | h <;> simp [h]) zs
  exact this.imp (fun h => of_decide_eq_true h)
/-- The texts of a list, sorted, each once. -/
def sortB (xs : List ByteArray) : List Bs := Lib.compact ((xs.map (·.data.toList)).mergeSort fun x y => decide (x ≤ y))
theorem sortB_rise (xs : List ByteArray) : (sortB xs).Pairwise (· < ·) := compact_rise _ (sort_rise _)
theorem sortB_mem (xs : List ByteArray) (x : Bs) : x ∈ sortB xs ↔ x ∈ xs.map (·.data.toList) := by
  unfold sortB
  rw [compact_mem, List.mem_mergeSort]
/-- The principals' texts of a tree, as the program tells them. -/
def prinB (x : S24) : List ByteArray := (sortB (leaves x)).map (fun l => ⟨l.toArray⟩)
theorem sortB_length (xs : List ByteArray) : (sortB xs).length ≤ xs.length := by
  unfold sortB
  have h : ∀ zs : List Bs, (Lib.compact zs).length ≤ zs.length := fun zs => by
    unfold Lib.compact Lib.compactUpTo
    rw [List.length_map]
    exact Nat.le_trans (List.length_filter_le _ _) (by simp)
  have := h ((xs.map (·.data.toList)).mergeSort fun x y => decide (x ≤ y))
  rw [List.length_mergeSort, List.length_map] at this
  exact this
/-- A text put into a list that rises. -/
def insS (s : ByteArray) : List ByteArray → List ByteArray
  | [] => [s]
  | a :: r => if Op.bytesLess a.toList s.toList = true then a :: insS s r else if a.toList = s.toList then a :: r else s :: a :: r
theorem rdS_nat {l : List ByteArray} {j : Nat} (h : j < l.length) : rdOf ByteArray.empty l (j : Int) = l[j] := by simp [rdOf, h]
/-- The loop that moves up: from place m down to at. -/
theorem with_l1 (s : ByteArray) (pre : List ByteArray) : ∀ (d : Nat) (post mid : List ByteArray) (z : ByteArray) (k : Nat), mid.length = d → d + 1 ≤ k → (pre ++ mid ++ z :: post).length ≤ 1000000 →
    vouchref16_with.l1 k (pre ++ mid ++ z :: post) s (pre.length : Int) ((pre.length + d : Nat) : Int) = some (pre ++ s :: (mid ++ post)) := by
  intro d
  induction d with
  | zero =>
    intro post mid z k hm hk hl
    obtain ⟨k, rfl⟩ : ∃ k', k = k' + 1 := ⟨k - 1, by omega⟩
    have : mid = [] := List.eq_nil_of_length_eq_zero hm
    subst this
    unfold vouchref16_with.l1
    rw [if_neg (by omega), if_pos (by omega), if_pos (by simp; omega), Int.toNat_natCast]
    simp
  | succ d ih =>
    intro post mid z k hm hk hl
    obtain ⟨k, rfl⟩ : ∃ k', k = k' + 1 := ⟨k - 1, by omega⟩
    obtain ⟨mid', y, rfl⟩ : ∃ mid' y, mid = mid' ++ [y] := ⟨mid.dropLast, mid.getLast (by intro e; rw [e] at hm; simp at hm), (List.dropLast_concat_getLast _).symm⟩
    have hm' : mid'.length = d := by simpa using hm
    have hlen : (pre ++ (mid' ++ [y]) ++ z :: post).length = pre.length + d + 1 + 1 + post.length := by simp; omega
    rw [hlen] at hl
    unfold vouchref16_with.l1
    rw [if_pos (by omega), IntWalk.wrap64_in _ (by omega), show ((pre.length + (d + 1) : Nat) : Int) - 1 = ((pre.length + d : Nat) : Int) from by omega, if_pos (by omega), hlen, if_pos (by omega), if_pos (by omega), if_pos (by omega), Int.toNat_natCast]
    rw [rdS_nat (by rw [hlen]; omega)]
    have e1 : (pre ++ (mid' ++ [y]) ++ z :: post)[pre.length + d]'(by rw [hlen]; omega) = y := by
      rw [List.getElem_append_left (by simp; omega), List.getElem_append_right (by omega), List.getElem_append_right (by omega)]
      simp [hm']
    have e2 : (pre ++ (mid' ++ [y]) ++ z :: post).set (pre.length + (d + 1)) y = pre ++ mid' ++ y :: (y :: post) := by
      rw [List.set_append_right _ _ (by simp; omega)]
      have : pre.length + (d + 1) - (pre ++ (mid' ++ [y])).length = 0 := by simp; omega
      rw [this]
      simp
    rw [e1, e2]
    rw [ih (y :: post) mid' y k hm' (by omega) (by simp; omega)]
    simp
theorem with_j2 (s : ByteArray) (pre post : List ByteArray) (k : Nat) (hk : post.length + 3 ≤ k) (hl : (pre ++ post).length ≤ 100000) : vouchref16_with.j2 k (pre ++ post) s (pre.length : Int) false = some (pre ++ s :: post) := by
  obtain ⟨k, rfl⟩ : ∃ k', k = k' + 1 := ⟨k - 1, by omega⟩
  rw [vouchref16_with.j2]
  rw [if_neg (by simp), if_pos (by omega), Option.bind_some]
  have hl2 : (pre ++ post ++ [(⟨#[]⟩ : ByteArray)]).length = pre.length + post.length + 1 := by simp; omega
  have hl3 : pre.length + post.length ≤ 100000 := by simpa using hl
  rw [hl2, IntWalk.wrap64_in _ (by omega), show ((pre.length + post.length + 1 : Nat) : Int) - 1 = ((pre.length + post.length : Nat) : Int) from by omega]
  have := with_l1 s pre post.length [] post (⟨#[]⟩ : ByteArray) k rfl (by omega) (by rw [hl2]; omega)
  rw [this, List.append_nil]
theorem with_l0 (s : ByteArray) : ∀ (post pre : List ByteArray) (k : Nat), (pre ++ post).length ≤ 100000 → 2 * post.length + 6 ≤ k →
    vouchref16_with.l0 k (pre ++ post) s (pre.length : Int) = some (pre ++ insS s post) := by
  intro post
  induction post with
  | nil =>
    intro pre k hl hk
    obtain ⟨k, rfl⟩ : ∃ k', k = k' + 2 := ⟨k - 2, by omega⟩
    unfold vouchref16_with.l0
    rw [if_neg (by simp)]
    rw [vouchref16_with.j1, if_neg (by simp)]
    exact with_j2 s pre [] k (by simp; omega) hl
  | cons a r ih =>
    intro pre k hl hk
    have hl3 : pre.length + (r.length + 1) ≤ 100000 := by simpa using hl
    rw [List.length_cons] at hk
    obtain ⟨k, rfl⟩ : ∃ k', k = k' + 2 := ⟨k - 2, by omega⟩
    have hrd : rdOf ByteArray.empty (pre ++ a :: r) (pre.length : Int) = a := by
      rw [rdS_nat (by simp)]; simp
    unfold vouchref16_with.l0
    rw [if_pos (by simp; omega), if_pos (by omega), hrd]
    unfold insS
    by_cases h1 : Op.bytesLess a.toList s.toList = true
    · rw [if_pos h1, if_pos h1, IntWalk.wrap64_in _ (by omega)]
      have := ih (pre ++ [a]) (k + 1) (by simpa using hl) (by omega)
      rw [List.append_assoc, List.singleton_append] at this
      rw [show (((pre ++ [a]).length : Nat) : Int) = (pre.length : Int) + 1 from by simp] at this
      rw [this]; simp
    · rw [if_neg h1, if_neg h1]
      rw [vouchref16_with.j1, if_pos (by simp; omega), if_pos (by omega), hrd]
      by_cases h2 : a.toList = s.toList
      · rw [if_pos h2, show (a.toList == s.toList) = true from by simp [h2]]
        obtain ⟨k, rfl⟩ : ∃ k', k = k' + 1 := ⟨k - 1, by omega⟩
        rw [vouchref16_with.j2]
        rw [if_pos rfl]
      · rw [if_neg h2, show (a.toList == s.toList) = false from by simp [h2]]
        exact with_j2 s pre (a :: r) k (by rw [List.length_cons]; omega) hl
theorem with_some (s : ByteArray) (l : List ByteArray) (h : l.length ≤ 100000) : vouchref16_with.f (2 * l.length + 6) l s = some (insS s l) := by
  have := with_l0 s l [] (2 * l.length + 6) (by simpa using h) (Nat.le_refl _)
  simpa [vouchref16_with.f] using this
theorem insS_len (s : ByteArray) (l : List ByteArray) : (insS s l).length ≤ l.length + 1 := by
  induction l with
  | nil => simp [insS]
  | cons a r ih =>
    unfold insS
    split
    · rw [List.length_cons, List.length_cons]; omega
    · split <;> simp
theorem bless (x y : ByteArray) : Op.bytesLess x.toList y.toList = decide (x.data.toList < y.data.toList) := by rw [bytesLess_eq, Lib.toList_data, Lib.toList_data]
theorem insS_mem (s : ByteArray) (l : List ByteArray) (x : Bs) : x ∈ (insS s l).map (·.data.toList) ↔ x = s.data.toList ∨ x ∈ l.map (·.data.toList) := by
  induction l with
  | nil => simp [insS]
  | cons a r ih =>
    unfold insS
    split
    · rw [List.map_cons, List.mem_cons, ih, List.map_cons, List.mem_cons]
      constructor
      · rintro (h | h | h)
        · exact .inr (.inl h)
        · exact .inl h
        · exact .inr (.inr h)
      · rintro (h | h | h)
        · exact .inr (.inl h)
        · exact .inl h
        · exact .inr (.inr h)
    · split
      · rename_i h1 h2
        have e : a.data.toList = s.data.toList := by rw [← Lib.toList_data, ← Lib.toList_data, h2]
        rw [List.map_cons, List.mem_cons, e]
        constructor
        · rintro (h | h)
          · exact .inl h
          · exact .inr (.inr h)
        · rintro (h | h | h)
          · exact .inl h
          · exact .inl h
          · exact .inr h
      · rw [List.map_cons, List.mem_cons]
theorem insS_rise (s : ByteArray) (l : List ByteArray) (h : (l.map (·.data.toList)).Pairwise (· < ·)) : ((insS s l).map (·.data.toList)).Pairwise (· < ·) := by
  induction l with
  | nil => simp [insS]
  | cons a r ih =>
    have h' := h
    rw [List.map_cons, List.pairwise_cons] at h
    unfold insS
    split
    · rename_i h1
      rw [bless, decide_eq_true_iff] at h1
      rw [List.map_cons, List.pairwise_cons]
      refine ⟨fun x hx => ?_, ih h.2⟩
      rcases (insS_mem s r x).1 hx with e | hx
      · rw [e]; exact h1
      · exact h.1 x hx
    · split
      · exact h'
      · rename_i h1 h2
        rw [bless, decide_eq_true_iff] at h1
        rw [List.map_cons, List.pairwise_cons]
        have lt : s.data.toList < a.data.toList := bs_lt h1 (fun e => h2 (by rw [Lib.toList_data, Lib.toList_data, e]))
        refine ⟨fun x hx => ?_, h'⟩
        rw [List.map_cons] at hx
        rcases List.mem_cons.1 hx with e | hx
        · rw [e]; exact lt
        · exact List.lt_trans lt (h.1 x hx)
/-- What the reference tells of a tree's principals. -/
def insAll (xs : List ByteArray) (ys : List ByteArray) : List ByteArray := ys.foldl (fun l s => insS s l) xs
theorem insAll_len (ys : List ByteArray) : ∀ xs, (insAll xs ys).length ≤ xs.length + ys.length := by
  induction ys with
  | nil => intro xs; exact Nat.le_refl _
  | cons y ys ih =>
    intro xs
    have h1 := ih (insS y xs)
    have h2 := insS_len y xs
    show (insAll (insS y xs) ys).length ≤ _
    rw [List.length_cons]
    omega
theorem insAll_append (xs ys zs : List ByteArray) : insAll xs (ys ++ zs) = insAll (insAll xs ys) zs := by unfold insAll; rw [List.foldl_append]
theorem insAll_rise (ys : List ByteArray) : ∀ xs, (xs.map (·.data.toList)).Pairwise (· < ·) → ((insAll xs ys).map (·.data.toList)).Pairwise (· < ·) := by
  induction ys with
  | nil => exact fun xs h => h
  | cons y ys ih => exact fun xs h => ih _ (insS_rise y xs h)
theorem insAll_mem (ys : List ByteArray) (x : Bs) : ∀ xs, x ∈ (insAll xs ys).map (·.data.toList) ↔ x ∈ ys.map (·.data.toList) ∨ x ∈ xs.map (·.data.toList) := by
  induction ys with
  | nil => intro xs; simp [insAll]
  | cons y ys ih =>
    intro xs
    show x ∈ (insAll (insS y xs) ys).map _ ↔ _
    rw [ih, insS_mem, List.map_cons, List.mem_cons]
    constructor
    · rintro (h | h | h)
      · exact .inl (.inr h)
      · exact .inl (.inl h)
      · exact .inr h
    · rintro ((h | h) | h)
      · exact .inr (.inl h)
      · exact .inl h
      · exact .inr (.inr h)
/-- Both tell the same. -/
theorem insAll_prinB (x : S24) : insAll [] (leaves x) = prinB x := by
  have h : (insAll [] (leaves x)).map (·.data.toList) = sortB (leaves x) := rise_uniq _ _ (insAll_rise _ _ List.Pairwise.nil) (sortB_rise _) (fun y => by rw [insAll_mem, sortB_mem]; simp)
  unfold prinB
  rw [← h, List.map_map]
  have e : ((fun l : Bs => (⟨l.toArray⟩ : ByteArray)) ∘ fun b : ByteArray => b.data.toList) = id := by funext b; simp [Function.comp]
  rw [e, List.map_id]
end Go.Proofs.YtjapfefiaijfcaaGreatDoor.Q
