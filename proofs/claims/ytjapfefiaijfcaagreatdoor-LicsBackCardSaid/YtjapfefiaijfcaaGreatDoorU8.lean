/- The parser: every part goes through, or it does not. Parse, of any text: what it answers. Plain facts on names that are put in the place of a tree's principals, and back. The law LicsBack: every call answers true. -/
import Derived.Test.YtjapfefiaijfcaaGreatDoorQx0
import Derived.Test.YtjapfefiaijfcaaGreatDoorU3
import Derived.Test.YtjapfefiaijfcaaGreatDoorU5
import Derived.Test.YtjapfefiaijfcaaGreatDoorU2
import Derived.Test.YtjapfefiaijfcaaGreatDoorU6
import Derived.Test.YtjapfefiaijfcaaGreatDoorU7
import Derived.BigRegion
import Derived.Test.YtjapfefiaijfcaaGreatDoorU4
import Derived.Test.YtjapfefiaijfcaaGreatDoorQx17
import Derived.Test.YtjapfefiaijfcaaGreatDoorQx18
import Derived.Deep.CutRange
import Derived.Deep.CutBlock
import Derived.Deep.RegionHeld3
namespace Go.Proofs.YtjapfefiaijfcaaGreatDoor.Q
open Go.RowKit Go.Proofs.YtjapfefiaijfcaaGreatDoorW.PrintWords Go.Proofs.YtjapfefiaijfcaaGreatDoorW.PrintLast Go.Proofs.YtjapfefiaijfcaaGreatDoorW.PrintMore
set_option linter.unusedVariables false
/-- A part that begins at a place goes through, with a tree that may be, or it does not. -/
def PartAns (M : Nat) (toks : List S70) (cs : List S138) (fn i : Nat) (dp : Int) : Prop :=
  (∃ (l : S24) (j : Nat), i < j ∧ j ≤ toks.length ∧ PartOK toks cs fn i dp l j ∧ okT l = true ∧ szT l ≤ j - i ∧ ∀ t ∈ leaves l, t.size ≤ M) ∨ PartNo toks cs fn i dp
theorem sign_ans (toks : List S70) (cs : List S138) (j : Nat) (dp : Int) (s : ByteArray) : (j < toks.length ∧ lics_reader_sign.f toks cs j dp s = some (true, (j : Int), dp)) ∨ lics_reader_sign.f toks cs j dp s = some (false, (j : Int), dp) := by
  unfold lics_reader_sign.f
  by_cases h : (j : Int) < (toks.length : Int)
  · rw [if_pos h, if_pos (by omega)]
    split
    · cases hb : ((rd_T70 toks (j : Int)).f1.toList == s.toList)
      · exact .inr rfl
      · exact .inl ⟨by omega, rfl⟩
    · exact .inr rfl
  · rw [if_neg h]; exact .inr rfl
theorem enter_ans (toks : List S70) (cs : List S138) (j : Nat) (dp : Int) (hj : j ≤ toks.length) (hm : toks.length ≤ 8192) (h0 : 0 ≤ dp) (h1 : dp ≤ 64) : (j < toks.length ∧ dp < 64 ∧ lics_reader_enter.f toks cs j dp = some (0, (j : Int) + 1, dp + 1)) ∨ ∃ er, er ≠ 0 ∧ lics_reader_enter.f toks cs j dp = some (er, (j : Int), dp) := by
  have w1 : wrap64 ((j : Int) + 1) = (j : Int) + 1 := by unfold wrap64; omega
  have w2 : wrap64 (dp + 1) = dp + 1 := by unfold wrap64; omega
  unfold lics_reader_enter.f
  rcases sign_ans toks cs j dp ⟨#[40]⟩ with ⟨hl, h⟩ | h
  · rw [h]
    by_cases hd : dp = 64
    · exact .inr ⟨3, by decide, by simp [hd]⟩
    · exact .inl ⟨hl, by omega, by simp [hd, w1, w2]⟩
  · rw [h]; exact .inr ⟨150, by decide, by simp⟩
theorem leave_ans (toks : List S70) (cs : List S138) (j : Nat) (dp : Int) (hj : j ≤ toks.length) (hm : toks.length ≤ 8192) (h0 : 0 ≤ dp) (h1 : dp ≤ 64) : (j < toks.length ∧ lics_reader_leave.f toks cs j (dp + 1) = some (0, ((j + 1 : Nat) : Int), dp)) ∨ ∃ er, er ≠ 0 ∧ lics_reader_leave.f toks cs j (dp + 1) = some (er, (j : Int), dp + 1) := by
  have w1 : wrap64 ((j : Int) + 1) = (j : Int) + 1 := by unfold wrap64; omega
  have w2 : wrap64 dp = dp := by unfold wrap64; omega
  unfold lics_reader_leave.f
  rcases sign_ans toks cs j (dp + 1) ⟨#[41]⟩ with ⟨hl, h⟩ | h
  · rw [h]; exact .inl ⟨hl, by simp [w1, w2]⟩
  · rw [h]; exact .inr ⟨150, by decide, by simp⟩
theorem okT_pair (op : Int) (l m : S24) (ho : op = 2 ∨ op = 3) (hl : okT l = true) (hm : okT m = true) : okT ⟨op, ⟨#[]⟩, 0, [l, m]⟩ = true := by
  rw [okT_eq]
  have h1 : op ≠ 1 := by omega
  simp [headT, h1, ho, hl, hm]
theorem szT_pair (op : Int) (l m : S24) : szT ⟨op, ⟨#[]⟩, 0, [l, m]⟩ = 1 + (szT l + szT m) := by rw [szT_eq]; simp
theorem okT_leaf (s : ByteArray) : okT ⟨1, s, 0, []⟩ = true := by rw [okT_eq]; simp [headT]
theorem szT_leaf (s : ByteArray) : szT ⟨1, s, 0, []⟩ = 1 := by rw [szT_eq]; simp
theorem leaves_pair (op : Int) (l m : S24) (ho : op = 2 ∨ op = 3) : leaves ⟨op, ⟨#[]⟩, 0, [l, m]⟩ = leaves l ++ leaves m := by
  have h1 : op ≠ 1 := by omega
  rw [leaves_eq]; simp [headL, h1]
theorem leaves_leaf (s : ByteArray) : leaves ⟨1, s, 0, []⟩ = [s] := by rw [leaves_eq]; simp [headL]
theorem chain_ans (M : Nat) (toks : List S70) (cs : List S138) (pf : Nat) (s : ByteArray) (op dp : Int) (ho : op = 2 ∨ op = 3) :
    ∀ (d j : Nat) (l : S24), d + j = toks.length → okT l = true → (∀ t ∈ leaves l, t.size ≤ M) → (∀ i, j < i → i ≤ toks.length → PartAns M toks cs pf i dp) →
      (∃ (r : S24) (n : Nat), Chain toks cs pf s op dp l j r n ∧ j ≤ n ∧ n ≤ toks.length ∧ okT r = true ∧ szT r ≤ szT l + (n - j) ∧ ∀ t ∈ leaves r, t.size ≤ M) ∨ ChainBad toks cs pf s dp j := by
  intro d
  induction d using Nat.strongRecOn with
  | ind d ih =>
    intro j l hd hl ht hP
    rcases sign_ans toks cs j dp s with ⟨hj, h⟩ | h
    · rcases hP (j + 1) (by omega) (by omega) with ⟨m, k, hk, hkl, hp, hmo, hms, hmt⟩ | hn
      · have hp' : PartOK toks cs pf ((j : Int) + 1) dp m k := hp
        rcases ih (toks.length - k) (by omega) k ⟨op, ⟨#[]⟩, 0, [l, m]⟩ (by omega) (okT_pair op l m ho hl hmo) (by rw [leaves_pair op l m ho]; intro t h; exact (List.mem_append.1 h).elim (ht t) (hmt t)) (fun i hi hi2 => hP i (by omega) hi2) with ⟨r, n, hc, hn, hnl, hro, hrs, hrt⟩ | hb
        · rw [szT_pair] at hrs
          exact .inl ⟨r, n, .more l j m k r n hj h hp' (by omega) hc, by omega, hnl, hro, by omega, hrt⟩
        · exact .inr (.more hj h hp' (by omega) hb)
      · exact .inr (.bad hj h hn)
    · exact .inl ⟨l, j, .stop l j h, Nat.le_refl _, by omega, hl, by omega, ht⟩
theorem all_ans (M : Nat) (toks : List S70) (cs : List S138) (hm : toks.length ≤ 8192) (i : Nat) (dp : Int) (h : ∀ k, i ≤ k → k ≤ toks.length → PartAns M toks cs 81 k dp) (hi : i ≤ toks.length) : PartAns M toks cs 59 i dp := by
  rcases h i (Nat.le_refl _) hi with ⟨l, j, hij, hj, hp, ho, hs, ht⟩ | hn
  · rcases chain_ans M toks cs 81 ⟨#[38, 38]⟩ 2 dp (.inl rfl) (toks.length - j) j l (by omega) ho ht (fun k hk hk2 => h k (by omega) hk2) with ⟨r, n, hc, hn, hnl, hro, hrs, hrt⟩ | hb
    · exact .inl ⟨r, n, by omega, hnl, lics_all.calls toks cs hm i dp l j r n hp hc, hro, by omega, hrt⟩
    · exact .inr (lics_all_bad.calls toks cs hm i dp l j hp hb)
  · exact .inr (lics_all_no.calls toks cs i dp hn)
theorem some_ans (M : Nat) (toks : List S70) (cs : List S138) (hm : toks.length ≤ 8192) (i : Nat) (dp : Int) (h : ∀ k, i ≤ k → k ≤ toks.length → PartAns M toks cs 59 k dp) (hi : i ≤ toks.length) : PartAns M toks cs 36 i dp := by
  rcases h i (Nat.le_refl _) hi with ⟨l, j, hij, hj, hp, ho, hs, ht⟩ | hn
  · rcases chain_ans M toks cs 59 ⟨#[124, 124]⟩ 3 dp (.inr rfl) (toks.length - j) j l (by omega) ho ht (fun k hk hk2 => h k (by omega) hk2) with ⟨r, n, hc, hn, hnl, hro, hrs, hrt⟩ | hb
    · exact .inl ⟨r, n, by omega, hnl, lics_some.calls toks cs hm i dp l j r n hp hc, hro, by omega, hrt⟩
    · exact .inr (lics_some_bad.calls toks cs hm i dp l j hp hb)
  · exact .inr (lics_some_no.calls toks cs i dp hn)
/-- The parts of a count. -/
theorem of_ans (M : Nat) (toks : List S70) (cs : List S138) (hm : toks.length ≤ 8192) (dp kk : Int) (h0 : 0 ≤ dp) (h1 : dp ≤ 64) :
    ∀ (d p : Nat) (acc : List S24), d + p = toks.length → acc.all okT = true → (∀ t ∈ (acc.map leaves).flatten, t.size ≤ M) → (∀ k, p ≤ k → k ≤ toks.length → PartAns M toks cs 36 k (dp + 1)) →
      (∃ (res : List S24) (n : Nat), OfArgs toks cs (dp + 1) acc p res n ∧ p < n ∧ n < toks.length ∧ kk ≤ res.length ∧ lics_reader_leave.f toks cs n (dp + 1) = some (0, ((n + 1 : Nat) : Int), dp) ∧ res.all okT = true ∧ (res.map szT).sum ≤ (acc.map szT).sum + (n - p) ∧ ∀ t ∈ (res.map leaves).flatten, t.size ≤ M) ∨ OfBad toks cs dp kk acc p := by
  intro d
  induction d using Nat.strongRecOn with
  | ind d ih =>
    intro p acc hd ha ht hP
    rcases hP p (Nat.le_refl _) (by omega) with ⟨m, j, hpj, hj, hp, hmo, hms, hmt⟩ | hn
    · have hlen : (acc ++ [m]).length = acc.length + 1 := by simp
      have hsum : ((acc ++ [m]).map szT).sum = (acc.map szT).sum + szT m := by simp
      have htt : ∀ t ∈ ((acc ++ [m]).map leaves).flatten, t.size ≤ M := by
        intro t h
        rw [List.map_append, List.flatten_append, List.mem_append] at h
        exact h.elim (ht t) (fun h => hmt t (by simpa using h))
      have hall : (acc ++ [m]).all okT = true := by rw [List.all_append, ha]; simp [hmo]
      rcases sign_ans toks cs j (dp + 1) ⟨#[44]⟩ with ⟨hjl, h⟩ | h
      · rcases ih (toks.length - (j + 1)) (by omega) (j + 1) (acc ++ [m]) (by omega) hall htt (fun k hk hk2 => hP k (by omega) hk2) with ⟨res, n, hc, hn, hnl, hkk, hL, hro, hrs, hrt⟩ | hb
        · exact .inl ⟨res, n, .more acc p m j res n (by omega) hjl (by omega) hp h hc, by omega, hnl, hkk, hL, hro, by omega, hrt⟩
        · exact .inr (.more (by omega) hjl (by omega) hp h hb)
      · by_cases hkk : (acc.length : Int) + 1 < kk
        · exact .inr (.few (by omega) hj hp h hkk)
        · rcases leave_ans toks cs j dp hj hm h0 h1 with ⟨hjl, hL⟩ | ⟨er, he, hL⟩
          · exact .inl ⟨acc ++ [m], j, .last acc p m j (by omega) hp h, hpj, hjl, by omega, hL, hall, by omega, htt⟩
          · exact .inr (.shut (by omega) hj hp h (by omega) he hL)
    · exact .inr (.part (by omega) hn)
/-- A row of digits without zeros ahead spells a number that is not 0. -/
theorem decFrom_ge (l : List UInt8) : ∀ (acc : Nat), (∀ b ∈ l, 48 ≤ b.toNat ∧ b.toNat ≤ 57) → ∃ n, Lib.decFrom acc l = some n ∧ acc ≤ n := by
  induction l with
  | nil => intro acc _; exact ⟨acc, rfl, Nat.le_refl _⟩
  | cons b r ih =>
    intro acc h
    have hb := h b (by simp)
    obtain ⟨n, e, hn⟩ := ih (acc * 10 + (b.toNat - 48)) (fun c hc => h c (by simp [hc]))
    exact ⟨n, by simp [Lib.decFrom, Lib.digitVal, hb, e], by omega⟩
theorem atoi_trim (x : ByteArray) (hx : DigT x) (hne : Lib.trimLeftB x.data.toList 48 ≠ []) : ∃ kk, Lib.atoi (Lib.trimLeftB x.data.toList 48) = some kk ∧ 1 ≤ kk := by
  have hall : ∀ b ∈ x.data.toList, 48 ≤ b.toNat ∧ b.toNat ≤ 57 := by
    intro b hb
    obtain ⟨k, hk, rfl⟩ := List.getElem_of_mem hb
    have hk' : k < x.size := by simpa using hk
    have := hx k hk'
    have e : bt x (k : Int) = ((x.data.toList[k]).toNat : Int) := by
      unfold bt
      rw [dif_pos (by simpa using hk')]
      rfl
    rw [e] at this
    simp only [isDigit, Bool.and_eq_true, decide_eq_true_eq] at this
    omega
  have hsub : ∀ b ∈ Lib.trimLeftB x.data.toList 48, 48 ≤ b.toNat ∧ b.toNat ≤ 57 := fun b hb => hall b ((List.dropWhile_sublist _).subset hb)
  cases hl : Lib.trimLeftB x.data.toList 48 with
  | nil => exact absurd hl hne
  | cons b r =>
    rw [hl] at hsub
    have hb := hsub b (by simp)
    have hnz : b ≠ 48 := by
      have := List.head?_dropWhile_not (fun y : UInt8 => y == 48) x.data.toList
      unfold Lib.trimLeftB at hl
      rw [hl] at this
      simpa using this
    have hb0 : b.toNat ≠ 48 := fun e => hnz (UInt8.toNat_inj.mp (by simpa using e))
    have h45 : (b == 45) = false := by rw [beq_eq_false_iff_ne]; rintro rfl; revert hb; decide
    have h43 : (b == 43) = false := by rw [beq_eq_false_iff_ne]; rintro rfl; revert hb; decide
    obtain ⟨n, e, hn⟩ := decFrom_ge r (b.toNat - 48) (fun c hc => hsub c (by simp [hc]))
    refine ⟨n, ?_, by omega⟩
    simp [Lib.atoi, h45, h43, Lib.decNat, Lib.decFrom, Lib.digitVal, hb, e]
theorem idxC_ans (tx : ByteArray) : ∀ (cs : List S138) (k : Nat), idxC tx cs k < 0 ∨ ∃ c : Nat, idxC tx cs k = c ∧ c < k + cs.length
  | [], _ => .inl (by simp [idxC])
  | c :: cs, k => by
    unfold idxC
    split
    · exact .inr ⟨k, rfl, by simp⟩
    · rcases idxC_ans tx cs (k + 1) with h | ⟨c', h, h2⟩
      · exact .inl h
      · exact .inr ⟨c', h, by simp; omega⟩
/-- What stands for itself. -/
theorem one_ans (M : Nat) (toks : List S70) (cs : List S138) (hcl : cs.length ≤ 1000) (hm : toks.length ≤ 8192) (hg : ∀ t ∈ toks, (t.f0 = 5 → DigT t.f1) ∧ t.f1.size ≤ M) (hcs : ∀ c ∈ cs, c.f1.size ≤ M) (i : Nat) (hi : i ≤ toks.length) (dp : Int) (h0 : 0 ≤ dp) (h1 : dp ≤ 64)
    (hP : ∀ k, i < k → k ≤ toks.length → ∀ d, 0 ≤ d → d ≤ 64 → PartAns M toks cs 36 k d) : PartAns M toks cs 81 i dp := by
  by_cases hil : i = toks.length
  · subst hil; exact .inr (lics_one_end.calls toks cs dp hm)
  have hi' : i < toks.length := by omega
  generalize hx : rd_T70 toks i = x
  have hx' := hx.symm
  have hxm : x ∈ toks := by
    have : rd_T70 toks (i : Int) = toks[i] := by simp [rd_T70, hi']
    rw [← hx, this]; exact List.getElem_mem _
  by_cases hk4 : x.f0 = 4
  · exact .inl ⟨_, i + 1, by omega, by omega, lics_one_str.calls toks cs i dp x hi' hm hx' hk4, okT_leaf _, by rw [szT_leaf]; omega, by rw [leaves_leaf]; intro t h; obtain rfl := List.mem_singleton.1 h; exact (hg x hxm).2⟩
  by_cases hk1 : x.f0 = 1
  · rcases idxC_ans x.f1 cs 0 with h | ⟨c, h, hc⟩
    · exact .inr (lics_one_noname.calls toks cs hcl i dp x hi' hm hx' hk1 h)
    · exact .inl ⟨_, i + 1, by omega, by omega, lics_one_name.calls toks cs hcl i dp x hi' hm hx' hk1 c h (by omega) _ rfl, okT_leaf _, by rw [szT_leaf]; omega, by rw [leaves_leaf]; intro t h; obtain rfl := List.mem_singleton.1 h; exact hcs _ (by have hc' : c < cs.length := (by omega); simp [rd_T138, hc'])⟩
  by_cases hk5 : x.f0 = 5
  · by_cases hd0 : Lib.trimLeftB x.f1.data.toList 48 = []
    · exact .inr (lics_one_of_no.calls toks cs i dp x hi' hm hx' hk5 (lics_of_empty.calls toks cs hm i dp x _ hi' hx' rfl (by rw [ByteArray.toList_eq]; exact hd0)))
    obtain ⟨kk, ha, hk1'⟩ := atoi_trim x.f1 ((hg x hxm).1 hk5) hd0
    generalize hd : (⟨(Lib.trimLeftB x.f1.data.toList 48).toArray⟩ : ByteArray) = d
    have hd' := hd.symm
    have hdl : d.data.toList = Lib.trimLeftB x.f1.data.toList 48 := by rw [← hd]
    rw [← hdl] at ha hd0
    have hdn : d.toList ≠ [] := fun e => hd0 (by rw [← ByteArray.toList_eq]; exact e)
    by_cases hd4 : 4 < d.size
    · exact .inr (lics_one_of_no.calls toks cs i dp x hi' hm hx' hk5 (lics_of_long.calls toks cs hm i dp x d hi' hx' hd' hdn hd4))
    rcases enter_ans toks cs (i + 1) dp (by omega) hm h0 h1 with ⟨hl1, hd64, hE⟩ | ⟨er, her, hE⟩
    · have e2 : ((i + 1 : Nat) : Int) + 1 = (i : Int) + 2 := by omega
      rw [e2] at hE
      have hE' : lics_reader_enter.f toks cs ((i : Int) + 1) dp = some (0, (i : Int) + 2, dp + 1) := hE
      rcases of_ans M toks cs hm dp kk h0 h1 (toks.length - (i + 2)) (i + 2) [] (by omega) rfl (by simp) (fun k hk hk2 => hP k (by omega) hk2 (dp + 1) (by omega) (by omega)) with ⟨res, n, hc, hn, hnl, hkk, hL, hro, hrs, hrt⟩ | hb
      · refine .inl ⟨⟨4, ⟨#[]⟩, kk, res⟩, n + 1, by omega, by omega, lics_one_of.calls toks cs i dp x _ _ hi' hm hx' hk5 (lics_of.calls toks cs hm i dp x d kk res n _ (by omega) hx' hd' hdn (by omega) ha hE' hc hkk hL), ?_, ?_, ?_⟩
        · rw [okT_eq]; simp only [Bool.and_eq_true]; exact ⟨by simp [headT, hk1', hkk], hro⟩
        · rw [szT_eq]; simp only [List.map_nil, List.sum_nil] at hrs; simp only; omega
        · rw [leaves_eq]; simpa [headL] using hrt
      · exact .inr (lics_one_of_no.calls toks cs i dp x hi' hm hx' hk5 (lics_of_bad.calls toks cs hm i dp x d kk hi' hx' hd' hdn (by omega) ha hE' hb))
    · exact .inr (lics_one_of_no.calls toks cs i dp x hi' hm hx' hk5 (lics_of_shut.calls toks cs hm i dp x d kk er hi' hx' hd' hdn (by omega) ha her hE))
  rcases enter_ans toks cs i dp hi hm h0 h1 with ⟨hl1, hd64, hE⟩ | ⟨er, her, hE⟩
  · rcases hP (i + 1) (by omega) (by omega) (dp + 1) (by omega) (by omega) with ⟨l, j, hij, hj, hp, ho, hs, ht⟩ | hn
    · have hp' : PartOK toks cs 36 ((i : Int) + 1) (dp + 1) l j := hp
      rcases leave_ans toks cs j dp hj hm h0 h1 with ⟨hjl, hL⟩ | ⟨er, he, hL⟩
      · exact .inl ⟨l, j + 1, by omega, by omega, lics_one_in.calls toks cs i dp x hi' hm hx' hk1 hk4 hk5 l j _ hE hp' hL, ho, by omega, ht⟩
      · exact .inr (lics_one_open.calls toks cs i dp x hi' hm hx' hk1 hk4 hk5 l j er he hj hE hp' hL)
    · exact .inr (lics_one_in_no.calls toks cs i dp x hi' hm hx' hk1 hk4 hk5 hE hn)
  · exact .inr (lics_one_shut.calls toks cs i dp x hi' hm hx' hk1 hk4 hk5 er hE her)
/-- Every place, at every depth. -/
theorem part_ans (M : Nat) (toks : List S70) (cs : List S138) (hcl : cs.length ≤ 1000) (hm : toks.length ≤ 8192) (hg : ∀ t ∈ toks, (t.f0 = 5 → DigT t.f1) ∧ t.f1.size ≤ M) (hcs : ∀ c ∈ cs, c.f1.size ≤ M) :
    ∀ (d i : Nat), d + i = toks.length → ∀ dp, 0 ≤ dp → dp ≤ 64 → PartAns M toks cs 81 i dp ∧ PartAns M toks cs 59 i dp ∧ PartAns M toks cs 36 i dp := by
  intro d
  induction d using Nat.strongRecOn with
  | ind d ih =>
    intro i hd dp h0 h1
    have hl : ∀ k, i < k → k ≤ toks.length → ∀ d', 0 ≤ d' → d' ≤ 64 → PartAns M toks cs 81 k d' ∧ PartAns M toks cs 59 k d' ∧ PartAns M toks cs 36 k d' := fun k hk hk2 d' a b => ih (toks.length - k) (by omega) k (by omega) d' a b
    have A := one_ans M toks cs hcl hm hg hcs i (by omega) dp h0 h1 (fun k hk hk2 d' a b => (hl k hk hk2 d' a b).2.2)
    have A2 : ∀ k, i ≤ k → k ≤ toks.length → PartAns M toks cs 81 k dp := fun k hk hk2 => by
      by_cases e : i = k
      · exact e ▸ A
      · exact (hl k (by omega) hk2 dp h0 h1).1
    have B := all_ans M toks cs hm i dp A2 (by omega)
    have B2 : ∀ k, i ≤ k → k ≤ toks.length → PartAns M toks cs 59 k dp := fun k hk hk2 => by
      by_cases e : i = k
      · exact e ▸ B
      · exact (hl k (by omega) hk2 dp h0 h1).2.1
    exact ⟨A, B, some_ans M toks cs hm i dp B2 (by omega)⟩
end Go.Proofs.YtjapfefiaijfcaaGreatDoor.Q
namespace Go.Proofs.YtjapfefiaijfcaaGreatDoor.Q
open Go.RowKit Go.Proofs.YtjapfefiaijfcaaGreatDoorW.PrintWords Go.Proofs.YtjapfefiaijfcaaGreatDoorW.PrintLast Go.Proofs.YtjapfefiaijfcaaGreatDoorW.PrintMore
set_option linter.unusedVariables false
/-- What Parse leaves: trees of its own, a place, an error. -/
def ParsePost (o : List S24 × Int × Int) (w : World) (e : Ending) (w' : World) : Prop :=
  ∃ v, e = .returned (.tuple #[v, .int .i64 o.2.1, .int .i64 o.2.2]) ∧ Kd.R k24 24 w' w.heap.size (fun _ => True) v o.1 ∧ Below w.heap.size w w'
set_option maxHeartbeats 8000000 in
set_option maxRecDepth 100000 in
theorem lics_Parse_err.calls (s : ByteArray) (cs : List S138) (p er : Int) (hne : er ≠ 0) (hT : ∀ w, Calls Tryz.prog 35 #[.string s] w (TokPost (.inr (p, er)) w)) (Ac : Option Addr) (c : Nat) (w : World) :
    Calls Tryz.prog 19 #[.string s, .slice Ac cs.length c] w (ParsePost ([], p, er) w) := by
  have HT := Aside0.mk hT
  have hern : (er == 0) = false := beq_eq_false_iff_ne.mpr hne
  have hern2 : (er != 0) = true := by simp [bne, hern]
  clear hT hne
  go_enter Tryz.func19, Tryz.ntmps19
  go_wp2_with (fail)
  go_at_call 35
  refine (HT.out _).mono ?_
  rintro e_ w1 ⟨rfl, hb⟩
  have HB1 := Aside0.mk hb
  clear hb
  go_wp2_with (fail)
  refine bodyPost_ret (v := .tuple #[.slice none 0 0, .int .i64 p, .int .i64 er]) ?_ rfl ⟨_, rfl, Kd.R_nil _ _ _ _ _, HB1.out⟩
  simp [results, Tryz.results19, go_sem]
set_option maxHeartbeats 8000000 in
set_option maxRecDepth 100000 in
theorem lics_Parse_none.calls (s : ByteArray) (cs : List S138) (hT : ∀ w, Calls Tryz.prog 35 #[.string s] w (TokPost (.inl []) w)) (Ac : Option Addr) (c : Nat) (w : World) :
    Calls Tryz.prog 19 #[.string s, .slice Ac cs.length c] w (ParsePost ([], 0, 0) w) := by
  have HT := Aside0.mk hT
  clear hT
  go_enter Tryz.func19, Tryz.ntmps19
  go_wp2_with (fail)
  go_at_call 35
  refine (HT.out _).mono ?_
  rintro e_ w1 ⟨v0, rfl, hr, hb⟩
  obtain ⟨A, cp, rfl, hc, hC⟩ := Kd.R_reads hr
  have HB1 := Aside0.mk hb
  clear hb hr hc hC
  rw [List.length_nil]
  go_wp2_with (fail)
  refine bodyPost_ret (v := .tuple #[.slice none 0 0, .int .i64 0, .int .i64 0]) ?_ rfl ⟨_, rfl, Kd.R_nil _ _ _ _ _, HB1.out⟩
  simp [results, Tryz.results19, go_sem]
set_option maxHeartbeats 8000000 in
set_option maxRecDepth 100000 in
/-- The tokens are read to their end. -/
theorem lics_Parse_ok.calls (s : ByteArray) (cs : List S138) (xs : List S70) (hne : 0 < xs.length) (l : S24) (dp : Int) (hT : ∀ w, Calls Tryz.prog 35 #[.string s] w (TokPost (.inl xs) w)) (hP : PartOK xs cs 36 0 0 l (xs.length : Nat)) (Ac : Option Addr) (c : Nat) (w : World) (hC : Kd.C k138 w Ac cs.length cs) :
    Calls Tryz.prog 19 #[.string s, .slice Ac cs.length c] w (ParsePost ([l], 0, 0) w) := by
  have HT := Aside0.mk hT
  have HP := Aside0.mk hP
  have HC := Aside0.mk hC
  have z0 : ((xs.length : Int) == 0) = false := beq_eq_false_iff_ne.mpr (by omega)
  have z1 : (xs.length == 0) = false := beq_eq_false_iff_ne.mpr (by omega)
  have z2 : decide ((xs.length : Int) < (xs.length : Int)) = false := decide_eq_false (by omega)
  clear hT hP hC hne
  go_enter Tryz.func19, Tryz.ntmps19
  go_wp2_with (fail)
  go_at_call 35
  refine (HT.out _).mono ?_
  rintro e_ w1 ⟨v0, rfl, hr, hb⟩
  obtain ⟨A, cp, rfl, hc, hC1⟩ := Kd.R_reads hr
  have HB1 := Aside0.mk hb
  have HC1 := Aside0.mk hC1
  have HI1 := Aside0.mk (IsS67.new w1 w1 A cp Ac c xs cs 0 0 (Below.refl _ _) hC1 (Kd.C_below HC.out hb))
  have HBn := Aside0.mk (below_alloc (Below.refl w1.heap.size w1) (.cells #[.slice A xs.length cp, .slice Ac cs.length c, .int .i64 0, .int .i64 0] 67))
  clear hb hr hc hC1
  go_wp2_with (fail)
  go_at_call 36
  refine (HP.out w1.heap.size w1 _ HI1.out HBn.out).mono ?_
  rintro e_ w3 ⟨v1, rfl, hi, hb, hk, hr⟩
  obtain ⟨A3, cp3, rfl⟩ := Kd.R_slice hr
  have HI3 := Aside0.mk hi
  have HB3 := Aside0.mk hb
  have HR3 := Aside0.mk hr
  obtain ⟨A0', c0', A1', c1', hG, -, -, -⟩ := hi
  have gg2 := fun o => cellS67_2 (blk_alloc hG o)
  clear hb hk hr hG
  go_wp2_with (fail)
  have z1 : w.heap.size ≤ w1.heap.size := HB1.out.size
  have z3 : w1.heap.size ≤ w3.heap.size := HB3.out.size
  have hR := one_row (W := w3.alloc (.cells #[.int .u8 l.f0, .string l.f1, .int .i64 l.f2, .slice A3 l.f3.length cp3] 24)) (base := w.heap.size) (ok := fun _ => True) (l := l) (Kd.R_alloc (Kd.R_lower HR3.out (by simp; omega)) _) (by simp; omega) trivial
  rw [show (w3.alloc (.cells #[.int .u8 l.f0, .string l.f1, .int .i64 l.f2, .slice A3 l.f3.length cp3] 24)).heap.size = w3.heap.size + 1 from by simp] at hR
  refine bodyPost_ret (v := .tuple #[.slice (some ⟨w3.heap.size + 1, 0, none⟩) 1 1, .int .i64 0, .int .i64 0]) ?_ rfl ⟨_, rfl, hR, ?_⟩
  · simp [results, Tryz.results19, go_sem]
  · exact ((HB1.out.trans (HB3.out.mono z1)).alloc (by omega) _).alloc (by simp; omega) _
set_option maxHeartbeats 8000000 in
set_option maxRecDepth 100000 in
/-- Tokens are left behind the tree. -/
theorem lics_Parse_rest.calls (s : ByteArray) (cs : List S138) (xs : List S70) (l : S24) (j : Nat) (hj : j < xs.length) (hT : ∀ w, Calls Tryz.prog 35 #[.string s] w (TokPost (.inl xs) w)) (hP : PartOK xs cs 36 0 0 l j) (Ac : Option Addr) (c : Nat) (w : World) (hC : Kd.C k138 w Ac cs.length cs) :
    Calls Tryz.prog 19 #[.string s, .slice Ac cs.length c] w (ParsePost ([], (rd_T70 xs j).f2, 150) w) := by
  have HT := Aside0.mk hT
  have HP := Aside0.mk hP
  have HC := Aside0.mk hC
  have z0 : ((xs.length : Int) == 0) = false := beq_eq_false_iff_ne.mpr (by omega)
  have z1 : (xs.length == 0) = false := beq_eq_false_iff_ne.mpr (by omega)
  have z2 : decide ((j : Int) < (xs.length : Int)) = true := decide_eq_true (by omega)
  have p1 : (0 ≤ (j : Int)) = True := eq_true (by omega)
  have p2 : ((j : Int) < (xs.length : Int)) = True := eq_true (by omega)
  have p3 : (j < xs.length) = True := eq_true (by omega)
  have HJ := Aside0.mk hj
  clear hT hP hC hj
  go_enter Tryz.func19, Tryz.ntmps19
  go_wp2_with (fail)
  go_at_call 35
  refine (HT.out _).mono ?_
  rintro e_ w1 ⟨v0, rfl, hr, hb⟩
  obtain ⟨A, cp, rfl, hc, hC1⟩ := Kd.R_reads hr
  have HB1 := Aside0.mk hb
  have HC1 := Aside0.mk hC1
  have HI1 := Aside0.mk (IsS67.new w1 w1 A cp Ac c xs cs 0 0 (Below.refl _ _) hC1 (Kd.C_below HC.out hb))
  have HBn := Aside0.mk (below_alloc (Below.refl w1.heap.size w1) (.cells #[.slice A xs.length cp, .slice Ac cs.length c, .int .i64 0, .int .i64 0] 67))
  clear hb hr hc hC1
  go_wp2_with (fail)
  go_at_call 36
  refine (HP.out w1.heap.size w1 _ HI1.out HBn.out).mono ?_
  rintro e_ w3 ⟨v1, rfl, hi, hb, hk, hr⟩
  obtain ⟨A3, cp3, rfl⟩ := Kd.R_slice hr
  have HB3 := Aside0.mk hb
  obtain ⟨ad, ea, x0, x1, x2, x3⟩ := at_T70 (Kd.C_below HC1.out hb) (j : Int) (by omega) (by have := HJ.out; omega)
  subst ea
  rw [Int.toNat_natCast] at x2
  obtain ⟨A0', c0', A1', c1', hG, -, -, -⟩ := hi
  have gg2 := fun o => cellS67_2 (blk_alloc hG o)
  have ggf := fun o => blk_frozen (blk_alloc hG o) 2
  have y2 := fun o => pw_cell_below ((Below.refl _ w3).alloc (Nat.le_refl _) o) x2
  clear hb hk hr hG x0 x1 x2 x3
  go_wp2_with (fail)
  go_region
  all_goals go_wp2_with (fail)
  refine bodyPost_ret (v := .tuple #[.slice none 0 0, .int .i64 (rd_T70 xs (j : Int)).f2, .int .i64 150]) ?_ rfl ⟨_, rfl, Kd.R_nil _ _ _ _ _, ?_⟩
  · simp [results, Tryz.results19, go_sem]
  · exact below_drew1 ((HB1.out.trans (HB3.out.mono HB1.out.size)).alloc (by have := HB1.out.size; have := HB3.out.size; omega) _)
set_option maxHeartbeats 8000000 in
set_option maxRecDepth 100000 in
/-- The parser does not go through. -/
theorem lics_Parse_bad.calls (s : ByteArray) (cs : List S138) (xs : List S70) (hne : 0 < xs.length) (hg : ∀ t ∈ xs, 0 ≤ t.f2 ∧ t.f2 ≤ s.size) (hT : ∀ w, Calls Tryz.prog 35 #[.string s] w (TokPost (.inl xs) w)) (hP : PartNo xs cs 36 0 0) (Ac : Option Addr) (c : Nat) (w : World) (hC : Kd.C k138 w Ac cs.length cs) :
    Calls Tryz.prog 19 #[.string s, .slice Ac cs.length c] w (fun e w' => ∃ p er, 0 ≤ p ∧ p ≤ (s.size : Int) ∧ ParsePost ([], p, er) w e w') := by
  have HT := Aside0.mk hT
  have HP := Aside0.mk hP
  have HC := Aside0.mk hC
  have HG := Aside0.mk hg
  have z0 : ((xs.length : Int) == 0) = false := beq_eq_false_iff_ne.mpr (by omega)
  have z1 : (xs.length == 0) = false := beq_eq_false_iff_ne.mpr (by omega)
  clear hT hP hC hne hg
  go_enter Tryz.func19, Tryz.ntmps19
  go_wp2_with (fail)
  go_at_call 35
  refine (HT.out _).mono ?_
  rintro e_ w1 ⟨v0, rfl, hr, hb⟩
  obtain ⟨A, cp, rfl, hc, hC1⟩ := Kd.R_reads hr
  have HB1 := Aside0.mk hb
  have HC1 := Aside0.mk hC1
  have HI1 := Aside0.mk (IsS67.new w1 w1 A cp Ac c xs cs 0 0 (Below.refl _ _) hC1 (Kd.C_below HC.out hb))
  have HBn := Aside0.mk (below_alloc (Below.refl w1.heap.size w1) (.cells #[.slice A xs.length cp, .slice Ac cs.length c, .int .i64 0, .int .i64 0] 67))
  clear hb hr hc hC1
  go_wp2_with (fail)
  go_at_call 36
  refine (HP.out w1.heap.size w1 _ HI1.out HBn.out).mono ?_
  rintro e_ w3 ⟨a, b, cc, A3, n3, cp3, er, j, dp1, rfl, her, hj, hi, hb, hk⟩
  have hern : (er == 0) = false := beq_eq_false_iff_ne.mpr her
  have HB3 := Aside0.mk hb
  obtain ⟨A0', c0', A1', c1', hG, -, -, -⟩ := hi
  have gg2 := fun o => cellS67_2 (blk_alloc hG o)
  have ggf := fun o => blk_frozen (blk_alloc hG o) 2
  by_cases hlt : j < xs.length
  · have z2 : decide ((j : Int) < (xs.length : Int)) = true := decide_eq_true (by omega)
    have p1 : (0 ≤ (j : Int)) = True := eq_true (by omega)
    have p2 : ((j : Int) < (xs.length : Int)) = True := eq_true (by omega)
    have p3 : (j < xs.length) = True := eq_true (by omega)
    obtain ⟨ad, ea, x0, x1, x2, x3⟩ := at_T70 (Kd.C_below HC1.out hb) (j : Int) (by omega) (by omega)
    subst ea
    rw [Int.toNat_natCast] at x2
    have y2 := fun o => pw_cell_below ((Below.refl _ w3).alloc (Nat.le_refl _) o) x2
    have HGj := Aside0.mk (HG.out (rd_T70 xs (j : Int)) (by rw [show rd_T70 xs (j : Int) = xs[j] from by simp [rd_T70, hlt]]; exact List.getElem_mem _))
    clear hb hk hG x0 x1 x2 x3 her hj hlt
    go_wp2_with (fail)
    go_region
    all_goals go_wp2_with (fail)
    refine bodyPost_ret (v := .tuple #[.slice none 0 0, .int .i64 (rd_T70 xs (j : Int)).f2, .int .i64 er]) ?_ rfl ⟨_, er, HGj.out.1, HGj.out.2, _, rfl, Kd.R_nil _ _ _ _ _, ?_⟩
    · simp [results, Tryz.results19, go_sem]
    · exact below_drew1 ((HB1.out.trans (HB3.out.mono HB1.out.size)).alloc (by have := HB1.out.size; have := HB3.out.size; omega) _)
  · have z2 : decide ((j : Int) < (xs.length : Int)) = false := decide_eq_false (by omega)
    have p2 : ((j : Int) < (xs.length : Int)) = False := eq_false (by omega)
    have p3 : (j < xs.length) = False := eq_false (by omega)
    clear hb hk hG her hj hlt
    go_wp2_with (fail)
    refine bodyPost_ret (v := .tuple #[.slice none 0 0, .int .i64 (s.size : Int), .int .i64 er]) ?_ rfl ⟨_, er, by omega, Int.le_refl _, _, rfl, Kd.R_nil _ _ _ _ _, ?_⟩
    · simp [results, Tryz.results19, go_sem]
    · exact (HB1.out.trans (HB3.out.mono HB1.out.size)).alloc (by have := HB1.out.size; have := HB3.out.size; omega) _
theorem rd_mem (xs : List S70) (j : Nat) (h : j < xs.length) : rd_T70 xs (j : Int) ∈ xs := by
  rw [show rd_T70 xs (j : Int) = xs[j] from by simp [rd_T70, h]]; exact List.getElem_mem _
/-- What Parse answers of any text: one tree that may be, or none, and a place in the text. -/
theorem lics_Parse_all.calls (s : ByteArray) (cs : List S138) (hcl : cs.length ≤ 1000) (M : Nat) (hM : s.size ≤ M) (hcs : ∀ c ∈ cs, c.f1.size ≤ M) :
    (∃ l, okT l = true ∧ szT l ≤ 8192 ∧ (∀ t ∈ leaves l, t.size ≤ M) ∧ ∀ (Ac : Option Addr) (c : Nat) (w : World), Kd.C k138 w Ac cs.length cs → Calls Tryz.prog 19 #[.string s, .slice Ac cs.length c] w (ParsePost ([l], 0, 0) w)) ∨
    ∀ (Ac : Option Addr) (c : Nat) (w : World), Kd.C k138 w Ac cs.length cs → Calls Tryz.prog 19 #[.string s, .slice Ac cs.length c] w (fun e w' => ∃ p er, 0 ≤ p ∧ p ≤ (s.size : Int) ∧ ParsePost ([], p, er) w e w') := by
  obtain ⟨o, ho, hT⟩ := tokens_Tokens_all.calls s
  match o, ho, hT with
  | .inr (p, er), ho, hT => exact .inr fun Ac c w hC => (lics_Parse_err.calls s cs p er ho.1 hT Ac c w).mono fun e w' h => ⟨p, er, ho.2.1, ho.2.2, h⟩
  | .inl [], ho, hT => exact .inr fun Ac c w hC => (lics_Parse_none.calls s cs hT Ac c w).mono fun e w' h => ⟨0, 0, by omega, by omega, h⟩
  | .inl (x :: xs), ho, hT =>
    obtain ⟨hm, hg⟩ := ho
    have hne : 0 < (x :: xs).length := Nat.succ_pos _
    have hg' : ∀ t ∈ x :: xs, (t.f0 = 5 → DigT t.f1) ∧ t.f1.size ≤ M := fun t ht => ⟨(hg t ht).2.2.1, Nat.le_trans (hg t ht).2.2.2 hM⟩
    rcases (part_ans M (x :: xs) cs hcl hm hg' hcs (x :: xs).length 0 (by omega) 0 (by omega) (by omega)).2.2 with ⟨l, j, h0, hj, hp, hok, hs, hl⟩ | hn
    · by_cases hlt : j < (x :: xs).length
      · refine .inr fun Ac c w hC => (lics_Parse_rest.calls s cs (x :: xs) l j hlt hT hp Ac c w hC).mono fun e w' h => ⟨_, _, (hg _ (rd_mem _ j hlt)).1, (hg _ (rd_mem _ j hlt)).2.1, h⟩
      · obtain rfl : j = (x :: xs).length := by omega
        exact .inl ⟨l, hok, by omega, hl, fun Ac c w hC => lics_Parse_ok.calls s cs (x :: xs) hne l 0 hT hp Ac c w hC⟩
    · exact .inr fun Ac c w hC => lics_Parse_bad.calls s cs (x :: xs) hne (fun t ht => ⟨(hg t ht).1, (hg t ht).2.1⟩) hT hn Ac c w hC
end Go.Proofs.YtjapfefiaijfcaaGreatDoor.Q
namespace Go.Proofs.YtjapfefiaijfcaaGreatDoor.Q
open Go.RowKit Go.Proofs.YtjapfefiaijfcaaGreatDoorW.PrintWords Go.Proofs.YtjapfefiaijfcaaGreatDoorW.PrintLast Go.Proofs.YtjapfefiaijfcaaGreatDoorW.PrintMore
set_option linter.unusedVariables false
/-- A text longer than each. -/
def longS : List ByteArray → ByteArray → ByteArray
  | [], b => b
  | a :: r, b => longS r (if b.size ≤ a.size then a ++ ⟨#[120]⟩ else b)
theorem longS_ge (l : List ByteArray) : ∀ b, b.size ≤ (longS l b).size := by
  induction l with
  | nil => intro b; exact Nat.le_refl _
  | cons a r ih =>
    intro b
    unfold longS
    split
    · refine Nat.le_trans ?_ (ih _); simp; omega
    · exact ih _
theorem longS_le (l : List ByteArray) (M : Nat) : ∀ b, b.size ≤ M + 1 → (∀ a ∈ l, a.size ≤ M) → (longS l b).size ≤ M + 1 := by
  induction l with
  | nil => intro b h _; exact h
  | cons a r ih =>
    intro b h hl
    unfold longS
    refine ih _ ?_ (fun c hc => hl c (by simp [hc]))
    have := hl a (by simp)
    have e : (⟨#[120]⟩ : ByteArray).size = 1 := rfl
    split
    · rw [ByteArray.size_append]; omega
    · exact h
theorem longS_take (l : List ByteArray) (b : ByteArray) (k : Nat) (h : k < l.length) : longS (l.take (k + 1)) b = (if (longS (l.take k) b).size ≤ l[k].size then l[k] ++ ⟨#[120]⟩ else longS (l.take k) b) := by
  induction l generalizing b k with
  | nil => simp at h
  | cons a r ih =>
    cases k with
    | zero => simp [longS]
    | succ k =>
      simp only [List.length_cons] at h
      simp only [List.take_succ_cons, longS, List.getElem_cons_succ]
      exact ih _ k (by omega)
/-- A text with so many letters behind. -/
def bY (b : ByteArray) : Nat → ByteArray
  | 0 => b
  | k + 1 => bY b k ++ ⟨#[121]⟩
theorem bY_size (b : ByteArray) (k : Nat) : (bY b k).size = b.size + k := by
  induction k with
  | zero => rfl
  | succ k ih => unfold bY; have e : (⟨#[121]⟩ : ByteArray).size = 1 := rfl; rw [ByteArray.size_append, ih]; omega
/-- The first of the longer and longer texts. -/
def toS (b : ByteArray) (n : Nat) : List ByteArray := (List.range n).map (fun j => bY b (j + 1))
theorem toS_length (b : ByteArray) (n : Nat) : (toS b n).length = n := by simp [toS]
theorem toS_succ (b : ByteArray) (n : Nat) : toS b (n + 1) = toS b n ++ [bY b (n + 1)] := by simp [toS, List.range_succ]
theorem app_lt (l : List UInt8) (c : UInt8) : l < l ++ [c] := by
  induction l with
  | nil => exact List.Lex.nil
  | cons a l ih => exact List.Lex.cons ih
theorem bY_step (b : ByteArray) (k : Nat) : (bY b k).data.toList < (bY b (k + 1)).data.toList := by
  have : (bY b (k + 1)).data.toList = (bY b k).data.toList ++ [121] := by
    show (bY b k ++ (⟨#[121]⟩ : ByteArray)).data.toList = _
    simp
  rw [this]; exact app_lt _ _
theorem bY_lt (b : ByteArray) (j d : Nat) : (bY b j).data.toList < (bY b (j + d + 1)).data.toList := by
  induction d with
  | zero => exact bY_step b j
  | succ d ih => exact List.lt_trans ih (bY_step b (j + d + 1))
theorem toS_rise (b : ByteArray) (n : Nat) : ((toS b n).map (·.data.toList)).Pairwise (· < ·) := by
  rw [List.pairwise_map, toS, List.pairwise_map]
  refine List.Pairwise.imp (R := (· < ·)) ?_ List.pairwise_lt_range
  intro i j h
  have := bY_lt b (i + 1) (j - i - 1)
  rwa [show i + 1 + (j - i - 1) + 1 = j + 1 from by omega] at this
theorem bs_eta (t : ByteArray) : (⟨t.data.toList.toArray⟩ : ByteArray) = t := by cases t; simp
theorem rise_ne (l : List ByteArray) (h : (l.map (·.data.toList)).Pairwise (· < ·)) (i j : Nat) (hi : i < l.length) (hj : j < l.length) (hij : i ≠ j) : l[i].toList ≠ l[j].toList := by
  have key : ∀ a b (ha : a < l.length) (hb : b < l.length), a < b → l[a].data.toList < l[b].data.toList := fun a b ha hb hab => by
    have := List.pairwise_iff_getElem.1 h a b (by simpa using ha) (by simpa using hb) hab
    simpa using this
  intro e
  rw [ByteArray.toList_eq, ByteArray.toList_eq] at e
  rcases Nat.lt_or_gt_of_ne hij with h1 | h1
  · have := key i j hi hj h1; rw [e] at this; exact List.lt_irrefl _ this
  · have := key j i hj hi h1; rw [e] at this; exact List.lt_irrefl _ this
theorem placeS_drop (l : List ByteArray) (t : ByteArray) (i : Nat) (hi : i < l.length) (ht : t.toList = l[i].toList) (hn : ∀ k (hk : k < l.length), k < i → t.toList ≠ l[k].toList) : ∀ d j, j + d = i → placeS t (l.drop j) j = (i : Int) := by
  intro d
  induction d with
  | zero =>
    intro j hj
    obtain rfl : j = i := by omega
    rw [List.drop_eq_getElem_cons hi]
    unfold placeS
    rw [if_pos ht]
  | succ d ih =>
    intro j hj
    have hlt : j < l.length := by omega
    rw [List.drop_eq_getElem_cons hlt]
    unfold placeS
    rw [if_neg (hn j hlt (by omega))]
    exact ih (j + 1) (by omega)
theorem placeS_of (l : List ByteArray) (h : (l.map (·.data.toList)).Pairwise (· < ·)) (i : Nat) (hi : i < l.length) : placeS l[i] l 0 = (i : Int) := by
  have := placeS_drop l l[i] i hi rfl (fun k hk hki => rise_ne l h i k hi hk (by omega)) i 0 (by omega)
  simpa using this
/-- What stands in a text's place. -/
def turnS (fr tn : List ByteArray) (t : ByteArray) : ByteArray := if 0 ≤ placeS t fr 0 then rdOf ByteArray.empty tn (placeS t fr 0) else t
theorem turnS_of (fr tn : List ByteArray) (h : (fr.map (·.data.toList)).Pairwise (· < ·)) (hl : fr.length = tn.length) (i : Nat) (hi : i < fr.length) : turnS fr tn fr[i] = tn[i]'(hl ▸ hi) := by
  unfold turnS
  rw [placeS_of fr h i hi, if_pos (by omega), rdOf_nat (hl ▸ hi)]
theorem textT_leaf (fr tn : List ByteArray) (x : S24) (h : x.f0 = 1) : textT fr tn x = turnS fr tn x.f1 := by
  unfold textT turnS
  simp only [h, true_and]
theorem textT_else (fr tn : List ByteArray) (x : S24) (h : x.f0 ≠ 1) : textT fr tn x = x.f1 := by
  unfold textT
  rw [if_neg (fun q => h q.1)]
theorem leaves_ren (fr tn : List ByteArray) (N : Nat) : ∀ x : S24, szT x < N → leaves (renT fr tn x) = (leaves x).map (turnS fr tn) := by
  induction N with
  | zero => intro x h; omega
  | succ N ih =>
    intro x h
    rw [renT_eq, leaves_eq, leaves_eq x, List.map_append]
    congr 1
    · by_cases h1 : x.f0 = 1
      · simp [headL, h1, textT_leaf fr tn x h1]
      · simp [headL, h1]
    · rw [List.map_flatten, List.map_map, List.map_map]
      congr 1
      refine List.map_congr_left fun y hy => ?_
      have : szT y ≤ (x.f3.map szT).sum := sum_mem (List.mem_map.2 ⟨y, hy, rfl⟩)
      rw [szT_eq] at h
      exact ih y (by omega)
theorem okT_ren (fr tn : List ByteArray) (N : Nat) : ∀ x : S24, szT x < N → okT (renT fr tn x) = okT x := by
  induction N with
  | zero => intro x h; omega
  | succ N ih =>
    intro x h
    rw [renT_eq, okT_eq, okT_eq x]
    congr 1
    · by_cases h1 : x.f0 = 1
      · simp [headT, h1]
      · simp [textT_else fr tn x h1]
    · rw [List.all_map]
      rw [szT_eq] at h
      rw [Bool.eq_iff_iff, List.all_eq_true, List.all_eq_true]
      have key : ∀ y ∈ x.f3, okT (renT fr tn y) = okT y := fun y hy => ih y (by have : szT y ≤ (x.f3.map szT).sum := sum_mem (List.mem_map.2 ⟨y, hy, rfl⟩); omega)
      exact ⟨fun q y hy => by rw [← key y hy]; exact q y hy, fun q y hy => by show okT (renT fr tn y) = true; rw [key y hy]; exact q y hy⟩
theorem ren_back (fr tn : List ByteArray) (hf : (fr.map (·.data.toList)).Pairwise (· < ·)) (ht : (tn.map (·.data.toList)).Pairwise (· < ·)) (hl : fr.length = tn.length) (N : Nat) :
    ∀ x : S24, szT x < N → (∀ t ∈ leaves x, ∃ (i : Nat) (hi : i < fr.length), fr[i] = t) → renT tn fr (renT fr tn x) = x := by
  induction N with
  | zero => intro x h; omega
  | succ N ih =>
    intro x h hx
    rw [szT_eq] at h
    have e1 : textT tn fr ⟨x.f0, textT fr tn x, x.f2, x.f3.map (renT fr tn)⟩ = x.f1 := by
      by_cases h1 : x.f0 = 1
      · rw [textT_leaf fr tn x h1]
        refine (textT_leaf tn fr ⟨x.f0, turnS fr tn x.f1, x.f2, x.f3.map (renT fr tn)⟩ h1).trans ?_
        show turnS tn fr (turnS fr tn x.f1) = x.f1
        obtain ⟨i, hi, e⟩ := hx x.f1 (by rw [leaves_eq]; simp [headL, h1])
        rw [← e, turnS_of fr tn hf hl i hi, turnS_of tn fr ht hl.symm i (hl ▸ hi)]
      · rw [textT_else fr tn x h1]
        exact textT_else tn fr ⟨x.f0, x.f1, x.f2, x.f3.map (renT fr tn)⟩ h1
    have e2 : (x.f3.map (renT fr tn)).map (renT tn fr) = x.f3 := by
      rw [List.map_map]
      conv => rhs; rw [← List.map_id x.f3]
      refine List.map_congr_left fun y hy => ?_
      have hs : szT y ≤ (x.f3.map szT).sum := sum_mem (List.mem_map.2 ⟨y, hy, rfl⟩)
      exact ih y (by omega) (fun t q => hx t (by rw [leaves_eq]; exact List.mem_append_right _ (List.mem_flatten.2 ⟨_, List.mem_map.2 ⟨y, hy, rfl⟩, q⟩)))
    rw [renT_eq fr tn x, renT_eq tn fr, e1]
    simp only
    rw [e2]
    cases x; rfl
theorem prinB_rise (x : S24) : ((prinB x).map (·.data.toList)).Pairwise (· < ·) := by
  have : (prinB x).map (·.data.toList) = sortB (leaves x) := by
    unfold prinB; rw [List.map_map]; conv => rhs; rw [← List.map_id (sortB (leaves x))]
    exact List.map_congr_left fun y _ => by simp
  rw [this]; exact sortB_rise _
theorem prinB_mem (x : S24) (t : ByteArray) : t ∈ prinB x ↔ t ∈ leaves x := by
  unfold prinB
  rw [List.mem_map]
  constructor
  · rintro ⟨y, hy, rfl⟩
    rw [sortB_mem, List.mem_map] at hy
    obtain ⟨s, hs, rfl⟩ := hy
    rw [bs_eta]; exact hs
  · intro h
    exact ⟨t.data.toList, (sortB_mem _ _).2 (List.mem_map.2 ⟨t, h, rfl⟩), bs_eta t⟩
theorem prinB_at (x : S24) (t : ByteArray) (h : t ∈ leaves x) : ∃ (i : Nat) (hi : i < (prinB x).length), (prinB x)[i] = t := List.getElem_of_mem ((prinB_mem x t).2 h)
/-- The renamed tree's principals are the new names. -/
theorem prinB_ren (x : S24) (tn : List ByteArray) (ht : (tn.map (·.data.toList)).Pairwise (· < ·)) (hl : (prinB x).length = tn.length) : prinB (renT (prinB x) tn x) = tn := by
  have h1 : sortB (leaves (renT (prinB x) tn x)) = tn.map (·.data.toList) := by
    refine rise_uniq _ _ (sortB_rise _) ht fun y => ?_
    rw [sortB_mem, leaves_ren _ _ (szT x + 1) x (Nat.lt_succ_self _), List.map_map, List.mem_map, List.mem_map]
    constructor
    · rintro ⟨t, h, rfl⟩
      obtain ⟨i, hi, e⟩ := prinB_at x t h
      refine ⟨tn[i]'(hl ▸ hi), List.getElem_mem _, ?_⟩
      simp only [Function.comp]
      rw [← e, turnS_of _ tn (prinB_rise x) hl i hi]
    · rintro ⟨s, h, rfl⟩
      obtain ⟨i, hi, rfl⟩ := List.getElem_of_mem h
      have hi' : i < (prinB x).length := by omega
      refine ⟨(prinB x)[i], (prinB_mem x _).1 (List.getElem_mem _), ?_⟩
      simp only [Function.comp]
      rw [turnS_of _ tn (prinB_rise x) hl i hi']
  show (sortB (leaves (renT (prinB x) tn x))).map (fun l => (⟨l.toArray⟩ : ByteArray)) = tn
  rw [h1, List.map_map]
  conv => rhs; rw [← List.map_id tn]
  exact List.map_congr_left fun y _ => bs_eta y
end Go.Proofs.YtjapfefiaijfcaaGreatDoor.Q
namespace Go.Proofs.YtjapfefiaijfcaaGreatDoor.Q
open Go.RowKit Go.Proofs.YtjapfefiaijfcaaGreatDoorW.PrintWords Go.Proofs.YtjapfefiaijfcaaGreatDoorW.PrintLast Go.Proofs.YtjapfefiaijfcaaGreatDoorW.PrintMore
set_option linter.unusedVariables false
theorem cat_ok (n M k : Nat) (h : n ≤ M + k) (hM : M ≤ 4611686018427387904) (hk : k ≤ 1000) : (9223372036854775807 < n + 1) = False := eq_false (by omega)
def HoldIt (p : Prop) : Prop := p
theorem HoldIt.out {p : Prop} (h : HoldIt p) : p := h
def BackYes (w : World) (e : Ending) (w' : World) : Prop := e = .returned (.bool true) ∧ Below w.heap.size w w'
set_option maxHeartbeats 8000000 in
set_option maxRecDepth 100000 in
/-- Too many constants. -/
theorem back_many (s : ByteArray) (cs : List S138) (hcl : 1000 < cs.length) (Ac : Option Addr) (c : Nat) (w : World) : Calls Tryz.prog 5 #[.string s, .slice Ac cs.length c] w (BackYes w) := by
  have d0 : decide ((1000 : Int) < (cs.length : Int)) = true := decide_eq_true (by omega)
  have d1 : (1000 < cs.length) = True := eq_true hcl
  have d2 : ((1000 : Int) < (cs.length : Int)) = True := eq_true (by omega)
  clear hcl
  go_enter Tryz.func5, Tryz.ntmps5
  go_wp2_with (fail)
  go_at_call 13
  refine (vouchlaw16_works.calls true _ rfl).mono ?_
  rintro e_ w1 ⟨rfl, hb⟩
  have HB := Aside0.mk hb
  clear hb
  go_wp2_with (fail)
  go_ret
  exact ⟨rfl, HB.out⟩
set_option maxHeartbeats 8000000 in
set_option maxRecDepth 100000 in
/-- Parse answers no tree. -/
theorem back_none (s : ByteArray) (cs : List S138) (hcl : cs.length ≤ 1000) (Ac : Option Addr) (c : Nat) (w : World) (hC : Kd.C k138 w Ac cs.length cs)
    (hP : ∀ (Ac : Option Addr) (c : Nat) (w : World), Kd.C k138 w Ac cs.length cs → Calls Tryz.prog 19 #[.string s, .slice Ac cs.length c] w (fun e w' => ∃ p er, 0 ≤ p ∧ p ≤ (s.size : Int) ∧ ParsePost ([], p, er) w e w')) : Calls Tryz.prog 5 #[.string s, .slice Ac cs.length c] w (BackYes w) := by
  have d0 : decide ((1000 : Int) < (cs.length : Int)) = false := decide_eq_false (by omega)
  have d1 : (1000 < cs.length) = False := eq_false (by omega)
  have d2 : ((1000 : Int) < (cs.length : Int)) = False := eq_false (by omega)
  have HC := Aside0.mk hC
  have HP := Aside0.mk hP
  clear hcl hC hP
  go_enter Tryz.func5, Tryz.ntmps5
  go_wp2_with (fail)
  go_at_call 19
  refine (HP.out Ac c _ HC.out).mono ?_
  rintro e_ w1 ⟨p, er, hp0, hp1, v, rfl, hr, hb⟩
  obtain ⟨A, cp, rfl, hcp, hC1⟩ := Kd.R_reads hr
  have HB := Aside0.mk hb
  have q0 : (0 ≤ p) = True := eq_true hp0
  have q1 : (p ≤ (s.size : Int)) = True := eq_true hp1
  have q2 : decide (0 ≤ p) = true := decide_eq_true hp0
  have q3 : decide (p ≤ (s.size : Int)) = true := decide_eq_true hp1
  clear hb hr hcp hC1 hp0 hp1
  rw [List.length_nil]
  go_wp2_with (fail)
  all_goals (go_at_call 13; refine (vouchlaw16_works.calls true _ rfl).mono ?_; rintro e_ w2 ⟨rfl, hb⟩; have HB2 := Aside0.mk hb; clear hb; go_wp2_with (fail); go_ret; exact ⟨rfl, HB.out.trans (HB2.out.mono HB.out.size)⟩)
/-- What stays while the law runs on: the tree that was read. -/
structure Tree5 (x : S24) (w : World) (ad : Addr) (A3 : Option Addr) (c3 : Nat) (V : World) : Prop where
  b : Below w.heap.size w V
  t0 : V.cell? ad = some (.int .u8 x.f0)
  t1 : V.cell? ⟨ad.block, ad.off + 1, none⟩ = some (.string x.f1)
  t2 : V.cell? ⟨ad.block, ad.off + 2, none⟩ = some (.int .i64 x.f2)
  t3 : V.cell? ⟨ad.block, ad.off + 3, none⟩ = some (.slice A3 x.f3.length c3)
  a : Kd.C k24 V A3 x.f3.length x.f3
theorem Tree5.below {x : S24} {w : World} {ad : Addr} {A3 : Option Addr} {c3 : Nat} {V W : World} (h : Tree5 x w ad A3 c3 V) (hb : Below V.heap.size V W) : Tree5 x w ad A3 c3 W :=
  ⟨below_step h.b hb, pw_cell_below hb h.t0, pw_cell_below hb h.t1, pw_cell_below hb h.t2, pw_cell_below hb h.t3, Kd.C_below h.a hb⟩
set_option maxHeartbeats 8000000 in
set_option maxRecDepth 100000 in
/-- A tree of more than 500 parts. -/
theorem back_big (s : ByteArray) (cs : List S138) (hcl : cs.length ≤ 1000) (Ac : Option Addr) (c : Nat) (w : World) (hC : Kd.C k138 w Ac cs.length cs) (x : S24) (hok : okT x = true) (hs : szT x ≤ 8192) (hbig : 500 < szT x)
    (hP : ∀ (Ac : Option Addr) (c : Nat) (w : World), Kd.C k138 w Ac cs.length cs → Calls Tryz.prog 19 #[.string s, .slice Ac cs.length c] w (ParsePost ([x], 0, 0) w)) : Calls Tryz.prog 5 #[.string s, .slice Ac cs.length c] w (BackYes w) := by
  have d0 : decide ((1000 : Int) < (cs.length : Int)) = false := decide_eq_false (by omega)
  have d1 : (1000 < cs.length) = False := eq_false (by omega)
  have d2 : ((1000 : Int) < (cs.length : Int)) = False := eq_false (by omega)
  have HC := Aside0.mk hC
  have HP := Aside0.mk hP
  have HS := Aside0.mk hs
  have HPr := Aside0.mk (show prinR x = (prinB x, 0) by unfold prinR; rw [if_pos hok])
  have HEt := Aside0.mk (show errT x = 0 by unfold errT; rw [if_pos hok])
  obtain ⟨K, hK⟩ := size_some (szT x + 1) x (Nat.lt_succ_self _)
  have hK1 := hK 500 (by omega) K (Nat.le_refl _)
  rw [show min (szT x) (500 + 1) = 501 by omega] at hK1
  have HK := Aside0.mk hK1
  clear hcl hC hP hok hs hbig hK hK1
  go_enter Tryz.func5, Tryz.ntmps5
  go_wp2_with (fail)
  go_at_call 19
  refine (HP.out Ac c _ HC.out).mono ?_
  rintro e_ w1 ⟨v, rfl, hr, hb⟩
  obtain ⟨A, cp, rfl, hcp, hC1⟩ := Kd.R_reads hr
  obtain ⟨ad, A3, c3, rfl, k0, k1, k2, k3, k4, k5⟩ := at_T24 hC1 0 (by decide) (by simp)
  have HT := Aside0.mk (⟨hb, k0, k1, k2, k3, k5⟩ : Tree5 x w ad A3 c3 w1)
  have Hc3 := Aside0.mk k4
  clear hb hr hcp hC1 k0 k1 k2 k3 k4 k5
  have q0 := HT.out.t0
  have q1 := HT.out.t1
  have q2 := HT.out.t2
  have q3 := HT.out.t3
  rw [show ([x] : List S24).length = 1 from rfl]
  go_wp2_with (fail)
  go_at_call 15
  refine (lics_Principals.calls x A3 c3 _ (Nat.le_trans HS.out (by decide)) Hc3.out HT.out.a).mono ?_
  rintro e_ w2 ⟨v2, rfl, hr2, hb2⟩
  rw [HPr.out] at hr2 ⊢
  obtain ⟨A2, c2, rfl⟩ := Kd.R_slice hr2
  have HT2 := Aside0.mk (HT.out.below hb2)
  clear q0 q1 q2 q3 hr2 hb2
  have q0 := HT2.out.t0
  have q1 := HT2.out.t1
  have q2 := HT2.out.t2
  have q3 := HT2.out.t3
  go_wp2_with (fail)
  go_at_call 17
  refine (lics_Check.calls 10000 x A3 c3 _ (Nat.lt_of_le_of_lt HS.out (by decide)) (Nat.le_refl _) Hc3.out HT2.out.a).mono ?_
  rintro e_ w3 ⟨rfl, hb3⟩
  rw [HEt.out]
  have HT3 := Aside0.mk (HT2.out.below hb3)
  clear q0 q1 q2 q3 hb3
  have q0 := HT3.out.t0
  have q1 := HT3.out.t1
  have q2 := HT3.out.t2
  have q3 := HT3.out.t3
  go_wp2_with (fail)
  go_at_call 20
  refine (vouchref16_Size.calls K x.f0 x.f1 x.f2 A3 c3 x.f3 500 501 _ HT3.out.a Hc3.out HK.out).mono ?_
  rintro e_ w4 ⟨rfl, hb4⟩
  have HT4 := Aside0.mk (HT3.out.below hb4)
  clear q0 q1 q2 q3 hb4
  go_wp2_with (fail)
  go_at_call 13
  refine (vouchlaw16_works.calls true _ rfl).mono ?_
  rintro e_ w5 ⟨rfl, hb5⟩
  have HT5 := Aside0.mk (HT4.out.below hb5)
  clear hb5
  go_wp2_with (fail)
  go_ret
  exact ⟨rfl, HT5.out.b⟩
theorem texts_same5 (l : List ByteArray) (hl : l.length ≤ 1000000) : vouchkit_SameTexts.f (l.length + 1) l l = some true := by
  unfold vouchkit_SameTexts.f
  rw [if_pos rfl]
  have h : ∀ d j, j + d = l.length → vouchkit_SameTexts.l0 (d + 1) l l (j : Int) = some true := by
    intro d
    induction d with
    | zero => intro j hj; unfold vouchkit_SameTexts.l0; rw [if_neg (by omega)]
    | succ d ih =>
      intro j hj
      unfold vouchkit_SameTexts.l0
      rw [if_pos (by omega), if_pos (by omega), if_pos (by omega), if_pos rfl, IntWalk.wrap64_in _ (by omega)]
      exact ih (j + 1) (by omega)
  exact h l.length 0 (by omega)
theorem prinR_len5 (x : S24) : (prinB x).length ≤ szT x := by
  rw [prinB_length]
  exact Nat.le_trans (sortB_length _) (leaves_len (szT x + 1) x (Nat.lt_succ_self _))
set_option maxHeartbeats 8000000 in
set_option maxRecDepth 100000 in
/-- A tree of at most 500 parts: renamed, and back. -/
theorem back_main (s : ByteArray) (cs : List S138) (hcl : cs.length ≤ 1000) (Ac : Option Addr) (c : Nat) (w : World) (hC : Kd.C k138 w Ac cs.length cs) (x : S24) (hok : okT x = true) (hs : szT x ≤ 8192) (hsm : szT x ≤ 500) (M : Nat) (hM : M ≤ 4611686018427387904) (hl : ∀ t ∈ leaves x, t.size ≤ M)
    (hP : ∀ (Ac : Option Addr) (c : Nat) (w : World), Kd.C k138 w Ac cs.length cs → Calls Tryz.prog 19 #[.string s, .slice Ac cs.length c] w (ParsePost ([x], 0, 0) w)) : Calls Tryz.prog 5 #[.string s, .slice Ac cs.length c] w (BackYes w) := by
  have d0 : decide ((1000 : Int) < (cs.length : Int)) = false := decide_eq_false (by omega)
  have d1 : (1000 < cs.length) = False := eq_false (by omega)
  have d2 : ((1000 : Int) < (cs.length : Int)) = False := eq_false (by omega)
  have HC := Aside0.mk hC
  have HP := Aside0.mk hP
  have HS := Aside0.mk hs
  have HPr := Aside0.mk (show prinR x = (prinB x, 0) by unfold prinR; rw [if_pos hok])
  have HEt := Aside0.mk (show errT x = 0 by unfold errT; rw [if_pos hok])
  obtain ⟨K, hK⟩ := size_some (szT x + 1) x (Nat.lt_succ_self _)
  have hK1 := hK 500 (by omega) K (Nat.le_refl _)
  rw [show min (szT x) (500 + 1) = szT x by omega] at hK1
  have HK := Aside0.mk hK1
  obtain ⟨ps, hps⟩ : ∃ ps, ps = prinB x := ⟨_, rfl⟩
  have hpl : ps.length ≤ 500 := by rw [hps]; have := prinR_len5 x; omega
  have hpm : ∀ t ∈ ps, t.size ≤ M := by rw [hps]; exact fun t ht => hl t ((prinB_mem x t).1 ht)
  rw [← hps] at HPr
  have HPs := Aside0.mk hps
  have HPl := Aside0.mk hpl
  have HPm := Aside0.mk hpm
  have HM := Aside0.mk hM
  have HOk := Aside0.mk hok
  have hsz1 : decide ((500 : Int) < (szT x : Int)) = false := decide_eq_false (by omega)
  have hsz2 : (500 < szT x) = False := eq_false (by omega)
  have hsz3 : ((500 : Int) < (szT x : Int)) = False := eq_false (by omega)
  have HSm := Aside0.mk hsm
  clear hcl hC hP hok hs hsm hK hK1 hM hl hps hpl hpm
  go_enter Tryz.func5, Tryz.ntmps5
  go_wp2_with (fail)
  go_at_call 19
  refine (HP.out Ac c _ HC.out).mono ?_
  rintro e_ w1 ⟨v, rfl, hr, hb⟩
  obtain ⟨A, cp, rfl, hcp, hC1⟩ := Kd.R_reads hr
  obtain ⟨ad, A3, c3, rfl, k0, k1, k2, k3, k4, k5⟩ := at_T24 hC1 0 (by decide) (by simp)
  have HT := Aside0.mk (⟨hb, k0, k1, k2, k3, k5⟩ : Tree5 x w ad A3 c3 w1)
  have Hc3 := Aside0.mk k4
  clear hb hr hcp hC1 k0 k1 k2 k3 k4 k5
  have q0 := HT.out.t0
  have q1 := HT.out.t1
  have q2 := HT.out.t2
  have q3 := HT.out.t3
  rw [show ([x] : List S24).length = 1 from rfl]
  go_wp2_with (fail)
  go_at_call 15
  refine (lics_Principals.calls x A3 c3 _ (Nat.le_trans HS.out (by decide)) Hc3.out HT.out.a).mono ?_
  rintro e_ w2 ⟨v2, rfl, hr2, hb2⟩
  rw [HPr.out] at hr2 ⊢
  obtain ⟨A2, c2, rfl⟩ := Kd.R_slice hr2
  have HT2 := Aside0.mk (HT.out.below hb2)
  have HR2 := Aside0.mk hr2
  clear q0 q1 q2 q3 hr2 hb2
  have q0 := HT2.out.t0
  have q1 := HT2.out.t1
  have q2 := HT2.out.t2
  have q3 := HT2.out.t3
  go_wp2_with (fail)
  go_at_call 17
  refine (lics_Check.calls 10000 x A3 c3 _ (Nat.lt_of_le_of_lt HS.out (by decide)) (Nat.le_refl _) Hc3.out HT2.out.a).mono ?_
  rintro e_ w3 ⟨rfl, hb3⟩
  rw [HEt.out]
  have HT3 := Aside0.mk (HT2.out.below hb3)
  have hb3' := hb3
  clear q0 q1 q2 q3 hb3
  have q0 := HT3.out.t0
  have q1 := HT3.out.t1
  have q2 := HT3.out.t2
  have q3 := HT3.out.t3
  go_wp2_with (fail)
  go_at_call 20
  refine (vouchref16_Size.calls K x.f0 x.f1 x.f2 A3 c3 x.f3 500 (szT x) _ HT3.out.a Hc3.out HK.out).mono ?_
  rintro e_ w4 ⟨rfl, hb4⟩
  have HT4 := Aside0.mk (HT3.out.below hb4)
  have HB4 := Aside0.mk (below_step hb3' hb4)
  clear q0 q1 q2 q3 hb4 hb3'
  go_wp2_with (fail)
  go_loopw [10, 11] (fun lg i wr => ∃ (k : Nat), i = .int .i64 k ∧ k ≤ ps.length ∧ lg = .string (longS (ps.take k) ⟨#[]⟩) ∧ wr = w4) (fun lg i wr => ps.length - (intOf i).toNat)
  case atStart => exact ⟨0, rfl, Nat.zero_le _, rfl, rfl⟩
  case round =>
    obtain ⟨k, rfl, hk, rfl, hw⟩ := hrel
    obtain rfl : w4 = wr := hw.symm
    clear hw
    by_cases hlt : k < ps.length
    · have e1 : decide ((k : Int) < (ps.length : Int)) = true := decide_eq_true (by omega)
      have e2 : (k < ps.length) = True := eq_true hlt
      have e3 : ((k : Int) < (ps.length : Int)) = True := eq_true (by omega)
      have e4 : (0 ≤ (k : Int)) = True := eq_true (by omega)
      have e5 : IntKind.i64.wrap ((k : Int) + 1) = (k : Int) + 1 := IntWalk.i64_in _ (by have := HPl.out; omega)
      obtain ⟨adp, hadp, hcell⟩ := Kd.at_string (Kd.C_below (Kd.R_reads' HR2.out).2.2 HB4.out) (k : Int) (by omega) (by omega)
      subst hadp
      rw [rdOf_nat hlt, Int.toNat_natCast] at hcell
      have hst := longS_take ps ⟨#[]⟩ k hlt
      have hpk := HPm.out _ (List.getElem_mem hlt)
      have HLt := Aside0.mk hlt
      generalize hpe : ps[k] = pk at hcell hst hpk
      generalize hlo : longS (ps.take k) ⟨#[]⟩ = lo at hst
      by_cases hge : lo.size ≤ pk.size
      · have f1 : decide ((lo.size : Int) ≤ (pk.size : Int)) = true := decide_eq_true (by omega)
        have f2 : (lo.size ≤ pk.size) = True := eq_true hge
        have f3 : ((lo.size : Int) ≤ (pk.size : Int)) = True := eq_true (by omega)
        rw [if_pos hge] at hst
        have b3 := cat_ok pk.size M 0 hpk HM.out (by decide)
        have HSt := Aside0.mk hst
        clear hlt hge hst hpe hlo hpk hk
        go_wp2_with (fail)
        refine ⟨⟨k + 1, by go_num, HLt.out, by rw [HSt.out], trivial⟩, ?_⟩
        have := HLt.out
        simp [intOf]; omega
      · have f1 : decide ((lo.size : Int) ≤ (pk.size : Int)) = false := decide_eq_false (by omega)
        have f2 : (lo.size ≤ pk.size) = False := eq_false hge
        have f3 : ((lo.size : Int) ≤ (pk.size : Int)) = False := eq_false (by omega)
        rw [if_neg hge] at hst
        have HSt := Aside0.mk hst
        clear hlt hge hst hpe hlo hpk hk
        go_wp2_with (fail)
        refine ⟨⟨k + 1, by go_num, HLt.out, by rw [HSt.out], trivial⟩, ?_⟩
        have := HLt.out
        simp [intOf]; omega
    · have e1 : decide ((k : Int) < (ps.length : Int)) = false := decide_eq_false (by omega)
      have e2 : (k < ps.length) = False := eq_false hlt
      have e3 : ((k : Int) < (ps.length : Int)) = False := eq_false (by omega)
      have hlg : (longS (ps.take k) ⟨#[]⟩).size ≤ M + 1 := longS_le _ M _ (Nat.zero_le _) (fun a ha => HPm.out a (List.mem_of_mem_take ha))
      generalize longS (ps.take k) ⟨#[]⟩ = lg at hlg
      have HLg := Aside0.mk hlg
      clear hlg hlt hk
      go_wp2_with (fail)
      go_loopw [10, 12, 13] (fun l2 vt i wr2 => ∃ (k : Nat), i = .int .i64 k ∧ k ≤ ps.length ∧ l2 = .string (bY lg k) ∧ Kd.R Kd.string 9 wr2 w4.heap.size (fun _ => True) vt (toS lg k) ∧ Below w4.heap.size w4 wr2) (fun l2 vt i wr2 => ps.length - (intOf i).toNat)
      case atStart => exact ⟨0, rfl, Nat.zero_le _, rfl, Kd.R_nil _ _ _ _ _, Below.refl _ _⟩
      case round =>
        clear e1 e2 e3
        obtain ⟨k, rfl, hk, rfl, hR, hb⟩ := hrel
        obtain ⟨At, ct, rfl⟩ := Kd.R_slice hR
        have hsz := bY_size lg k
        by_cases hlt : k < ps.length
        · have e1 : decide ((k : Int) < (ps.length : Int)) = true := decide_eq_true (by omega)
          have e2 : (k < ps.length) = True := eq_true hlt
          have e3 : ((k : Int) < (ps.length : Int)) = True := eq_true (by omega)
          have e5 : IntKind.i64.wrap ((k : Int) + 1) = (k : Int) + 1 := IntWalk.i64_in _ (by have := HPl.out; omega)
          have b3 := cat_ok (bY lg k).size M (k + 1) (by rw [hsz]; have := HLg.out; omega) HM.out (by have := HPl.out; omega)
          have hst := toS_succ lg k
          have hb1 : bY lg (k + 1) = bY lg k ++ ⟨#[121]⟩ := rfl
          rw [hb1] at hst
          generalize bY lg k = bk at b3 hst hb1 hsz
          have HSt := Aside0.mk hst
          have HSz := Aside0.mk hsz
          have HB1 := Aside0.mk hb1
          have HR := Aside0.mk hR
          have HB := Aside0.mk hb
          have HLt := Aside0.mk hlt
          clear hsz hst hb1 hR hb hlt hk
          go_wp2_with ((with_reducible refine gate_builtin (b := .append) (xs := #[.tmp 119, .tmp 121]) rfl ?_); refine HoldIt.out ?_)
          unfold HoldIt
          at_builtin
          refine Kd.R_append Kd.string (w0 := w4) (W := wr) w4.heap.size ?g (.tmp 119) (.tmp 121) 34 9 (.string ⟨#[]⟩) 16 ?ho Tryz.underlying34 info9 ?hz ?h0 ?hb (.slice At (toS lg k).length ct) (toS lg k) (bk ++ ⟨#[121]⟩) [.string (bk ++ ⟨#[121]⟩)] (fun _ => True) (fun _ => False) ?hs ?hx ?aP ?aK ?aF ?aO ?aB ?aS ?aL ?_
          case g => rfl
          case ho => rfl
          case hz => rfl
          case h0 => decide
          case hb => decide
          case hs => rfl
          case hx => simp [Act.eval]
          case aP => exact rfl
          case aK => exact fun _ hk => hk.elim
          case aF => intro k hk; trivial
          case aO => exact HR.out
          case aB => exact HB.out
          case aS => exact HB.out.size
          case aL => have := HLt.out; have := HPl.out; rw [toS_length]; omega
          intro v1 w1 ho hb1 hgr hat
          rw [← HSt.out] at ho
          obtain ⟨A1, cap1, rfl⟩ := Kd.R_slice ho
          have HO := Aside0.mk ho
          have HB2 := Aside0.mk hb1
          clear ho hb1 hgr hat
          go_wp2_with (fail)
          case roundEnd =>
            refine ⟨⟨k + 1, by go_num, HLt.out, by rw [HB1.out], HO.out, HB2.out⟩, ?_⟩
            have := HLt.out
            simp [intOf]; omega
          go_at_call 13
          refine (vouchlaw16_works.calls true _ rfl).mono ?_
          rintro e_ w5 ⟨rfl, hb5⟩
          have HB5 := Aside0.mk (below_step (below_step HT4.out.b HB2.out) hb5)
          clear hb5
          go_wp2_with (fail)
          go_ret
          exact ⟨rfl, HB5.out⟩
        · obtain rfl : k = ps.length := by omega
          have e1 : decide ((ps.length : Int) < (ps.length : Int)) = false := decide_eq_false (by omega)
          have e2 : (ps.length < ps.length) = False := eq_false hlt
          have e3 : ((ps.length : Int) < (ps.length : Int)) = False := eq_false (by omega)
          have htl := toS_length lg ps.length
          have htr := toS_rise lg ps.length
          generalize toS lg ps.length = ts at hR htl htr
          have hpe := HPs.out
          have hn1 : szT (renT ps ts x) = szT x := szT_ren ps ts (szT x + 1) x (Nat.lt_succ_self _)
          have hn2 : okT (renT ps ts x) = true := (okT_ren ps ts (szT x + 1) x (Nat.lt_succ_self _)).trans HOk.out
          have hn3 : renR ps ts x = (renT ps ts x, 0) := by unfold renR; rw [if_pos HOk.out, if_pos htl.symm]
          have hn4 : renT ts ps (renT ps ts x) = x := by
            subst hpe
            exact ren_back (prinB x) ts (prinB_rise x) htr htl.symm (szT x + 1) x (Nat.lt_succ_self _) (prinB_at x)
          have hn5 : prinR (renT ps ts x) = (ts, 0) := by
            unfold prinR
            rw [if_pos hn2]
            subst hpe
            rw [prinB_ren x ts htr htl.symm]
          have hn6 : renR ts ps (renT ps ts x) = (x, 0) := by unfold renR; rw [if_pos hn2, if_pos htl, hn4]
          generalize renT ps ts x = m at hn1 hn2 hn3 hn5 hn6
          have N1 := Aside0.mk hn1
          have N3 := Aside0.mk hn3
          have N5 := Aside0.mk hn5
          have N6 := Aside0.mk hn6
          have HTl := Aside0.mk htl
          have HR := Aside0.mk hR
          have HT5 := Aside0.mk (HT4.out.below hb)
          have HCp := Aside0.mk (Kd.C_below (Kd.C_below (Kd.R_reads' HR2.out).2.2 HB4.out) hb)
          clear hn1 hn2 hn3 hn4 hn5 hn6 hpe htl htr hR hb hsz hlt hk
          have q0 := HT5.out.t0
          have q1 := HT5.out.t1
          have q2 := HT5.out.t2
          have q3 := HT5.out.t3
          go_wp2_with (fail)
          go_at_call 21
          refine (lics_Renamed.calls ps ts (Nat.le_trans HPl.out (by decide)) A2 c2 At ct x A3 c3 _ (Nat.le_trans HSm.out (by decide)) Hc3.out HT5.out.a HCp.out (Kd.R_reads' HR.out).2.2 (Kd.R_reads' HR2.out).2.1 (Kd.R_reads' HR.out).2.1).mono ?_
          rintro e_ w5 ⟨v5, rfl, hr5, hb5⟩
          rw [N3.out] at hr5 ⊢
          obtain ⟨A5, c5, rfl⟩ := Kd.R_slice hr5
          have HR5 := Aside0.mk hr5
          have HT6 := Aside0.mk (HT5.out.below hb5)
          have HB5 := Aside0.mk hb5
          clear q0 q1 q2 q3 hr5 hb5
          go_wp2_with (fail)
          go_at_call 21
          refine (lics_Renamed.calls ts ps (by rw [HTl.out]; exact Nat.le_trans HPl.out (by decide)) At ct A2 c2 m A5 c5 _ (by rw [N1.out]; exact Nat.le_trans HSm.out (by decide)) (Kd.R_reads' HR5.out).2.1 (Kd.C_alloc (Kd.R_reads' HR5.out).2.2 _) (Kd.C_alloc (Kd.C_below (Kd.R_reads' HR.out).2.2 HB5.out) _) (Kd.C_alloc (Kd.C_below HCp.out HB5.out) _) (Kd.R_reads' HR.out).2.1 (Kd.R_reads' HR2.out).2.1).mono ?_
          rintro e_ w6 ⟨v6, rfl, hr6, hb6⟩
          rw [N6.out] at hr6 ⊢
          obtain ⟨A6, c6, rfl⟩ := Kd.R_slice hr6
          have bm := blk_below (blk_new w5 _) hb6
          have fm0 := fun o => blk_cell (blk_alloc bm o) 0
          have fm1 := fun o => blk_cell (blk_alloc bm o) 1
          have fm2 := fun o => blk_cell (blk_alloc bm o) 2
          have fm3 := fun o => blk_cell (blk_alloc bm o) 3
          have HR6 := Aside0.mk hr6
          have HB6 := Aside0.mk (((Below.refl w5.heap.size w5).alloc (Nat.le_refl _) (.cells #[.int .u8 m.f0, .string m.f1, .int .i64 m.f2, .slice A5 m.f3.length c5] 24)).trans (hb6.mono (by simp)))
          clear hr6 hb6 bm
          go_wp2_with (fail)
          go_at_call 15
          refine (lics_Principals.calls m A5 c5 _ (by rw [N1.out]; exact Nat.le_trans HSm.out (by decide)) (Kd.R_reads' HR5.out).2.1 (Kd.C_alloc (Kd.C_below (Kd.R_reads' HR5.out).2.2 HB6.out) _)).mono ?_
          rintro e_ w7 ⟨v7, rfl, hr7, hb7⟩
          rw [N5.out] at hr7 ⊢
          obtain ⟨A7, c7, rfl⟩ := Kd.R_slice hr7
          have HB7 := Aside0.mk (((Below.refl w6.heap.size w6).alloc (Nat.le_refl _) (.cells #[.int .u8 x.f0, .string x.f1, .int .i64 x.f2, .slice A6 x.f3.length c6] 24)).trans (hb7.mono (by simp)))
          have bn := blk_below (blk_new w6 _) hb7
          have HT7 := Aside0.mk ((HT6.out.below HB6.out).below HB7.out)
          have HR7 := Aside0.mk hr7
          have HC6 := Aside0.mk (Kd.C_below (Kd.R_reads' HR6.out).2.2 HB7.out)
          have HCt := Aside0.mk (Kd.C_below (Kd.C_below (Kd.C_below (Kd.R_reads' HR.out).2.2 HB5.out) HB6.out) HB7.out)
          have HC7 := Aside0.mk (Kd.R_reads' hr7).2
          have HCl6 := Aside0.mk (Kd.R_reads' HR6.out).2.1
          have HCl := Aside0.mk (Kd.R_reads' HR.out).2.1
          clear fm0 fm1 fm2 fm3 hr7 hb7
          have fn0 : w7.cell? ⟨w6.heap.size, 0, none⟩ = some (.int .u8 x.f0) := (blk_cell bn 0).trans rfl
          have fn1 : w7.cell? ⟨w6.heap.size, 1, none⟩ = some (.string x.f1) := (blk_cell bn 1).trans rfl
          have fn2 : w7.cell? ⟨w6.heap.size, 2, none⟩ = some (.int .i64 x.f2) := (blk_cell bn 2).trans rfl
          have fn3 : w7.cell? ⟨w6.heap.size, 3, none⟩ = some (.slice A6 x.f3.length c6) := (blk_cell bn 3).trans rfl
          have q0 := HT7.out.t0
          have q1 := HT7.out.t1
          have q2 := HT7.out.t2
          have q3 := HT7.out.t3
          obtain ⟨K2, hK2⟩ := same_some 3000 x (Nat.lt_of_le_of_lt HSm.out (by decide)) (Nat.le_refl _)
          have hcS : ∀ W, Below w7.heap.size w7 W → Calls Tryz.prog 22 #[.agg #[.int .u8 x.f0, .string x.f1, .int .i64 x.f2, .slice A6 x.f3.length c6], .agg #[.int .u8 x.f0, .string x.f1, .int .i64 x.f2, .slice A3 x.f3.length c3]] W fun e w' => e = .returned (.bool true) ∧ Below W.heap.size W w' := fun W hW => vouchref16_Same.calls K2 x.f0 x.f1 x.f2 A6 c6 x.f3 x.f0 x.f1 x.f2 A3 c3 x.f3 true W (Kd.C_below HC6.out hW) HCl6.out (Kd.C_below HT7.out.a hW) Hc3.out (hK2 K2 (Nat.le_refl _))
          have hcT : ∀ W, Below w7.heap.size w7 W → Calls Tryz.prog 16 #[.slice A7 ts.length c7, .slice At ts.length ct] W fun e w' => e = .returned (.bool true) ∧ Drawn0 W w' := fun W hW => vouchkit_SameTexts.calls (ts.length + 1) A7 c7 ts At ct ts true W (Kd.C_below HC7.out.2 hW) HC7.out.1 (Kd.C_below HCt.out hW) HCl.out (texts_same5 ts (by rw [HTl.out]; exact Nat.le_trans HPl.out (by decide)))
          have HS1 := Aside0.mk hcS
          have HS2 := Aside0.mk hcT
          have HBW := Aside0.mk (Below.refl w7.heap.size w7)
          clear bn hK2 hcS hcT
          go_wp2_with (fail)
          have HF := Aside0.mk (fun (W : World) (h : Below w7.heap.size w7 W) => (⟨h, pw_cell_below h fn0, pw_cell_below h fn1, pw_cell_below h fn2, pw_cell_below h fn3, pw_cell_below h q0, pw_cell_below h q1, pw_cell_below h q2, pw_cell_below h q3⟩ : Below w7.heap.size w7 W ∧ W.cell? ⟨w6.heap.size, 0, none⟩ = some (.int .u8 x.f0) ∧ W.cell? ⟨w6.heap.size, 1, none⟩ = some (.string x.f1) ∧ W.cell? ⟨w6.heap.size, 2, none⟩ = some (.int .i64 x.f2) ∧ W.cell? ⟨w6.heap.size, 3, none⟩ = some (.slice A6 x.f3.length c6) ∧ W.cell? ad = some (.int .u8 x.f0) ∧ W.cell? ⟨ad.block, ad.off + 1, none⟩ = some (.string x.f1) ∧ W.cell? ⟨ad.block, ad.off + 2, none⟩ = some (.int .i64 x.f2) ∧ W.cell? ⟨ad.block, ad.off + 3, none⟩ = some (.slice A3 x.f3.length c3)))
          go_region_held3 (fun W => Below w7.heap.size w7 W ∧ W.cell? ⟨w6.heap.size, 0, none⟩ = some (.int .u8 x.f0) ∧ W.cell? ⟨w6.heap.size, 1, none⟩ = some (.string x.f1) ∧ W.cell? ⟨w6.heap.size, 2, none⟩ = some (.int .i64 x.f2) ∧ W.cell? ⟨w6.heap.size, 3, none⟩ = some (.slice A6 x.f3.length c6) ∧ W.cell? ad = some (.int .u8 x.f0) ∧ W.cell? ⟨ad.block, ad.off + 1, none⟩ = some (.string x.f1) ∧ W.cell? ⟨ad.block, ad.off + 2, none⟩ = some (.int .i64 x.f2) ∧ W.cell? ⟨ad.block, ad.off + 3, none⟩ = some (.slice A3 x.f3.length c3))
            (first | exact HF.out _ (by repeat (first | exact HBW.out | apply below_drew1 | apply pw_below_drewN)))
            (first | (go_at_call 22; (refine (HS1.out _ ?sb).mono ?_); (case sb => repeat (first | exact HBW.out | apply below_drew1 | apply pw_below_drewN)); rintro e_ w8 ⟨rfl, hb8⟩; have hq : Below w7.heap.size w7 w8 := below_step (by repeat (first | exact HBW.out | apply below_drew1 | apply pw_below_drewN)) hb8; clear HBW; have HBW := Aside0.mk hq; clear hb8 hq) | (go_at_call 16; (refine (HS2.out _ ?sb).mono ?_); (case sb => repeat (first | exact HBW.out | apply below_drew1 | apply pw_below_drewN)); rintro e_ w_ ⟨rfl, hd⟩; obtain ⟨nd, rfl⟩ := hd.out; clear hd) | (go_at_call 13; (refine (vouchlaw16_works.calls true _ rfl).mono ?_); rintro e_ w9 ⟨rfl, hb9⟩; have hq : Below w7.heap.size w7 w9 := below_step (by repeat (first | exact HBW.out | apply below_drew1 | apply pw_below_drewN)) hb9; clear HBW; have HBW := Aside0.mk hq; clear hb9 hq))
          all_goals go_wp2_with (fail)
          go_ret
          exact ⟨rfl, below_step HT7.out.b HBW.out⟩
/-- The law LicsBack: every call answers true. -/
theorem back_all (s : ByteArray) (cs : List S138) (M : Nat) (hM : s.size ≤ M) (hMx : M ≤ 4611686018427387904) (hcs : ∀ c ∈ cs, c.f1.size ≤ M) (Ac : Option Addr) (c : Nat) (w : World) (hC : Kd.C k138 w Ac cs.length cs) :
    Calls Tryz.prog 5 #[.string s, .slice Ac cs.length c] w (BackYes w) := by
  by_cases hcl : cs.length ≤ 1000
  · rcases lics_Parse_all.calls s cs hcl M hM hcs with ⟨x, hok, hs, hl, hP⟩ | hP
    · by_cases h5 : szT x ≤ 500
      · exact back_main s cs hcl Ac c w hC x hok hs h5 M hMx hl hP
      · exact back_big s cs hcl Ac c w hC x hok hs (by omega) hP
    · exact back_none s cs hcl Ac c w hC hP
  · exact back_many s cs (by omega) Ac c w
end Go.Proofs.YtjapfefiaijfcaaGreatDoor.Q
