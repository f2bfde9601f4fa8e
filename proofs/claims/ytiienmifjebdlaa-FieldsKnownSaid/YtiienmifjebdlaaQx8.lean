/- Go functions as Lean functions, and that each call comes to its Lean function's answer, wherever that is some answer. Written by a program of this session out of the translation. -/
import Derived.Test.YtiienmifjebdlaaQx0
import Derived.Test.YtiienmifjebdlaaQx5
import Derived.Test.YtiienmifjebdlaaQx6
import Derived.Test.YtiienmifjebdlaaQx7
namespace Go.Proofs.Ytiienmifjebdlaa.Q
open Go.RowKit Go.Proofs.YtiienmifjebdlaaW.PrintWords Go.Proofs.YtiienmifjebdlaaW.PrintLast Go.Proofs.YtiienmifjebdlaaW.PrintMore
attribute [local go_sem] max2_int min2_int max_two min_two max_three min_three max_four min_four   -- for this text's walks alone
set_option linter.unusedVariables false
set_option linter.unusedSimpArgs false

-- HAND vouch/fields.Split | 0 | 1
-- INFO 28
def isBlank (c : Int) : Bool := c == 9 || c == 13 || c == 32
def begB (c : Int) : Bool := !(c == 10) && !isBlank c
def mayB (c : Int) : Bool := isBlank c || c == 10 || (decide (32 ≤ c) && decide (c ≤ 126))
def startsB (s : ByteArray) (i : Nat) : Bool := (i == 0 || bt s ((i - 1 : Nat) : Int) == 10) && begB (bt s i)
def colonFrom (s : ByteArray) : Nat → Nat → Option Nat
  | 0, _ => none
  | d + 1, i => if bt s i = 58 then some i else if bt s i = 10 then none else colonFrom s d (i + 1)
def badFrom (s : ByteArray) : Nat → Nat → Option Nat
  | 0, _ => none
  | d + 1, i => if mayB (bt s i) = true then badFrom s d (i + 1) else some i
def hasK (l : List S28) (k : Int) : Bool := l.any fun f => f.f0 == k
def headOf (s : ByteArray) (i : Nat) : Int × Int × Bool :=
  match colonFrom s (s.size - i) i with
  | none => (0, 0, false)
  | some c => ((kindFrom (s.extract i c) 7 0).1, (c : Int) - i + 1, (kindFrom (s.extract i c) 7 0).2)
def errOf (l : List S28) (h : Int × Int × Bool) : Int :=
  if h.2.2 = false then 131 else if hasK l h.1 = true then 132 else if (h.1 = 1 ∧ l ≠ []) ∨ hasK l 7 = true then 133 else 0
def closeL (l : List S28) (i : Int) : List S28 := l.set (l.length - 1) ⟨(rd_T28 l ((l.length - 1 : Nat) : Int)).f0, (rd_T28 l ((l.length - 1 : Nat) : Int)).f1, (rd_T28 l ((l.length - 1 : Nat) : Int)).f2, i⟩
def splitFrom (s : ByteArray) : Nat → Nat → List S28 → List S28 × Int × Int
  | 0, _, l => if hasK l 2 = true then (l, 0, 0) else ([], (s.size : Int), 134)
  | d + 1, i, l => if startsB s i = true then (if errOf l (headOf s i) = 0 then splitFrom s d (i + 1) (closeL l i ++ [⟨(headOf s i).1, i, (i : Int) + (headOf s i).2.1, s.size⟩]) else ([], (i : Int), errOf l (headOf s i))) else splitFrom s d (i + 1) l
def splitS (s : ByteArray) : List S28 × Int × Int :=
  if 65536 < s.size then ([], 0, 3) else
  match badFrom s s.size 0 with
  | some i => ([], (i : Int), 130)
  | none => if s.size = 0 ∨ begB (bt s 0) = false then ([], 0, 131) else splitFrom s s.size 0 []
def fields_Split.f (a0 : ByteArray) : Option ((List S28) × Int × Int) := some (splitS a0)

theorem bt_extract (s : ByteArray) (i e j : Nat) (he : e ≤ s.size) (hj : i + j < e) : bt (s.extract i e) j = bt s ((i + j : Nat) : Int) := by
  have hsz : (s.extract i e).size = e - i := by simp [ByteArray.size_extract]; omega
  unfold bt
  simp only [Int.toNat_natCast]
  rw [dif_pos (by rw [hsz]; omega), dif_pos (by omega)]
  rw [ByteArray.getElem_extract]
theorem extract_size' (s : ByteArray) (i e : Nat) (he : e ≤ s.size) : (s.extract i e).size = e - i := by simp [ByteArray.size_extract]; omega
theorem extract_extract' (s : ByteArray) (i e j : Nat) (hj : i + j ≤ e) : (s.extract i e).extract 0 j = s.extract i (i + j) := by
  apply ByteArray.ext
  simp only [ByteArray.data_extract]
  rw [Array.extract_extract]
  simp [Nat.min_eq_left hj]
theorem kindFrom_range (a : ByteArray) (d i : Nat) : (kindFrom a d i).2 = true → (i : Int) + 1 ≤ (kindFrom a d i).1 ∧ (kindFrom a d i).1 ≤ i + d := by
  induction d generalizing i with
  | zero => intro h; simp [kindFrom] at h
  | succ d ih =>
    intro h
    simp only [kindFrom] at h ⊢
    by_cases q : alikeB (fieldsNm i) a = true
    · rw [if_pos q]; simp; omega
    · rw [if_neg q] at h ⊢
      have := ih (i + 1) h
      omega
theorem kindFrom_none (a : ByteArray) (d i : Nat) : (kindFrom a d i).2 = false → (kindFrom a d i).1 = 0 := by
  induction d generalizing i with
  | zero => intro h; rfl
  | succ d ih =>
    intro h
    simp only [kindFrom] at h ⊢
    by_cases q : alikeB (fieldsNm i) a = true
    · rw [if_pos q] at h; cases h
    · rw [if_neg q] at h ⊢
      exact ih (i + 1) h
/-- the head of a line's text. -/
theorem head_loop (s : ByteArray) (i e : Nat) (he : e ≤ s.size) (hn : ∀ j, i ≤ j → j < e → bt s j ≠ 10) (hb : s.size ≤ 140737488355328) (d : Nat) :
    ∀ (j k : Nat), i + j + d = e → d < k →
    fields_head.l0 k (s.extract i e) ((s.extract i e).size : Int) (j : Int) = some (match colonFrom s d (i + j) with | none => (0, 0, false) | some c => ((kindFrom (s.extract i c) 7 0).1, (c : Int) - i + 1, (kindFrom (s.extract i c) 7 0).2)) := by
  have hsz := extract_size' s i e he
  induction d with
  | zero =>
    intro j k hj hk
    obtain ⟨k, rfl⟩ : ∃ m, k = m + 1 := ⟨k - 1, by omega⟩
    simp only [fields_head.l0]; rw [if_neg (by rw [hsz]; omega)]; rfl
  | succ d ih =>
    intro j k hj hk
    obtain ⟨k, rfl⟩ : ∃ m, k = m + 1 := ⟨k - 1, by omega⟩
    simp only [fields_head.l0]
    rw [if_pos (by rw [hsz]; omega), if_pos (by omega), if_pos (by rw [hsz]; omega), bt_extract s i e j he (by omega)]
    simp only [colonFrom]
    by_cases c : bt s ((i + j : Nat) : Int) = 58
    · rw [if_pos c, if_pos c, if_pos (by rw [hsz]; omega), Int.toNat_natCast, extract_extract' s i e j (by omega)]
      simp only [fields_Kind.f, Option.bind_some]
      rw [show wrap64 ((j : Int) + 1) = ((i + j : Nat) : Int) - i + 1 from by unfold wrap64; omega]
    · have hne := hn (i + j) (by omega) (by omega)
      rw [if_neg c, if_neg c, if_neg hne, if_neg hne, show wrap64 ((j : Int) + 1) = ((j + 1 : Nat) : Int) from by unfold wrap64; omega, ih (j + 1) k (by omega) (by omega)]
      rw [show i + (j + 1) = i + j + 1 from by omega]
theorem colon_cut (s : ByteArray) (e : Nat) (hend : e = s.size ∨ (e < s.size ∧ bt s e = 10)) (d : Nat) : ∀ i, i + d = e → colonFrom s (s.size - i) i = colonFrom s d i := by
  induction d with
  | zero =>
    intro i hi
    rcases hend with h | ⟨h1, h2⟩
    · rw [show s.size - i = 0 from by omega]
    · obtain rfl : i = e := by omega
      rw [show s.size - i = (s.size - i - 1) + 1 from by omega]
      simp only [colonFrom]
      rw [if_neg (by rw [h2]; omega), if_pos h2]
  | succ d ih =>
    intro i hi
    rw [show s.size - i = (s.size - (i + 1)) + 1 from by rcases hend with h | h <;> omega]
    simp only [colonFrom]
    rw [ih (i + 1) (by omega)]
theorem head_some (s : ByteArray) (i e : Nat) (hi : i ≤ e) (he : e ≤ s.size) (hn : ∀ j, i ≤ j → j < e → bt s j ≠ 10) (hb : s.size ≤ 140737488355328) (hend : e = s.size ∨ (e < s.size ∧ bt s e = 10)) (k : Nat) (hk : e - i < k) :
    fields_head.f k (s.extract i e) = some (headOf s i) := by
  unfold fields_head.f headOf
  rw [show (0 : Int) = ((0 : Nat) : Int) from rfl, head_loop s i e he hn hb (e - i) 0 k (by omega) hk, colon_cut s e hend (e - i) i (by omega)]
  rfl
theorem head_range (s : ByteArray) (i : Nat) (h : (headOf s i).2.2 = true) : 1 ≤ (headOf s i).1 ∧ (headOf s i).1 ≤ 7 := by
  unfold headOf at h ⊢
  split at h
  · cases h
  · have := kindFrom_range _ 7 0 h
    simp only at this ⊢
    omega
theorem colon_le (s : ByteArray) (d : Nat) : ∀ i c, colonFrom s d i = some c → i ≤ c ∧ c < i + d ∧ bt s c = 58 := by
  induction d with
  | zero => intro i c h; cases h
  | succ d ih =>
    intro i c h
    simp only [colonFrom] at h
    by_cases q : bt s i = 58
    · rw [if_pos q] at h; obtain rfl := Option.some.inj h; exact ⟨Nat.le_refl _, by omega, q⟩
    · rw [if_neg q] at h
      by_cases q2 : bt s i = 10
      · rw [if_pos q2] at h; cases h
      · rw [if_neg q2] at h
        have := ih (i + 1) c h
        omega
theorem head_width (s : ByteArray) (i : Nat) (hi : i ≤ s.size) : 0 ≤ (headOf s i).2.1 ∧ (headOf s i).2.1 ≤ s.size - i := by
  unfold headOf
  split
  · simp; omega
  · rename_i c hc
    have := colon_le s _ _ _ hc
    simp only
    omega
theorem split_skip (s : ByteArray) (e : Nat) (he : e ≤ s.size) (d : Nat) : ∀ i l, i + d = e → (∀ j, i ≤ j → j < e → startsB s j = false) → splitFrom s (s.size - i) i l = splitFrom s (s.size - e) e l := by
  induction d with
  | zero => intro i l hi _; rw [show i = e from by omega]
  | succ d ih =>
    intro i l hi h
    rw [show s.size - i = (s.size - (i + 1)) + 1 from by omega]
    simp only [splitFrom]
    rw [if_neg (by rw [h i (by omega) (by omega)]; simp), ih (i + 1) l (by omega) (fun j h1 h2 => h j (by omega) h2)]
theorem hasK_closeL (l : List S28) (i k : Int) : hasK (closeL l i) k = hasK l k := by
  unfold hasK closeL
  cases h : l.length with
  | zero => rw [List.eq_nil_of_length_eq_zero h]; rfl
  | succ n =>
    have hlt : n < l.length := by omega
    have e : l.set n ⟨(rd_T28 l (n : Int)).f0, (rd_T28 l (n : Int)).f1, (rd_T28 l (n : Int)).f2, i⟩ = l.take n ++ ⟨(rd_T28 l (n : Int)).f0, (rd_T28 l (n : Int)).f1, (rd_T28 l (n : Int)).f2, i⟩ :: l.drop (n + 1) := List.set_eq_take_append_cons_drop.trans (by rw [if_pos hlt])
    have e2 : l = l.take n ++ l[n] :: l.drop (n + 1) := by rw [← List.drop_eq_getElem_cons hlt, List.take_append_drop]
    have e3 : rd_T28 l (n : Int) = l[n] := by simp [rd_T28, List.getD_eq_getElem?_getD, List.getElem?_eq_getElem hlt]
    simp only [Nat.add_sub_cancel]
    rw [e, e3, List.any_append, List.any_cons]
    conv => rhs; rw [e2, List.any_append, List.any_cons]
theorem closeL_length (l : List S28) (i : Int) : (closeL l i).length = l.length := by unfold closeL; rw [List.length_set]

def seenArr (l : List S28) : Array Value := #[.bool (hasK l 0), .bool (hasK l 1), .bool (hasK l 2), .bool (hasK l 3), .bool (hasK l 4), .bool (hasK l 5), .bool (hasK l 6), .bool (hasK l 7)]
theorem seenArr_at (l : List S28) (k : Nat) (hk : k ≤ 7) : (seenArr l)[k]? = some (.bool (hasK l k)) := by
  match k, hk with
  | 0, _ => rfl
  | 1, _ => rfl
  | 2, _ => rfl
  | 3, _ => rfl
  | 4, _ => rfl
  | 5, _ => rfl
  | 6, _ => rfl
  | 7, _ => rfl
theorem seen_cell {w : World} {g : Nat} {l : List S28} (h : w.heap[g]? = some (.cells (seenArr l) 47 (0, 0))) (k : Int) (h0 : 0 ≤ k) (h7 : k ≤ 7) : w.cell? ⟨g, k.toNat, none⟩ = some (.bool (hasK l k)) := by
  obtain ⟨k, rfl⟩ := Int.eq_ofNat_of_zero_le h0
  rw [Int.toNat_natCast, blk_cell h, seenArr_at l k (by omega)]
theorem seen_set {w : World} {g : Nat} {l l' : List S28} (h : w.heap[g]? = some (.cells (seenArr l) 47 (0, 0))) (k : Int) (h0 : 0 ≤ k) (h7 : k ≤ 7) (hl : ∀ j, hasK l' j = (hasK l j || decide (j = k))) :
    (w.setCell ⟨g, k.toNat, none⟩ (.bool true)).heap[g]? = some (.cells (seenArr l') 47 (0, 0)) := by
  obtain ⟨k, rfl⟩ := Int.eq_ofNat_of_zero_le h0
  rw [Int.toNat_natCast, blk_set h]
  have e : (seenArr l).setIfInBounds k (.bool true) = seenArr l' := by
    unfold seenArr
    simp only [hl]
    match k, (show k ≤ 7 by omega) with
    | 0, _ => simp
    | 1, _ => simp
    | 2, _ => simp
    | 3, _ => simp
    | 4, _ => simp
    | 5, _ => simp
    | 6, _ => simp
    | 7, _ => simp
  rw [e]
theorem out_end {W : World} {base g cap : Nat} {ok : Nat → Prop} {l : List S28} (h : Kd.R k28 28 W base ok (.slice (some ⟨g, 0, none⟩) l.length cap) l) (hp : 0 < l.length) (x : Int) :
    Kd.R k28 28 (W.setCell ⟨g, (l.length - 1) * 4 + 3, none⟩ (.int .i64 x)) base ok (.slice (some ⟨g, 0, none⟩) l.length cap) (closeL l x) ∧ W.grownBy (W.setCell ⟨g, (l.length - 1) * 4 + 3, none⟩ (.int .i64 x)) (some g) ∧
    W.cell? ⟨g, (l.length - 1) * 4 + 3, none⟩ = some (.int .i64 (rd_T28 l ((l.length - 1 : Nat) : Int)).f3) ∧ W.frozen? ⟨g, (l.length - 1) * 4 + 3, none⟩ = false := by
  obtain ⟨ce, hcl, hM, hcc, hfr⟩ := Kd.R_elem h z28 ((l.length - 1 : Nat) : Int) (by omega) (by omega)
  obtain rfl := k28_openM hM
  have HP := Kd.R_seg h ((l.length - 1 : Nat) : Int) (by omega) (by omega) (seg := [.int .i64 x]) (j := 3) hcl hcc (show 4 ≤ 4 from by decide) (x' := (⟨(rd_T28 l ((l.length - 1 : Nat) : Int)).f0, (rd_T28 l ((l.length - 1 : Nat) : Int)).f1, (rd_T28 l ((l.length - 1 : Nat) : Int)).f2, x⟩ : S28)) (k28_mkM _ _ _ (⟨(rd_T28 l ((l.length - 1 : Nat) : Int)).f0, (rd_T28 l ((l.length - 1 : Nat) : Int)).f1, (rd_T28 l ((l.length - 1 : Nat) : Int)).f2, x⟩ : S28) ) (fun _ hk => hk)
  have e3 := hcc 3 _ rfl
  have f3 := hfr 3
  simp only [Int.toNat_natCast] at HP e3 f3
  exact ⟨HP.1, HP.2, e3, f3⟩
theorem blank_some (c : Int) : fields_blank.f c = some (isBlank c) := by
  unfold fields_blank.f isBlank
  by_cases h : c = 9
  · rw [if_pos h, h]; rfl
  · rw [if_neg h]
    by_cases h2 : c = 13
    · rw [if_pos h2, h2]; rfl
    · rw [if_neg h2]; simp [h, h2]
theorem begins_some (c : Int) : fields_begins.f c = some (begB c) := by
  unfold fields_begins.f begB
  by_cases h : c = 10
  · rw [if_pos h, h]; rfl
  · rw [if_neg h, blank_some]; simp [h]

theorem bt_atN (s : ByteArray) (k : Nat) : ∀ h : k < s.size, ((s[k]'h).toNat : Int) = bt s (k : Int) := fun h => by simp [bt, h]
theorem line_next (s : ByteArray) (k e : Nat) (hk : k ≤ e) (he : e ≤ s.size) (hlt : k < s.size) (hno : ∀ j : Nat, k ≤ j → j < e → bt s j ≠ 10) (l : List S28) :
    splitFrom s (s.size - (k + 1)) (k + 1) l = splitFrom s (s.size - min (e + 1) s.size) (min (e + 1) s.size) l := by
  refine split_skip s (min (e + 1) s.size) (by omega) (min (e + 1) s.size - (k + 1)) (k + 1) l (by omega) (fun j h1 h2 => ?_)
  have h3 := hno (j - 1) (by omega) (by omega)
  unfold startsB
  rw [show (j == 0) = false from by simp; omega, show (bt s ((j - 1 : Nat) : Int) == 10) = false from beq_eq_false_iff_ne.mpr h3]
  rfl
theorem bad_range (s : ByteArray) (d : Nat) : ∀ i c, badFrom s d i = some c → i ≤ c ∧ c < i + d := by
  induction d with
  | zero => intro i c h; cases h
  | succ d ih =>
    intro i c h
    simp only [badFrom] at h
    by_cases q : mayB (bt s i) = true
    · rw [if_pos q] at h; have := ih _ _ h; omega
    · rw [if_neg q] at h; obtain rfl := Option.some.inj h; omega

set_option maxHeartbeats 8000000 in
set_option maxRecDepth 100000 in
theorem fields_Split.calls (a0 : ByteArray) (r1 : List S28) (r2 : Int) (r3 : Int) (w : World) (h : fields_Split.f a0 = some (r1, r2, r3)) :
    Calls Try.prog 12 #[.string a0] w fun e w' => ∃ v0_ : Value, e = .returned (.tuple #[v0_, .int .i64 r2, .int .i64 r3]) ∧ Kd.R k28 28 w' w.heap.size (fun k_ => True) v0_ r1 ∧ Below w.heap.size w w' := by
  have H := Option.some.inj h
  clear h
  by_cases hbig : 65536 < a0.size
  · have hd : decide ((65536 : Int) < (a0.size : Int)) = true := decide_eq_true (by omega)
    have hd2 : decide (65536 < a0.size) = true := decide_eq_true hbig
    unfold splitS at H
    rw [if_pos hbig] at H
    obtain ⟨rfl, rfl, rfl⟩ : [] = r1 ∧ 0 = r2 ∧ 3 = r3 := by simpa [Prod.mk.injEq] using H
    clear H
    go_enter Try.func12, Try.ntmps12
    go_wp2
    go_step3
    go_wp2
    rw [Exit.noGoto_ret]
    go_ret3
    exact ⟨_, rfl, Kd.R_nil _ _ _ _ _, Below.refl _ _⟩
  · have hd : decide ((65536 : Int) < (a0.size : Int)) = false := decide_eq_false (by omega)
    have hd2 : decide (65536 < a0.size) = false := decide_eq_false hbig
    unfold splitS at H
    rw [if_neg hbig] at H
    have HH := Aside0.mk H
    have hsz : a0.size ≤ 65536 := by omega
    clear H hbig
    go_enter Try.func12, Try.ntmps12
    go_wp2
    go_step3
    go_wp2
    go_loopw [21] (fun i wr => ∃ k : Nat, k ≤ a0.size ∧ i = .int .i64 k ∧ badFrom a0 a0.size 0 = badFrom a0 (a0.size - k) k ∧ ∃ nd, wr = w.drewN nd) (fun i _ => a0.size - (intOf i).toNat)
    case atStart => exact ⟨0, Nat.zero_le _, rfl, rfl, 0, rfl⟩
    case round =>
      obtain ⟨k, hk, rfl, hb, nd, rfl⟩ := hrel
      by_cases hlt : k < a0.size
      · obtain ⟨c, hc⟩ : ∃ c, c = bt a0 k := ⟨_, rfl⟩
        have hbt := bt_atN a0 k
        rw [← hc] at hbt
        have hlt' : decide ((k : Int) < (a0.size : Int)) = true := decide_eq_true (by omega)
        rw [show a0.size - k = (a0.size - (k + 1)) + 1 from by omega] at hb
        simp only [badFrom] at hb
        rw [← hc] at hb
        have hgo : mayB c = true → badFrom a0 a0.size 0 = badFrom a0 (a0.size - (k + 1)) (k + 1) := by
          intro hm; rw [if_pos hm] at hb; exact hb
        have hno : mayB c = false → badFrom a0 a0.size 0 = some k := by
          intro hm; rw [if_neg (by rw [hm]; simp)] at hb; exact hb
        have HGO := Aside0.mk hgo
        have HNO := Aside0.mk hno
        have HB := Aside0.mk (blank_some c)
        clear hb hgo hno hc
        by_cases c10 : c = 10
        · have c1 : (c == 10) = true := beq_iff_eq.mpr c10
          have c2 : (c != 10) = false := bne_eq_false_iff_eq.mpr c10
          have hm := Aside0.mk (HGO.out (by unfold mayB; rw [c10]; rfl))
          clear c10
          go_wp2
          exact ⟨⟨k + 1, by omega, by go_num, hm.out, nd, rfl⟩, by simp [intOf]; omega⟩
        · have c1 : (c == 10) = false := beq_eq_false_iff_ne.mpr c10
          have c2 : (c != 10) = true := bne_iff_ne.mpr c10
          cases hbl : isBlank c with
          | true =>
            have hm := Aside0.mk (HGO.out (by unfold mayB; rw [hbl]; rfl))
            rw [hbl] at HB
            clear hbl
            go_wp2_with (go_at_call 30; (with_reducible refine (fields_blank.calls c true _ HB.out).mono ?_); rintro e w' ⟨rfl, ⟨nd', rfl⟩⟩)
            exact ⟨⟨k + 1, by omega, by go_num, hm.out, nd + nd', by simp⟩, by simp [intOf]; omega⟩
          | false =>
            by_cases c32 : c < 32
            · have d1 : decide (c < 32) = true := decide_eq_true c32
              have hm := Aside0.mk (HNO.out (by unfold mayB; rw [hbl, c1, decide_eq_false (by omega : ¬ 32 ≤ c)]; rfl))
              rw [hbl] at HB
              clear hbl
              go_wp2_with (go_at_call 30; (with_reducible refine (fields_blank.calls c false _ HB.out).mono ?_); rintro e w' ⟨rfl, ⟨nd', rfl⟩⟩)
              have q := HH.out
              rw [hm.out] at q
              obtain ⟨rfl, rfl, rfl⟩ : [] = r1 ∧ (k : Int) = r2 ∧ 130 = r3 := by simpa [Prod.mk.injEq] using q
              rw [Exit.noGoto_ret]
              go_ret3
              exact ⟨_, rfl, Kd.R_nil _ _ _ _ _, pw_below_drewN (Below.refl _ _) _⟩
            · have d1 : decide (c < 32) = false := decide_eq_false c32
              by_cases c126 : 126 < c
              · have d2 : decide (126 < c) = true := decide_eq_true c126
                have hm := Aside0.mk (HNO.out (by unfold mayB; rw [hbl, c1, decide_eq_false (by omega : ¬ c ≤ 126)]; simp))
                rw [hbl] at HB
                clear hbl
                go_wp2_with (go_at_call 30; (with_reducible refine (fields_blank.calls c false _ HB.out).mono ?_); rintro e w' ⟨rfl, ⟨nd', rfl⟩⟩)
                have q := HH.out
                rw [hm.out] at q
                obtain ⟨rfl, rfl, rfl⟩ : [] = r1 ∧ (k : Int) = r2 ∧ 130 = r3 := by simpa [Prod.mk.injEq] using q
                rw [Exit.noGoto_ret]
                go_ret3
                exact ⟨_, rfl, Kd.R_nil _ _ _ _ _, pw_below_drewN (Below.refl _ _) _⟩
              · have d2 : decide (126 < c) = false := decide_eq_false c126
                have hm := Aside0.mk (HGO.out (by unfold mayB; rw [hbl, c1, decide_eq_true (by omega : 32 ≤ c), decide_eq_true (by omega : c ≤ 126)]; rfl))
                rw [hbl] at HB
                clear hbl
                go_wp2_with (go_at_call 30; (with_reducible refine (fields_blank.calls c false _ HB.out).mono ?_); rintro e w' ⟨rfl, ⟨nd', rfl⟩⟩)
                exact ⟨⟨k + 1, by omega, by go_num, hm.out, nd + nd', by simp⟩, by simp [intOf]; omega⟩
      · obtain rfl : k = a0.size := by omega
        have hlt' : decide ((a0.size : Int) < (a0.size : Int)) = false := decide_eq_false (by omega)
        have hnb : badFrom a0 a0.size 0 = none := by rw [hb, Nat.sub_self]; rfl
        have H3 := HH.out
        rw [hnb] at H3
        have H4 := Aside0.mk (show (if a0.size = 0 ∨ begB (bt a0 0) = false then ([], 0, 131) else splitFrom a0 a0.size 0 []) = (r1, r2, r3) from H3)
        clear hb HH hnb H3
        by_cases h0 : a0.size = 0
        · have e0 : a0.toList = [] := by
            have e : a0 = ByteArray.empty := by simpa using h0
            rw [e, ByteArray.toList_eq]; rfl
          have e1 : a0.toList.isEmpty = true := by rw [e0]; rfl
          have e2 : (a0.toList == ([] : List UInt8)) = true := by rw [e0]; rfl
          have q := H4.out
          rw [if_pos (Or.inl h0)] at q
          have Q := Aside0.mk q
          clear q h0 e0
          go_wp2
          obtain ⟨rfl, rfl, rfl⟩ : [] = r1 ∧ 0 = r2 ∧ 131 = r3 := by simpa [Prod.mk.injEq] using Q.out
          rw [Exit.noGoto_ret]
          go_ret3
          exact ⟨_, rfl, Kd.R_nil _ _ _ _ _, pw_below_drewN (Below.refl _ _) _⟩
        · have e0 : a0.toList ≠ [] := by
            intro e
            rw [ByteArray.toList_eq] at e
            have e' : a0.data.toList.length = 0 := by rw [e]; rfl
            rw [data_length] at e'
            exact h0 e'
          have e1 : a0.toList.isEmpty = false := by simpa using e0
          have e2 : (a0.toList == ([] : List UInt8)) = false := beq_eq_false_iff_ne.mpr e0
          have hp : 0 < a0.size := by omega
          have hbt := bt_atN a0 0
          obtain ⟨c, hc⟩ : ∃ c, c = bt a0 ((0 : Nat) : Int) := ⟨_, rfl⟩
          rw [← hc] at hbt
          have HC := Aside0.mk hc
          have HB := Aside0.mk (begins_some c)
          clear hc e0
          cases hbg : begB c with
          | false =>
            have q := H4.out
            rw [if_pos (Or.inr (by rw [← hbg, HC.out]; rfl))] at q
            have Q := Aside0.mk q
            rw [hbg] at HB
            clear q hbg h0
            go_wp2_with (go_at_call 31; (with_reducible refine (fields_begins.calls c false _ HB.out).mono ?_); rintro e w' ⟨rfl, ⟨nd', rfl⟩⟩)
            obtain ⟨rfl, rfl, rfl⟩ : [] = r1 ∧ 0 = r2 ∧ 131 = r3 := by simpa [Prod.mk.injEq] using Q.out
            rw [Exit.noGoto_ret]
            go_ret3
            exact ⟨_, rfl, Kd.R_nil _ _ _ _ _, pw_below_drewN (Below.refl _ _) _⟩
          | true =>
            have q := H4.out
            rw [if_neg (by
              intro h
              rcases h with h | h
              · exact h0 h
              · have : begB c = false := by rw [HC.out]; exact h
                rw [hbg] at this; cases this)] at q
            have Q := Aside0.mk q
            rw [hbg] at HB
            clear q hbg h0
            go_wp2_with (go_at_call 31; (with_reducible refine (fields_begins.calls c true _ HB.out).mono ?_); rintro e w' ⟨rfl, ⟨nd', rfl⟩⟩)
            go_step3
            go_wp2
            go_loopw [8, 9] (fun v i wr => ∃ (k : Nat) (l : List S28), i = .int .i64 k ∧ k ≤ a0.size ∧ (k = 0 ∨ k = a0.size ∨ bt a0 ((k - 1 : Nat) : Int) = 10) ∧ splitFrom a0 (a0.size - k) k l = (r1, r2, r3) ∧ l.length ≤ k ∧ Kd.R k28 28 wr w.heap.size (fun k_ => k_ ≠ w.heap.size) v l ∧ wr.heap[w.heap.size]? = some (.cells (seenArr l) 47 (0, 0)) ∧ Below w.heap.size w wr) (fun _ i _ => a0.size - (intOf i).toNat)
            case atStart => exact ⟨0, [], rfl, Nat.zero_le _, Or.inl rfl, Q.out, Nat.le_refl _, Kd.R_nil _ _ _ _ _, heap_alloc_new _ _, below_alloc (pw_below_drewN (Below.refl _ _) _) _⟩
            case round =>
              obtain ⟨k, l, rfl, hk, hst, hsp, hll, hR, hS, hbl⟩ := hrel
              by_cases hlt : k < a0.size
              · have hlt' : decide ((k : Int) < (a0.size : Int)) = true := decide_eq_true (by omega)
                have HST := Aside0.mk hst
                have HSP := Aside0.mk hsp
                have HR := Aside0.mk hR
                have HS := Aside0.mk hS
                have HBL := Aside0.mk hbl
                clear hst hsp hR hS hbl Q hk
                obtain ⟨wo, rfl⟩ : ∃ wo : World, wo = wr := ⟨_, rfl⟩
                go_wp2
                go_loopw [10] (fun i wr => ∃ e : Nat, i = .int .i64 e ∧ k ≤ e ∧ e ≤ a0.size ∧ (∀ j : Nat, k ≤ j → j < e → bt a0 j ≠ 10) ∧ wr = wo) (fun i _ => a0.size - (intOf i).toNat)
                case atStart => exact ⟨k, rfl, Nat.le_refl _, by omega, fun j h1 h2 => by omega, rfl⟩
                case round =>
                  obtain ⟨e, rfl, hke, hes, hno, rfl⟩ := hrel
                  have HNO := Aside0.mk hno
                  clear hno
                  by_cases hgo : e < a0.size ∧ bt a0 (e : Int) ≠ 10
                  · obtain ⟨he, hb10⟩ := hgo
                    have he' : decide ((e : Int) < (a0.size : Int)) = true := decide_eq_true (by omega)
                    have hbe := bt_atN a0 e
                    have b1 : (bt a0 (e : Int) != 10) = true := bne_iff_ne.mpr hb10
                    go_wp2
                    exact ⟨⟨e + 1, by go_num, by omega, by omega, fun j h1 h2 => by
                        by_cases q : j = e
                        · rw [q]; exact hb10
                        · exact HNO.out j h1 (by omega), trivial⟩, by simp [intOf]; omega⟩
                  · have hend : e = a0.size ∨ (e < a0.size ∧ bt a0 (e : Int) = 10) := by
                      by_cases q : e < a0.size
                      · exact Or.inr ⟨q, Classical.byContradiction fun h => hgo ⟨q, h⟩⟩
                      · exact Or.inl (by omega)
                    have HEND := Aside0.mk hend
                    clear hgo
                    have hbk := bt_atN a0 k
                    obtain ⟨c0, hc0⟩ : ∃ c, c = bt a0 (k : Int) := ⟨_, rfl⟩
                    rw [← hc0] at hbk
                    have HC0 := Aside0.mk hc0
                    have HBK := Aside0.mk (begins_some c0)
                    clear hc0
                    have hnx := line_next a0 k e hke hes hlt HNO.out
                    have HNX := Aside0.mk hnx
                    have hst2 : (k == 0 || bt a0 ((k - 1 : Nat) : Int) == 10) = true := by
                      rcases HST.out with h | h | h
                      · rw [h]; rfl
                      · omega
                      · rw [h]; simp
                    have hatq : min (e + 1) a0.size = 0 ∨ min (e + 1) a0.size = a0.size ∨ bt a0 ((min (e + 1) a0.size - 1 : Nat) : Int) = 10 := by
                      rcases HEND.out with h | ⟨h1, h2⟩
                      · exact Or.inr (Or.inl (by omega))
                      · refine Or.inr (Or.inr ?_)
                        rw [Nat.min_eq_left (by omega), Nat.add_sub_cancel]; exact h2
                    have HATQ := Aside0.mk hatq
                    have hsp1 := HSP.out
                    rw [show a0.size - k = (a0.size - (k + 1)) + 1 from by omega] at hsp1
                    simp only [splitFrom] at hsp1
                    have hsb : startsB a0 k = begB c0 := by unfold startsB; rw [hst2, HC0.out]; rfl
                    rw [hsb] at hsp1
                    have HSP1 := Aside0.mk hsp1
                    clear hnx hst2 hatq hsp1 hsb
                    cases hbg : begB c0 with
                    | false =>
                      have hs2 := HSP1.out
                      rw [hbg, if_neg (by simp), HNX.out] at hs2
                      have HS2 := Aside0.mk hs2
                      rw [hbg] at HBK
                      clear hs2 hbg
                      rcases hend with rfl | ⟨he, hb10⟩
                      · have he' : decide ((a0.size : Int) < (a0.size : Int)) = false := decide_eq_false (by omega)
                        go_wp2_with (go_at_call 31; (with_reducible refine (fields_begins.calls c0 false _ HBK.out).mono ?_); rintro e w' ⟨rfl, ⟨nd', rfl⟩⟩)
                        refine ⟨⟨min (a0.size + 1) a0.size, l, by rw [Nat.min_eq_right (by omega)], by omega, HATQ.out, HS2.out, by omega, Kd.R_drewN HR.out _, HS.out, pw_below_drewN HBL.out _⟩, by simp [intOf]; omega⟩
                      · have he' : decide ((e : Int) < (a0.size : Int)) = true := decide_eq_true (by omega)
                        have hbe := bt_atN a0 e
                        have b1 : (bt a0 (e : Int) != 10) = false := bne_eq_false_iff_eq.mpr hb10
                        clear hb10
                        go_wp2_with (go_at_call 31; (with_reducible refine (fields_begins.calls c0 false _ HBK.out).mono ?_); rintro e w' ⟨rfl, ⟨nd', rfl⟩⟩)
                        refine ⟨⟨min (e + 1) a0.size, l, by rw [Nat.min_eq_left (by omega)]; go_num, by omega, HATQ.out, HS2.out, by omega, Kd.R_drewN HR.out _, HS.out, pw_below_drewN HBL.out _⟩, by simp [intOf]; omega⟩
                    | true =>
                      have hs2 := HSP1.out
                      rw [hbg, if_pos rfl] at hs2
                      rw [hbg] at HBK
                      clear hbg
                      have hhead := head_some a0 k e hke hes HNO.out (by omega) HEND.out (e - k + 1) (by omega)
                      have hrg := head_range a0 k
                      have hwd := head_width a0 k (by omega)
                      obtain ⟨p, q, o, hpq⟩ : ∃ p q o, headOf a0 k = (p, q, o) := ⟨_, _, _, rfl⟩
                      rw [hpq] at hhead hrg hwd hs2
                      have HHD := Aside0.mk hhead
                      have HS2 := Aside0.mk hs2
                      have hwd0 : 0 ≤ q := hwd.1
                      have hwd1 : q ≤ 65536 := by have := hwd.2; simp only at this; omega
                      clear hhead hs2 hwd hpq
                      have hsplit : (decide ((e : Int) < (a0.size : Int)) = false ∧ a0.size ≤ e) ∨ (decide ((e : Int) < (a0.size : Int)) = true ∧ e < a0.size ∧ (bt a0 (e : Int) != 10) = false) := by
                        rcases hend with h | ⟨h1, h2⟩
                        · exact Or.inl ⟨decide_eq_false (by omega), by omega⟩
                        · exact Or.inr ⟨decide_eq_true (by omega), h1, bne_eq_false_iff_eq.mpr h2⟩
                      have hbe := bt_atN a0 e
                      clear hend
                      obtain ⟨Ao, co, eo⟩ := Kd.R_slice HR.out
                      subst eo
                      cases o with
                      | false =>
                        have hs3 := HS2.out
                        rw [show errOf l (p, q, false) = 131 from rfl, if_neg (by omega)] at hs3
                        have HS3 := Aside0.mk hs3
                        clear hs3 hrg
                        rcases hsplit with ⟨he', he2⟩ | ⟨he', he2, b1⟩
                        all_goals
                          go_wp2_with (first | (go_at_call 31; (with_reducible refine (fields_begins.calls c0 true _ HBK.out).mono ?_); rintro e w' ⟨rfl, ⟨nd', rfl⟩⟩) | (go_at_call 32; (with_reducible refine (fields_head.calls _ _ p q false _ HHD.out).mono ?_); rintro e w' ⟨rfl, hb⟩))
                          obtain ⟨rfl, rfl, rfl⟩ : [] = r1 ∧ (k : Int) = r2 ∧ 131 = r3 := by simpa [Prod.mk.injEq] using HS3.out
                          rw [Exit.noGoto_ret]
                          go_ret3
                          exact ⟨_, rfl, Kd.R_nil _ _ _ _ _, below_step (pw_below_drewN HBL.out _) ‹_›⟩
                      | true =>
                        have hp1 : 1 ≤ p := (hrg rfl).1
                        have hp7 : p ≤ 7 := (hrg rfl).2
                        clear hrg
                        cases hsp : hasK l p with
                        | true =>
                          have hs3 := HS2.out
                          rw [show errOf l (p, q, true) = 132 from by unfold errOf; rw [if_neg (by simp), if_pos hsp], if_neg (by omega)] at hs3
                          have HS3 := Aside0.mk hs3
                          have HP := Aside0.mk hsp
                          clear hs3 hsp
                          rcases hsplit with ⟨he', he2⟩ | ⟨he', he2, b1⟩
                          all_goals
                            go_wp2_with (first | (go_at_call 31; (with_reducible refine (fields_begins.calls c0 true _ HBK.out).mono ?_); rintro e w' ⟨rfl, ⟨nd', rfl⟩⟩) | (go_at_call 32; (with_reducible refine (fields_head.calls _ _ p q true _ HHD.out).mono ?_); rintro e w1 ⟨rfl, hb⟩; have hcp := seen_cell (blk_below (show (wr.drewN nd').heap[w.heap.size]? = _ from HS.out) hb) p (by omega) hp7; rw [HP.out] at hcp))
                            obtain ⟨rfl, rfl, rfl⟩ : [] = r1 ∧ (k : Int) = r2 ∧ 132 = r3 := by simpa [Prod.mk.injEq] using HS3.out
                            rw [Exit.noGoto_ret]
                            go_ret3
                            exact ⟨_, rfl, Kd.R_nil _ _ _ _ _, below_step (pw_below_drewN HBL.out _) ‹_›⟩
                        | false =>
                          have HP := Aside0.mk hsp
                          by_cases hA : p = 1 ∧ l ≠ []
                          · have hs3 := HS2.out
                            rw [show errOf l (p, q, true) = 133 from by unfold errOf; rw [if_neg (by simp), if_neg (by simp [hsp]), if_pos (Or.inl hA)], if_neg (by omega)] at hs3
                            have HS3 := Aside0.mk hs3
                            have g1 : (p == 1) = true := beq_iff_eq.mpr hA.1
                            have hlen : 0 < l.length := List.length_pos_iff.mpr hA.2
                            have g2 : decide ((0 : Int) < (l.length : Int)) = true := decide_eq_true (by omega)
                            have g3 : decide (0 < l.length) = true := decide_eq_true hlen
                            clear hs3 hsp hA
                            rcases hsplit with ⟨he', he2⟩ | ⟨he', he2, b1⟩
                            all_goals
                              go_wp2_with (first | (go_at_call 31; (with_reducible refine (fields_begins.calls c0 true _ HBK.out).mono ?_); rintro e w' ⟨rfl, ⟨nd', rfl⟩⟩) | (go_at_call 32; (with_reducible refine (fields_head.calls _ _ p q true _ HHD.out).mono ?_); rintro e w1 ⟨rfl, hb⟩; have n0_ := Aside0.mk (blk_below (show (wr.drewN nd').heap[w.heap.size]? = _ from HS.out) hb); have n1_ := Aside0.mk (Kd.R_below (Kd.R_drewN HR.out nd') hb); have n2_ := Aside0.mk (below_step (pw_below_drewN HBL.out nd') hb); clear hb; have hcp := seen_cell n0_.out p (by omega) hp7; have hc7 : w1.cell? ⟨w.heap.size, 7, none⟩ = some (.bool (hasK l 7)) := seen_cell n0_.out 7 (by omega) (by omega); have hfp := blk_frozen n0_.out p.toNat; rw [HP.out] at hcp))
                              obtain ⟨rfl, rfl, rfl⟩ : [] = r1 ∧ (k : Int) = r2 ∧ 133 = r3 := by simpa [Prod.mk.injEq] using HS3.out
                              rw [Exit.noGoto_ret]
                              go_ret3
                              exact ⟨_, rfl, Kd.R_nil _ _ _ _ _, n2_.out⟩
                          · cases h7 : hasK l 7 with
                            | true =>
                              have hs3 := HS2.out
                              rw [show errOf l (p, q, true) = 133 from by unfold errOf; rw [if_neg (by simp), if_neg (by simp [hsp]), if_pos (Or.inr h7)], if_neg (by omega)] at hs3
                              have HS3 := Aside0.mk hs3
                              have H7 := Aside0.mk h7
                              have hne : l ≠ [] := by intro h; rw [h] at h7; cases h7
                              have g1 : (p == 1) = false := beq_eq_false_iff_ne.mpr (fun h => hA ⟨h, hne⟩)
                              clear hs3 hsp hA h7 hne
                              rcases hsplit with ⟨he', he2⟩ | ⟨he', he2, b1⟩
                              all_goals
                                go_wp2_with (first | (go_at_call 31; (with_reducible refine (fields_begins.calls c0 true _ HBK.out).mono ?_); rintro e w' ⟨rfl, ⟨nd', rfl⟩⟩) | (go_at_call 32; (with_reducible refine (fields_head.calls _ _ p q true _ HHD.out).mono ?_); rintro e w1 ⟨rfl, hb⟩; have n0_ := Aside0.mk (blk_below (show (wr.drewN nd').heap[w.heap.size]? = _ from HS.out) hb); have n1_ := Aside0.mk (Kd.R_below (Kd.R_drewN HR.out nd') hb); have n2_ := Aside0.mk (below_step (pw_below_drewN HBL.out nd') hb); clear hb; have hcp := seen_cell n0_.out p (by omega) hp7; have hc7 : w1.cell? ⟨w.heap.size, 7, none⟩ = some (.bool (hasK l 7)) := seen_cell n0_.out 7 (by omega) (by omega); have hfp := blk_frozen n0_.out p.toNat; rw [HP.out] at hcp; rw [H7.out] at hc7))
                                obtain ⟨rfl, rfl, rfl⟩ : [] = r1 ∧ (k : Int) = r2 ∧ 133 = r3 := by simpa [Prod.mk.injEq] using HS3.out
                                rw [Exit.noGoto_ret]
                                go_ret3
                                exact ⟨_, rfl, Kd.R_nil _ _ _ _ _, n2_.out⟩
                            | false =>
                              have hs3 := HS2.out
                              rw [show errOf l (p, q, true) = 0 from by unfold errOf; rw [if_neg (by simp), if_neg (by simp [hsp]), if_neg (fun h => h.elim (fun h => hA h) (fun h => by rw [h7] at h; cases h))], if_pos rfl, HNX.out] at hs3
                              obtain ⟨l', hl'⟩ : ∃ l', l' = closeL l (k : Int) ++ [(⟨p, k, (k : Int) + q, a0.size⟩ : S28)] := ⟨_, rfl⟩
                              rw [← hl'] at hs3
                              have HS3 := Aside0.mk hs3
                              have HL' := Aside0.mk hl'
                              have H7 := Aside0.mk h7
                              have hk' : ∀ j, hasK l' j = (hasK l j || decide (j = p)) := by
                                intro j
                                rw [hl']
                                have e := hasK_closeL l (k : Int) j
                                unfold hasK at e ⊢
                                rw [List.any_append, e]
                                simp [List.any_cons, eq_comm, Bool.beq_eq_decide_eq]
                              have HK' := Aside0.mk hk'
                              clear hs3 hsp h7 hl' hk'
                              have HMIN := Aside0.mk (show (if (a0.size : Int) < (e : Int) + 1 then (a0.size : Int) else (e : Int) + 1) = ((min (e + 1) a0.size : Nat) : Int) from by split <;> omega)
                              have hk64 : (k : Int) + q ≤ 9223372036854775807 := by omega
                              by_cases hl0 : l = []
                              · have g2 : decide ((0 : Int) < (l.length : Int)) = false := decide_eq_false (by rw [hl0]; simp)
                                have g3 : decide (0 < l.length) = false := decide_eq_false (by rw [hl0]; simp)
                                have HCL := Aside0.mk (show closeL l (k : Int) = l from by rw [hl0]; rfl)
                                clear hA hl0
                                rcases Bool.eq_false_or_eq_true (p == 1) with g1 | g1
                                all_goals
                                  rcases hsplit with ⟨he', he2⟩ | ⟨he', he2, b1⟩
                                  all_goals
                                    go_wp2_with (first | (go_at_call 31; (with_reducible refine (fields_begins.calls c0 true _ HBK.out).mono ?_); rintro e w' ⟨rfl, ⟨nd', rfl⟩⟩) | (go_at_call 32; (with_reducible refine (fields_head.calls _ _ p q true _ HHD.out).mono ?_); rintro e w1 ⟨rfl, hb⟩; have n0_ := Aside0.mk (blk_below (show (wr.drewN nd').heap[w.heap.size]? = _ from HS.out) hb); have n1_ := Aside0.mk (Kd.R_below (Kd.R_drewN HR.out nd') hb); have n2_ := Aside0.mk (below_step (pw_below_drewN HBL.out nd') hb); clear hb; have hcp := seen_cell n0_.out p (by omega) hp7; have hc7 : w1.cell? ⟨w.heap.size, 7, none⟩ = some (.bool (hasK l 7)) := seen_cell n0_.out 7 (by omega) (by omega); have hfp := blk_frozen n0_.out p.toNat; rw [HP.out] at hcp; rw [H7.out] at hc7) | ((with_reducible refine gate_store (t := 4) (p := 110) rfl ?_); refine store_event (t := 4) (p := 110) (v := .const (.bool true)) (w1 := (w1.setCell ⟨w.heap.size, p.toNat, none⟩ (.bool true))) ?hg ?ho ?hn ?hr ?_; (case ho => rfl); (case hg => rfl); (case hn => rfl); (case hr => first | (go_simp; done) | (go_simp; rfl)); intro w3 hw; have m0_ : Aside0 (w3.heap[w.heap.size]? = some (.cells (seenArr l') 47 (0, 0))) := ⟨by rw [hw]; exact seen_set n0_.out p (by omega) hp7 HK'.out⟩; have m1_ : Aside0 (Kd.R k28 28 w3 w.heap.size (fun k_ => k_ ≠ w.heap.size) (.slice Ao l.length co) l) := ⟨by rw [hw]; exact Kd.R_far n1_.out (fun _ h => h) _⟩; have m2_ : Aside0 (Below w.heap.size w w3) := ⟨by rw [hw]; exact below_set n2_.out (Nat.le_refl _)⟩; clear hw hcp hc7 hfp) | (at_builtin; refine Kd.R_append k28 (w0 := w) w.heap.size rfl (.tmp 121) (.tmp 130) 22 28 (.agg #[(.int .u8 0), (.int .i64 0), (.int .i64 0), (.int .i64 0)]) 32 rfl Try.underlying22 info28 rfl (by decide) (by omega) (.slice Ao l.length co) l (⟨p, k, (k : Int) + q, a0.size⟩ : S28) [.int .u8 p, .int .i64 k, .int .i64 ((k : Int) + q), .int .i64 a0.size] (fun k_ => k_ ≠ w.heap.size) (fun _ => False) rfl rfl ?aP (fun _ hk => hk.elim) ?aF ?aO ?aB ?aS ?aL ?_; (case aP => exact k28_mkM _ _ _ (⟨p, k, (k : Int) + q, a0.size⟩ : S28)); (case aF => exact (fun k_ hk => by have := blk_lt m0_.out; omega)); (case aO => exact m1_.out); (case aB => exact m2_.out); (case aS => exact below_size m2_.out); (case aL => omega); intro v1 w5 hR5 hB5 hg5 hat5; have p0_ := Aside0.mk (blk_grown m0_.out hg5 (Kd.R_away m1_.out (fun _ h => h))); have p1_ := Aside0.mk hR5; have p2_ := Aside0.mk hB5; clear hR5 hB5 hg5 hat5))
                                    first | (rw [HMIN.out]; exact ⟨⟨min (e + 1) a0.size, l', rfl, by omega, HATQ.out, HS3.out, by rw [HL'.out, List.length_append, closeL_length]; simp; omega, by rw [HL'.out, HCL.out]; exact p1_.out, p0_.out, p2_.out⟩, by simp [intOf]; omega⟩) | exact ⟨⟨min (e + 1) a0.size, l', by congr 1; omega, by omega, HATQ.out, HS3.out, by rw [HL'.out, List.length_append, closeL_length]; simp; omega, by rw [HL'.out, HCL.out]; exact p1_.out, p0_.out, p2_.out⟩, by simp [intOf]; omega⟩
                              · have hlen : 0 < l.length := List.length_pos_iff.mpr hl0
                                have g2 : decide ((0 : Int) < (l.length : Int)) = true := decide_eq_true (by omega)
                                have g3 : decide (0 < l.length) = true := decide_eq_true hlen
                                have g1 : (p == 1) = false := beq_eq_false_iff_ne.mpr (fun h => hA ⟨h, hl0⟩)
                                obtain ⟨go, cap, eo, gb, gl, gc⟩ := Kd.R_form HR.out hlen
                                injection eo with ea en ec
                                subst ea
                                subst ec
                                have GB := Aside0.mk gb
                                clear hA hl0 en gb gl gc
                                rcases hsplit with ⟨he', he2⟩ | ⟨he', he2, b1⟩
                                all_goals
                                  go_wp2_with (first | (go_at_call 31; (with_reducible refine (fields_begins.calls c0 true _ HBK.out).mono ?_); rintro e w' ⟨rfl, ⟨nd', rfl⟩⟩) | (go_at_call 32; (with_reducible refine (fields_head.calls _ _ p q true _ HHD.out).mono ?_); rintro e w1 ⟨rfl, hb⟩; have n0_ := Aside0.mk (blk_below (show (wr.drewN nd').heap[w.heap.size]? = _ from HS.out) hb); have n1_ := Aside0.mk (Kd.R_below (Kd.R_drewN HR.out nd') hb); have n2_ := Aside0.mk (below_step (pw_below_drewN HBL.out nd') hb); clear hb; have hcp := seen_cell n0_.out p (by omega) hp7; have hc7 : w1.cell? ⟨w.heap.size, 7, none⟩ = some (.bool (hasK l 7)) := seen_cell n0_.out 7 (by omega) (by omega); have hfp := blk_frozen n0_.out p.toNat; rw [HP.out] at hcp; rw [H7.out] at hc7) | ((with_reducible refine gate_store (t := 4) (p := 110) rfl ?_); refine store_event (t := 4) (p := 110) (v := .const (.bool true)) (w1 := (w1.setCell ⟨w.heap.size, p.toNat, none⟩ (.bool true))) ?hg ?ho ?hn ?hr ?_; (case ho => rfl); (case hg => rfl); (case hn => rfl); (case hr => first | (go_simp; done) | (go_simp; rfl)); intro w3 hw; have m0_ : Aside0 (w3.heap[w.heap.size]? = some (.cells (seenArr l') 47 (0, 0))) := ⟨by rw [hw]; exact seen_set n0_.out p (by omega) hp7 HK'.out⟩; have m1_ : Aside0 (Kd.R k28 28 w3 w.heap.size (fun k_ => k_ ≠ w.heap.size) (.slice (some ⟨go, 0, none⟩) l.length co) l) := ⟨by rw [hw]; exact Kd.R_far n1_.out (fun _ h => h) _⟩; have m2_ : Aside0 (Below w.heap.size w w3) := ⟨by rw [hw]; exact below_set n2_.out (Nat.le_refl _)⟩; clear hw hcp hc7 hfp; obtain ⟨hE, hgE, hcE, hfE⟩ := out_end m1_.out hlen (k : Int); have HE := Aside0.mk hE; have HGE := Aside0.mk hgE; clear hE hgE) | ((with_reducible refine gate_store (t := 3) (p := 120) rfl ?_); refine store_event (t := 3) (p := 120) (v := .tmp 118) (w1 := (w3.setCell ⟨go, (l.length - 1) * 4 + 3, none⟩ (.int .i64 (k : Int)))) ?hg ?ho ?hn ?hr ?_; (case ho => rfl); (case hg => rfl); (case hn => rfl); (case hr => first | (go_simp; done) | (go_simp; rfl)); intro w4 hw; have q0_ : Aside0 (w4.heap[w.heap.size]? = some (.cells (seenArr l') 47 (0, 0))) := ⟨by rw [hw]; exact blk_grown m0_.out HGE.out (Kd.R_away m1_.out (fun _ h => h))⟩; have q1_ : Aside0 (Kd.R k28 28 w4 w.heap.size (fun k_ => k_ ≠ w.heap.size) (.slice (some ⟨go, 0, none⟩) l.length co) (closeL l (k : Int))) := ⟨by rw [hw]; exact HE.out⟩; have q2_ : Aside0 (Below w.heap.size w w4) := ⟨by rw [hw]; exact below_set m2_.out GB.out⟩; clear hw hcE hfE) | (at_builtin; refine Kd.R_append k28 (w0 := w) w.heap.size rfl (.tmp 121) (.tmp 130) 22 28 (.agg #[(.int .u8 0), (.int .i64 0), (.int .i64 0), (.int .i64 0)]) 32 rfl Try.underlying22 info28 rfl (by decide) (by omega) (.slice (some ⟨go, 0, none⟩) l.length co) (closeL l (k : Int)) (⟨p, k, (k : Int) + q, a0.size⟩ : S28) [.int .u8 p, .int .i64 k, .int .i64 ((k : Int) + q), .int .i64 a0.size] (fun k_ => k_ ≠ w.heap.size) (fun _ => False) rfl rfl ?aP (fun _ hk => hk.elim) ?aF ?aO ?aB ?aS ?aL ?_; (case aP => exact k28_mkM _ _ _ (⟨p, k, (k : Int) + q, a0.size⟩ : S28)); (case aF => exact (fun k_ hk => by have := blk_lt q0_.out; omega)); (case aO => exact q1_.out); (case aB => exact q2_.out); (case aS => exact below_size q2_.out); (case aL => rw [closeL_length]; omega); intro v1 w5 hR5 hB5 hg5 hat5; have p0_ := Aside0.mk (blk_grown q0_.out hg5 (Kd.R_away q1_.out (fun _ h => h))); have p1_ := Aside0.mk hR5; have p2_ := Aside0.mk hB5; clear hR5 hB5 hg5 hat5))
                                  first | (rw [HMIN.out]; exact ⟨⟨min (e + 1) a0.size, l', rfl, by omega, HATQ.out, HS3.out, by rw [HL'.out, List.length_append, closeL_length]; simp; omega, by rw [HL'.out]; exact p1_.out, p0_.out, p2_.out⟩, by simp [intOf]; omega⟩) | exact ⟨⟨min (e + 1) a0.size, l', by congr 1; omega, by omega, HATQ.out, HS3.out, by rw [HL'.out, List.length_append, closeL_length]; simp; omega, by rw [HL'.out]; exact p1_.out, p0_.out, p2_.out⟩, by simp [intOf]; omega⟩
              · obtain rfl : k = a0.size := by omega
                have hlt' : decide ((a0.size : Int) < (a0.size : Int)) = false := decide_eq_false (by omega)
                have hsp2 : (if hasK l 2 = true then (l, 0, 0) else ([], (a0.size : Int), 134)) = (r1, r2, r3) := by
                  rw [Nat.sub_self] at hsp; exact hsp
                have hc2 : wr.cell? ⟨w.heap.size, 2, none⟩ = some (.bool (hasK l 2)) := seen_cell hS 2 (by omega) (by omega)
                have HSP2 := Aside0.mk hsp2
                have HR := Aside0.mk hR
                have HBL := Aside0.mk hbl
                clear hst hsp hsp2 hR hS hbl Q
                cases h2 : hasK l 2 with
                | false =>
                  rw [h2] at hc2
                  have q := HSP2.out
                  rw [h2, if_neg (by simp)] at q
                  have Q := Aside0.mk q
                  clear q h2
                  go_wp2
                  obtain ⟨rfl, rfl, rfl⟩ : [] = r1 ∧ (a0.size : Int) = r2 ∧ 134 = r3 := by simpa [Prod.mk.injEq] using Q.out
                  rw [Exit.noGoto_ret]
                  go_ret3
                  exact ⟨_, rfl, Kd.R_nil _ _ _ _ _, HBL.out⟩
                | true =>
                  rw [h2] at hc2
                  have q := HSP2.out
                  rw [h2, if_pos rfl] at q
                  have Q := Aside0.mk q
                  clear q h2
                  go_wp2
                  obtain ⟨rfl, rfl, rfl⟩ : l = r1 ∧ 0 = r2 ∧ 0 = r3 := by simpa [Prod.mk.injEq] using Q.out
                  rw [Exit.noGoto_ret]
                  go_ret3
                  exact ⟨_, rfl, Kd.R_mono HR.out (fun _ _ => trivial), HBL.out⟩

end Go.Proofs.Ytiienmifjebdlaa.Q
