/- The contracts of each and of its closure: the texts of a tree's principals, gathered in order. Plain facts: texts that are sorted, each once; both sides tell the same principals. The contract of the reference's Principals. The contract of Principals: the sorted texts of a tree's principals, each once. -/
import Derived.Test.YtjapfefiaijfcaaGreatDoorT0
import Derived.IntWalk
import Derived.Deep.CutRange
import Derived.Deep.CutBlock
import Derived.Lib.SlicesCompact
import Derived.Sort.Walk0
import Derived.Test.YtjapfefiaijfcaaGreatDoorU4
import Derived.Test.YtjapfefiaijfcaaGreatDoorSh2
import Derived.Sort.OwnSorted
import Derived.Lib.OwnBridge
namespace Go.Proofs.YtjapfefiaijfcaaGreatDoor.Q
open Go.RowKit Go.Proofs.YtjapfefiaijfcaaGreatDoorW.PrintWords Go.Proofs.YtjapfefiaijfcaaGreatDoorW.PrintLast Go.Proofs.YtjapfefiaijfcaaGreatDoorW.PrintMore
set_option linter.unusedVariables false
/-- What a call leaves that puts texts behind those of a row whose header lies in block g. -/
structure OutAt (w0 w : World) (g : Nat) (v : Value) (ys : List ByteArray) (w' : World) (v' : Value) : Prop where
  box : w'.heap[g]? = some (.cells #[v'] 34 (0, 0))
  row : Kd.R Kd.string 9 w' w0.heap.size (fun k => k ≠ g) v' ys
  own : v'.ownBlock = v.ownBlock ∨ ∃ b, v'.ownBlock = some b ∧ w.heap.size ≤ b
  below : Below w0.heap.size w0 w'
  keep : KeepBut w w' g v.ownBlock
def OutPost (w0 w : World) (g : Nat) (v : Value) (ys : List ByteArray) (e : Ending) (w' : World) : Prop := e = .returned (.tuple #[]) ∧ ∃ v', OutAt w0 w g v ys w' v'
theorem len_snoc (xs : List ByteArray) (s : ByteArray) : (xs ++ [s]).length = xs.length + 1 := by simp
set_option maxHeartbeats 8000000 in
set_option maxRecDepth 100000 in
theorem lics_Principals1.calls (w0 : World) (g : Nat) (s : ByteArray) (v : Value) (xs : List ByteArray) (w : World) (hb : Below w0.heap.size w0 w) (hg : w.heap[g]? = some (.cells #[v] 34 (0, 0)))
    (hR : Kd.R Kd.string 9 w w0.heap.size (fun k => k ≠ g) v xs) (hB : w0.heap.size ≤ g) (hl : xs.length < 1000000) :
    Calls Tryz.prog 30 #[.string s, .pointer (some ⟨g, 0, none⟩)] w (OutPost w0 w g v (xs ++ [s])) := by
  have c0 : w.cell? ⟨g, 0, none⟩ = some v := (blk_cell hg 0).trans rfl
  have z0 := blk_frozen hg 0
  have HB := Aside0.mk hb
  have HG := Aside0.mk hg
  have HR := Aside0.mk hR
  have HL := Aside0.mk hl
  have HBg := Aside0.mk hB
  have HGl := Aside0.mk (blk_lt hg)
  have HA := Aside0.mk (Kd.R_away hR (fun k hk => hk))
  clear hb hg hR hl hB
  go_enter Tryz.func30, Tryz.ntmps30
  go_wp2_with (first | ((with_reducible refine gate_builtin (b := .append) (xs := #[.tmp 3, .tmp 5]) rfl ?_); at_builtin; refine Kd.R_append Kd.string (w0 := w0) w0.heap.size rfl (.tmp 3) (.tmp 5) 34 9 (.string ⟨#[]⟩) 16 rfl Tryz.underlying34 info9 rfl (by decide) (by omega) v xs s [.string s] (fun k => k ≠ g) (fun _ => False) rfl rfl ?aP (fun _ hk => hk.elim) ?aF HR.out HB.out ?aS ?aL ?_; (case aP => exact rfl); (case aF => intro k hk; have := HGl.out; omega); (case aS => exact HB.out.size); (case aL => have := HL.out; omega); intro v1 w1 ho hb1 hgr hat; obtain ⟨A1, cap1, rfl⟩ := Kd.R_slice ho; rw [len_snoc] at ho hat; have HO := Aside0.mk ho; have HB1 := Aside0.mk hb1; have HGr := Aside0.mk hgr; have HAt := Aside0.mk hat; have b1 := blk_grown HG.out hgr HA.out; have c1 : w1.cell? ⟨g, 0, none⟩ = some v := (blk_cell b1 0).trans rfl; have z1 := blk_frozen b1 0; have HG1 := Aside0.mk b1; clear ho hb1 hgr hat b1 c0 z0))
  go_end0
  exact ⟨rfl, _, blk_put HG1.out 0 _ rfl, Kd.R_far (p := ⟨g, 0, none⟩) HO.out (fun k hk => hk) _, HAt.out, HB1.out.setCell (p := ⟨g, 0, none⟩) HBg.out _, (KeepBut.of_grown HGr.out g).set_ 0 _⟩
/-- The texts of a tree's principals, in order. -/
def headL (x : S24) : List ByteArray := if x.f0 = 1 then [x.f1] else []
def leaves (x : S24) : List ByteArray := headL x ++ (x.f3.attach.map (fun ⟨y, hy⟩ => leaves y)).flatten
termination_by SizeOf.sizeOf x
decreasing_by exact S24.lt_mem hy
theorem leaves_eq (x : S24) : leaves x = headL x ++ (x.f3.map leaves).flatten := by
  rw [leaves]
  congr 2
  simp
theorem headL_len (x : S24) : (headL x).length ≤ 1 := by unfold headL; split <;> simp
theorem leaves_len (N : Nat) : ∀ x : S24, szT x < N → (leaves x).length ≤ szT x := by
  induction N with
  | zero => exact fun x h => absurd h (Nat.not_lt_zero _)
  | succ N ih =>
    intro x hN
    rw [leaves_eq, szT_eq, List.length_append, List.length_flatten, List.map_map]
    have h1 := headL_len x
    have h2 : ∀ l : List S24, (∀ y ∈ l, (leaves y).length ≤ szT y) → (l.map (List.length ∘ leaves)).sum ≤ (l.map szT).sum := by
      intro l
      induction l with
      | nil => intro _; simp
      | cons a l ihl =>
        intro h
        rw [List.map_cons, List.map_cons, List.sum_cons, List.sum_cons]
        have q1 := h a List.mem_cons_self
        have q2 := ihl (fun y hy => h y (List.mem_cons_of_mem _ hy))
        show (leaves a).length + _ ≤ _
        omega
    have h3 := h2 x.f3 (fun y hy => ih y (by have := szT_mem hy; omega))
    omega
theorem OutAt.refl {w0 w : World} {g : Nat} {v : Value} {xs : List ByteArray} (hb : Below w0.heap.size w0 w) (hg : w.heap[g]? = some (.cells #[v] 34 (0, 0))) (hR : Kd.R Kd.string 9 w w0.heap.size (fun k => k ≠ g) v xs) : OutAt w0 w g v xs w v :=
  ⟨hg, hR, .inl rfl, hb, KeepBut.refl _ _ _⟩
theorem OutAt.alloc {w0 w w1 : World} {g : Nat} {v v1 : Value} {xs : List ByteArray} (h : OutAt w0 w g v xs w1 v1) (o : Obj) : OutAt w0 w g v xs (w1.alloc o) v1 :=
  ⟨blk_alloc h.box o, Kd.R_alloc h.row o, h.own, h.below.alloc h.below.size o, h.keep.trans (KeepBut.of_grown (World.grownBy_alloc w1 o v.ownBlock) g) (.inl rfl)⟩
theorem OutAt.trans {w0 w w1 w2 : World} {g : Nat} {v v1 v2 : Value} {xs ys : List ByteArray} (h : OutAt w0 w g v xs w1 v1) (k : OutAt w0 w1 g v1 ys w2 v2) : OutAt w0 w g v ys w2 v2 := by
  refine ⟨k.box, k.row, ?_, k.below, h.keep.trans k.keep ?_⟩
  · rcases k.own with e | ⟨b, e, hb⟩
    · rw [e]; exact h.own
    · exact .inr ⟨b, e, Nat.le_trans h.keep.1 hb⟩
  · exact h.own
theorem OutAt.drewN {w0 w w1 : World} {g : Nat} {v v1 : Value} {xs : List ByteArray} (h : OutAt w0 w g v xs w1 v1) (n : Nat) : OutAt w0 w g v xs (w1.drewN n) v1 :=
  ⟨blk_drewN h.box n, Kd.R_drewN h.row n, h.own, pw_below_drewN h.below n, keep_drewN h.keep n⟩
theorem OutAt.blk {w0 w w1 : World} {g b : Nat} {v v1 : Value} {xs : List ByteArray} {o : Obj} (h : OutAt w0 w g v xs w1 v1) (hb : w.heap[b]? = some o) (hg : b ≠ g) (hv : some b ≠ v.ownBlock) : w1.heap[b]? = some o := h.keep.blk hb hg hv
set_option maxHeartbeats 8000000 in
set_option maxRecDepth 100000 in
theorem lics_each.calls (w0 : World) (g : Nat) (hB : w0.heap.size ≤ g) (N : Nat) : ∀ (x : S24) (A : Option Addr) (c : Nat) (v : Value) (xs : List ByteArray) (w : World), szT x < N → N ≤ 10000 → x.f3.length ≤ c → Kd.C k24 w0 A x.f3.length x.f3 → Below w0.heap.size w0 w →
    w.heap[g]? = some (.cells #[v] 34 (0, 0)) → Kd.R Kd.string 9 w w0.heap.size (fun k => k ≠ g) v xs → xs.length + szT x ≤ 20000 →
    Calls Tryz.prog 29 #[.agg #[.int .u8 x.f0, .string x.f1, .int .i64 x.f2, .slice A x.f3.length c], .func (.func 30) #[] #[.pointer (some ⟨g, 0, none⟩)]] w (OutPost w0 w g v (xs ++ leaves x)) := by
  induction N with
  | zero => exact fun x A c v xs w h => absurd h (Nat.not_lt_zero _)
  | succ N ih =>
    intro x A c v xs w hN hN2 hc hC hb hg hR hl
    have hlen := szT_len x
    have hgl := blk_lt hg
    have hvl : ∀ k, v.ownBlock = some k → k < w.heap.size := fun k hk => Kd.R_lt hR k hk
    have HO := Aside0.mk (OutAt.refl hb hg hR)
    have HC := Aside0.mk hC
    have IH := Aside0.mk ih
    have HN := Aside0.mk hN
    have HL := Aside0.mk hl
    have HGl := Aside0.mk hgl
    have HVl := Aside0.mk hvl
    clear ih hC hN hb hg hR hl hgl hvl
    go_enter Tryz.func29, Tryz.ntmps29
    go_upto_if 8 with (fail)
    go_cut [] (fun wc => (∃ v1, OutAt w0 w g v (xs ++ headL x) wc v1) ∧ wc.heap[w.heap.size]? = some (.cells #[.int .u8 x.f0, .string x.f1, .int .i64 x.f2, .slice A x.f3.length c] 24 (0, 0)))
    case first =>
      have hbx := blk_new w (.cells #[.int .u8 x.f0, .string x.f1, .int .i64 x.f2, .slice A x.f3.length c] 24 (0, 0))
      have HBx := Aside0.mk hbx
      have l1 := blk_cell hbx 1
      clear hbx
      by_cases h1 : x.f0 = 1
      · have e1 : (x.f0 == 1) = true := by simp [h1]
        have HH : Aside0 (headL x = [x.f1]) := ⟨by unfold headL; rw [if_pos h1]⟩
        clear h1
        go_wp2_with (first | (go_at_call 30; (with_reducible refine (lics_Principals1.calls w0 g x.f1 v xs _ (HO.out.alloc _).below (HO.out.alloc _).box (HO.out.alloc _).row hB (by have := HL.out; omega)).mono ?_); rintro e_ w1 ⟨rfl, v1, ho⟩; have HO1 := Aside0.mk ho; clear ho))
        go_meet
        case rel =>
          rw [HH.out]
          exact ⟨⟨_, (HO.out.alloc _).trans HO1.out⟩, HO1.out.blk HBx.out (by have := HGl.out; omega) (fun h => by have := HVl.out _ h.symm; omega)⟩
      · have e1 : (x.f0 == 1) = false := by simp [h1]
        have HH : Aside0 (headL x = []) := ⟨by unfold headL; rw [if_neg h1]⟩
        clear h1
        go_wp2
        go_meet
        case rel =>
          rw [HH.out, List.append_nil]
          exact ⟨⟨_, HO.out.alloc _⟩, HBx.out⟩
    case rest =>
      obtain ⟨⟨v1, ho⟩, hbx⟩ := hcut
      have HO1 := Aside0.mk ho
      have l3 := blk_cell hbx 3
      have HBx := Aside0.mk hbx
      clear ho hbx HO
      go_wp2
      go_loopw [16] (fun i wr => ∃ (k : Nat) (v2 : Value), i = .int .i64 k ∧ k ≤ x.f3.length ∧ OutAt w0 w g v (xs ++ headL x ++ ((x.f3.take k).map leaves).flatten) wr v2) (fun i wr => x.f3.length - (intOf i).toNat)
      case atStart => exact ⟨0, v1, rfl, Nat.zero_le _, by simpa using HO1.out⟩
      case round =>
        obtain ⟨k, v2, rfl, hk, ho⟩ := hrel
        have HO2 := Aside0.mk ho
        clear ho l3
        by_cases hlt : k < x.f3.length
        · have d1 : decide ((k : Int) < (x.f3.length : Int)) = true := decide_eq_true (by omega)
          have d2 : (k < x.f3.length) = True := eq_true hlt
          have d3 : ((k : Int) < (x.f3.length : Int)) = True := eq_true (by omega)
          have d4 : (0 ≤ (k : Int)) = True := eq_true (by omega)
          have q4 : IntKind.i64.wrap ((k : Int) + 1) = (k : Int) + 1 := IntWalk.i64_in _ (by have := HN.out; omega)
          obtain ⟨ad, A3, c3', e0, k0, k1, k2, k3, k4, k5⟩ := at_T24 HC.out (k : Int) (by omega) (by omega)
          subst e0
          rw [Int.toNat_natCast] at k0 k1 k2 k3
          replace k0 := pw_cell_below HO2.out.below k0
          replace k1 := pw_cell_below HO2.out.below k1
          replace k2 := pw_cell_below HO2.out.below k2
          replace k3 := pw_cell_below HO2.out.below k3
          have hmem : rd_T24 x.f3 (k : Int) ∈ x.f3 := by rw [rd_nat hlt]; exact List.getElem_mem hlt
          have hsz := szT_mem hmem
          have hy0 : ((x.f3.take (k + 1)).map leaves).flatten = ((x.f3.take k).map leaves).flatten ++ leaves (rd_T24 x.f3 (k : Int)) := by
            rw [List.take_succ_eq_append_getElem hlt, List.map_append, List.flatten_append, rd_nat hlt]; simp
          have hyl : (xs ++ headL x ++ ((x.f3.take k).map leaves).flatten).length + szT (rd_T24 x.f3 (k : Int)) ≤ 20000 := by
            have q := HL.out
            have q1 := headL_len x
            have q2 := szT_eq x
            have q3 : (((x.f3.take k).map leaves).flatten).length ≤ ((x.f3.take k).map szT).sum := by
              have h2 : ∀ l : List S24, (l.map leaves).flatten.length ≤ (l.map szT).sum := by
                intro l
                induction l with
                | nil => simp
                | cons a l ihl =>
                  rw [List.map_cons, List.map_cons, List.sum_cons, List.flatten_cons, List.length_append]
                  have := leaves_len (szT a + 1) a (Nat.lt_succ_self _)
                  omega
              exact h2 _
            have q4 : ((x.f3.take k).map szT).sum + szT (rd_T24 x.f3 (k : Int)) ≤ (x.f3.map szT).sum := by
              have e : x.f3 = x.f3.take k ++ (x.f3[k] :: x.f3.drop (k + 1)) := by rw [List.getElem_cons_drop, List.take_append_drop]
              rw [rd_nat hlt]
              have e2 := congrArg (fun l => (l.map szT).sum) e
              simp only [List.map_append, List.map_cons, List.sum_append, List.sum_cons] at e2
              omega
            rw [List.length_append, List.length_append]
            omega
          obtain ⟨y, hy⟩ : ∃ y, y = rd_T24 x.f3 (k : Int) := ⟨_, rfl⟩
          rw [← hy] at k0 k1 k2 k3 k4 k5 hsz hy0 hyl
          have HCall := Aside0.mk (fun o => IH.out y A3 c3' v2 _ (wr.alloc o) (by have := HN.out; omega) (by omega) k4 k5 (HO2.out.alloc o).below (HO2.out.alloc o).box (HO2.out.alloc o).row hyl)
          have HY0 := Aside0.mk hy0
          clear k4 k5 hsz hy0 hyl hy hmem
          go_wp2_with (first | (go_at_call 29; (with_reducible refine (HCall.out _).mono ?_); rintro e_ w3 ⟨rfl, v3, ho⟩; have HO3 := Aside0.mk ((HO2.out.alloc _).trans ho); clear ho))
          refine ⟨⟨k + 1, v3, by go_num, by omega, ?_⟩, ?_⟩
          · rw [HY0.out, ← List.append_assoc]; exact HO3.out
          · simp [intOf]; omega
        · have d1 : decide ((k : Int) < (x.f3.length : Int)) = false := decide_eq_false (by omega)
          have d2 : (k < x.f3.length) = False := eq_false hlt
          have hkk : k = x.f3.length := by omega
          subst hkk
          clear hlt hk
          go_wp2
          go_end0
          refine ⟨rfl, v2, ?_⟩
          have e := HO2.out
          rw [List.take_length, List.append_assoc, ← leaves_eq] at e
          exact e
end Go.Proofs.YtjapfefiaijfcaaGreatDoor.Q
namespace Go.Proofs.YtjapfefiaijfcaaGreatDoor.Q
open Go.RowKit Go.Proofs.YtjapfefiaijfcaaGreatDoorW.PrintWords Go.Proofs.YtjapfefiaijfcaaGreatDoorW.PrintLast Go.Proofs.YtjapfefiaijfcaaGreatDoorW.PrintMore
set_option linter.unusedVariables false
abbrev Bs := List UInt8
theorem bs_lt {a b : Bs} (h : a ≤ b) (n : a ≠ b) : a < b := by
  by_cases hl : a < b
  · exact hl
  · exact absurd (List.le_antisymm h hl) n
/-- Two lists that rise strictly and have the same members are one. -/
theorem rise_uniq : ∀ (l m : List Bs), l.Pairwise (· < ·) → m.Pairwise (· < ·) → (∀ x, x ∈ l ↔ x ∈ m) → l = m
  | [], [], _, _, _ => rfl
  | [], b :: m, _, _, h => absurd ((h b).2 List.mem_cons_self) (by simp)
  | a :: l, [], _, _, h => absurd ((h a).1 List.mem_cons_self) (by simp)
  | a :: l, b :: m, hl, hm, h => by
    rw [List.pairwise_cons] at hl hm
    have e : a = b := by
      rcases List.mem_cons.1 ((h a).1 List.mem_cons_self) with e | ha
      · exact e
      · rcases List.mem_cons.1 ((h b).2 List.mem_cons_self) with e | hb
        · exact e.symm
        · exact absurd (List.lt_trans (hm.1 a ha) (hl.1 b hb)) (List.lt_irrefl b)
    subst e
    have := rise_uniq l m hl.2 hm.2 (fun x => by
      constructor
      · intro hx
        rcases List.mem_cons.1 ((h x).1 (List.mem_cons_of_mem _ hx)) with e | hx'
        · subst e; exact absurd (hl.1 x hx) (List.lt_irrefl x)
        · exact hx'
      · intro hx
        rcases List.mem_cons.1 ((h x).2 (List.mem_cons_of_mem _ hx)) with e | hx'
        · subst e; exact absurd (hm.1 x hx) (List.lt_irrefl x)
        · exact hx')
    rw [this]
/-- What slices.Compact leaves has the same members. -/
theorem compact_mem (zs : List Bs) (x : Bs) : x ∈ Lib.compact zs ↔ x ∈ zs := by
  unfold Lib.compact Lib.compactUpTo
  rw [List.mem_map]
  constructor
  · rintro ⟨j, hj, rfl⟩
    have hl : j < zs.length := List.mem_range.1 (List.mem_filter.1 hj).1
    have : (zs.toArray)[j]! = zs[j] := by simp [hl]
    rw [this]; exact List.getElem_mem hl
  · have key : ∀ j, (h : j < zs.length) → ∃ i, i ∈ (List.range zs.length).filter (Lib.keeps zs.toArray) ∧ zs.toArray[i]! = zs[j] := by
      intro j
      induction j with
      | zero => intro h; exact ⟨0, List.mem_filter.2 ⟨List.mem_range.2 h, by simp [Lib.keeps]⟩, by simp [h]⟩
      | succ j ih =>
        intro h
        have hj : j < zs.length := Nat.lt_of_succ_lt h
        by_cases e : zs[j + 1] = zs[j]
        · obtain ⟨i, h1, h2⟩ := ih hj
          exact ⟨i, h1, h2.trans e.symm⟩
        · refine ⟨j + 1, List.mem_filter.2 ⟨List.mem_range.2 h, ?_⟩, by simp [h]⟩
          simp [Lib.keeps, h, hj, e]
    intro hx
    obtain ⟨j, hj, rfl⟩ := List.mem_iff_getElem.1 hx
    exact key j hj
/-- What slices.Compact leaves of a list that rises, rises strictly. -/
theorem compact_rise (zs : List Bs) (h : zs.Pairwise (· ≤ ·)) : (Lib.compact zs).Pairwise (· < ·) := by
  unfold Lib.compact Lib.compactUpTo
  rw [List.pairwise_map]
  have hr : ((List.range zs.length).filter (Lib.keeps zs.toArray)).Pairwise (· < ·) := List.Pairwise.filter _ List.pairwise_lt_range
  refine List.Pairwise.imp_of_mem ?_ hr
  intro i j hi hj hij
  have hjl : j < zs.length := List.mem_range.1 (List.mem_filter.1 hj).1
  have hk := (List.mem_filter.1 hj).2
  have hil : i < zs.length := by omega
  have e1 : (zs.toArray)[i]! = zs[i] := by simp [hil]
  have e2 : (zs.toArray)[j]! = zs[j] := by simp [hjl]
  have hj1 : j - 1 < zs.length := by omega
  have e3 : (zs.toArray)[j - 1]! = zs[j - 1] := by simp [hj1]
  rw [e1, e2]
  unfold Lib.keeps at hk
  rw [e2, e3, decide_eq_true_iff] at hk
  have hne : zs[j] ≠ zs[j - 1] := by
    rcases hk with h0 | h1
    · omega
    · exact h1
  rw [List.pairwise_iff_getElem] at h
  have le1 : zs[i] ≤ zs[j - 1] := by
    rcases Nat.lt_or_ge i (j - 1) with hlt | hge
    · exact h i (j - 1) hil hj1 hlt
    · have : i = j - 1 := by omega
      subst this; exact List.le_refl _
  have le2 : zs[j - 1] ≤ zs[j] := h (j - 1) j hj1 hjl (by omega)
  exact List.lt_of_le_of_lt le1 (bs_lt le2 (fun e => hne e.symm))
def leB (x y : Bs) : Bool := decide (x ≤ y)
theorem sort_rise (zs : List Bs) : (zs.mergeSort fun x y => decide (x ≤ y)).Pairwise (· ≤ ·) := by
  have := List.pairwise_mergeSort (le := fun x y : Bs => decide (x ≤ y)) (fun a b c h1 h2 => decide_eq_true (List.le_trans (of_decide_eq_true h1) (of_decide_eq_true h2))) (fun a b => by
    rcases List.le_total a b with h | h <;> simp [h]) zs
  exact this.imp (fun h => of_decide_eq_true h)
/-- The texts of a list, sorted, each once. -/
def sortB (xs : List ByteArray) : List Bs := Lib.compact ((xs.map (·.data.toList)).mergeSort fun x y => decide (x ≤ y))
theorem sortB_rise (xs : List ByteArray) : (sortB xs).Pairwise (· < ·) := compact_rise _ (sort_rise _)
theorem sortB_mem (xs : List ByteArray) (x : Bs) : x ∈ sortB xs ↔ x ∈ xs.map (·.data.toList) := by
  unfold sortB
  rw [compact_mem, List.mem_mergeSort]
/-- The principals' texts of a tree, as the program tells them. -/
def prinB (x : S24) : List ByteArray := (sortB (leaves x)).map (fun l => ⟨l.toArray⟩)
theorem sortB_length (xs : List ByteArray) : (sortB xs).length ≤ xs.length := by
  unfold sortB
  have h : ∀ zs : List Bs, (Lib.compact zs).length ≤ zs.length := fun zs => by
    unfold Lib.compact Lib.compactUpTo
    rw [List.length_map]
    exact Nat.le_trans (List.length_filter_le _ _) (by simp)
  have := h ((xs.map (·.data.toList)).mergeSort fun x y => decide (x ≤ y))
  rw [List.length_mergeSort, List.length_map] at this
  exact this
end Go.Proofs.YtjapfefiaijfcaaGreatDoor.Q
namespace Go.Proofs.YtjapfefiaijfcaaGreatDoor.Q
open Go.RowKit Go.Proofs.YtjapfefiaijfcaaGreatDoorW.PrintWords Go.Proofs.YtjapfefiaijfcaaGreatDoorW.PrintLast Go.Proofs.YtjapfefiaijfcaaGreatDoorW.PrintMore
set_option linter.unusedVariables false
/-- Texts that are answered, with an error. -/
def TextsOut (r : List ByteArray × Int) (w : World) (e : Ending) (w' : World) : Prop := ∃ v, e = .returned (.tuple #[v, .int .i64 r.2]) ∧ Kd.R Kd.string 9 w' w.heap.size (fun _ => True) v r.1 ∧ Below w.heap.size w w'
def prinR (x : S24) : List ByteArray × Int := if okT x = true then (prinB x, 0) else ([], 151)
end Go.Proofs.YtjapfefiaijfcaaGreatDoor.Q
namespace Go.Proofs.YtjapfefiaijfcaaGreatDoor.Q
open Go.RowKit Go.Proofs.YtjapfefiaijfcaaGreatDoorW.PrintWords Go.Proofs.YtjapfefiaijfcaaGreatDoorW.PrintLast Go.Proofs.YtjapfefiaijfcaaGreatDoorW.PrintMore
open Go.Sort
set_option linter.unusedVariables false
theorem encs_Bs (xs : List ByteArray) : encs Value.string xs = (xs.map (·.data.toList)).map encStr := by
  unfold encs
  rw [List.map_map]
  refine List.map_congr_left (fun b _ => ?_)
  simp [encStr]
theorem prinB_encs (x : S24) : encs Value.string (prinB x) = (sortB (leaves x)).map encStr := by
  unfold encs prinB
  rw [List.map_map]
  exact List.map_congr_left (fun b _ => rfl)
theorem prinB_length (x : S24) : (prinB x).length = (sortB (leaves x)).length := by unfold prinB; simp
theorem sort_tail (w2 : World) (base g2 cap : Nat) (ss : List Bs) (h : w2.ownsRow base 9 1 (.slice (some ⟨g2, 0, none⟩) ss.length cap) ss.length (ss.map encStr)) (hl : ss.length ≤ 20000) :
    Calls Tryz.prog 31 #[.slice (some ⟨g2, 0, none⟩) ss.length cap] w2 fun e w3 => e = .returned (.tuple #[]) ∧ w3.ownsRow base 9 1 (.slice (some ⟨g2, 0, none⟩) ss.length cap) ss.length ((ss.mergeSort fun x y => decide (x ≤ y)).map encStr) ∧ w2.grownBy w3 (some g2) := by
  obtain ⟨g', cap', e, -, hgl, -, -, -, hH⟩ := Lib.holds_of_ownsRow h (by intro e; cases e)
  cases e
  refine (Tryz.slices_Sort_string g2 0 cap ss w2 hH hgl (by omega)).mono ?_
  rintro e w3 ⟨rfl, n, os, rfl⟩
  have hl2 : (ss.mergeSort fun x y => decide (x ≤ y)).length = ss.length := List.length_mergeSort ss
  rcases h.2 with ⟨h0, _⟩ | ⟨g', cap', cur, hv, hbase, hb, h1, h2, h3, h4⟩
  · cases h0
  cases hv
  exact ⟨rfl, ownsRow_sorted hl2 hbase hb h1 h2 h3, grownBy_sorted _⟩
theorem compact_tail (w0 w3 : World) (base g2 cap : Nat) (zs : List Bs) (h : w3.ownsRow base 9 1 (.slice (some ⟨g2, 0, none⟩) zs.length cap) zs.length (zs.map encStr)) (hl : zs.length ≤ 20000) (hb : Below base w0 w3) (hbg : base ≤ g2) :
    Calls Tryz.prog 32 #[.slice (some ⟨g2, 0, none⟩) zs.length cap] w3 fun e w4 => e = .returned (.slice (some ⟨g2, 0, none⟩) (Lib.compact zs).length cap) ∧ w4.ownsRow base 9 1 (.slice (some ⟨g2, 0, none⟩) (Lib.compact zs).length cap) (Lib.compact zs).length ((Lib.compact zs).map encStr) ∧ Below base w0 w4 := by
  obtain ⟨g', cap', e, -, hgl, hc, -, -, hH⟩ := Lib.holds_of_ownsRow h (by intro e; cases e)
  cases e
  have hle := Lib.compact_length_le zs
  refine (Tryz.slices_Compact_string g2 0 cap zs w3 hH (by omega) hc).mono ?_
  rintro e w4 ⟨rfl, q, rfl⟩
  have hcr := Lib.ownsRow_putRow (q := q) (k := (Lib.compact zs).length) (ys := Lib.compact zs ++ List.replicate (zs.length - (Lib.compact zs).length) []) h (by simp; omega) (by omega)
  rw [List.take_left] at hcr
  exact ⟨rfl, hcr, Lib.below_putRow hb hbg⟩
set_option maxHeartbeats 8000000 in
set_option maxRecDepth 100000 in
theorem lics_Principals.calls (x : S24) (A : Option Addr) (c : Nat) (w : World) (hN : szT x ≤ 9000) (hc : x.f3.length ≤ c) (hC : Kd.C k24 w A x.f3.length x.f3) :
    Calls Tryz.prog 15 #[.agg #[.int .u8 x.f0, .string x.f1, .int .i64 x.f2, .slice A x.f3.length c]] w (TextsOut (prinR x) w) := by
  have hck := fun (W : World) (hb : Below w.heap.size w W) => lics_Check.calls 10000 x A c W (by omega) (Nat.le_refl _) hc (Kd.C_below hC hb)
  have HC := Aside0.mk hC
  have Hc := Aside0.mk hc
  have HN := Aside0.mk hN
  have HCk := Aside0.mk hck
  have hb : ∀ o : Obj, Below w.heap.size w (w.alloc o) := fun o => (Below.refl _ _).alloc (Nat.le_refl _) o
  have HB := Aside0.mk hb
  have HNew := Aside0.mk (fun o : Obj => blk_new w o)
  clear hck hC hc hN hb
  by_cases h : okT x = true
  · have hr : prinR x = (prinB x, 0) := by unfold prinR; rw [if_pos h]
    have he : errT x = 0 := by unfold errT; rw [if_pos h]
    rw [he] at HCk
    have HR := Aside0.mk hr
    clear hr he h
    go_enter Tryz.func15, Tryz.ntmps15
    go_wp2_with (first | (go_at_call 17; (with_reducible refine (HCk.out _ (HB.out _)).mono ?_); rintro e_ w1 ⟨rfl, hb1⟩; have HB1 := Aside0.mk (below_step (HB.out _) hb1); have BL1 := Aside0.mk (blk_below (HNew.out _) hb1); have l0 := fun o => blk_cell (blk_alloc BL1.out o) 0; have l1 := fun o => blk_cell (blk_alloc BL1.out o) 1; have l2 := fun o => blk_cell (blk_alloc BL1.out o) 2; have l3 := fun o => blk_cell (blk_alloc BL1.out o) 3; clear hb1))
    go_wp2_with (first | (go_at_call 29; (with_reducible refine (lics_each.calls w w1.heap.size HB1.out.size 10000 x A c (.slice none 0 0) [] _ (Nat.lt_of_le_of_lt HN.out (by decide)) (Nat.le_refl _) Hc.out HC.out (HB1.out.alloc HB1.out.size _) (blk_new w1 _) (Kd.R_nil _ _ _ _ _) (by have := HN.out; simp; omega)).mono ?_); rintro e_ w2 ⟨rfl, v2, ho⟩; have HO2 := Aside0.mk ho; have m0 : w2.cell? ⟨w1.heap.size, 0, none⟩ = some v2 := (blk_cell ho.box 0).trans rfl; clear ho))
    have how := Kd.own_of_R (enc := Value.string) (h1 := fun _ => rfl) HO2.out.row
    rw [encs_Bs, List.nil_append] at how
    obtain ⟨ss, hss⟩ : ∃ ss, ss = (leaves x).map (·.data.toList) := ⟨_, rfl⟩
    have hsl : ss.length = (leaves x).length := by rw [hss, List.length_map]
    have hle := leaves_len 10000 x (Nat.lt_of_le_of_lt HN.out (by decide))
    have hl9 : ss.length ≤ 9000 := by have := HN.out; omega
    rw [← hss, ← hsl] at how
    have hpl : prinB x = (Lib.compact (ss.mergeSort fun x y => decide (x ≤ y))).map (fun l => ⟨l.toArray⟩) := by unfold prinB sortB; rw [hss]
    have HPl := Aside0.mk hpl
    have HL9 := Aside0.mk hl9
    clear hss hsl hle hl9 hpl
    rcases how.2 with ⟨hv, hnil⟩ | ⟨g2, cap, cur, hv, hbase, hbk, -⟩
    · have hs0 : ss = [] := by simpa using hnil
      have HS0 := Aside0.mk hs0
      subst hv
      clear hs0 hnil how
      go_wp2_with (first | (go_at_call 31; (with_reducible refine (Tryz.slices_Sort_string_none _ _ _).mono ?_); rintro e_ w3 ⟨rfl, rfl⟩) | (go_at_call 32; (with_reducible refine (Tryz.slices_Compact_string_empty _ _ _).mono ?_); rintro e_ w4 ⟨rfl, rfl⟩))
      go_ret2
      have e0 : prinB x = [] := by rw [HPl.out, HS0.out, List.mergeSort_nil]; rfl
      refine ⟨.slice none 0 0, by rw [HR.out]; rfl, ?_, HO2.out.below⟩
      rw [HR.out, e0]
      exact Kd.R_nil _ _ _ _ _
    · subst hv
      have HNe := Aside0.mk (HO2.out.row.1 g2 rfl)
      have HBx := Aside0.mk HO2.out.box
      have HOw := Aside0.mk how
      have HBase := Aside0.mk hbase
      have hl2 : (ss.mergeSort fun x y => decide (x ≤ y)).length = ss.length := List.length_mergeSort ss
      have HL2 := Aside0.mk hl2
      have hsort := sort_tail w2 w.heap.size g2 cap ss how (by have := HL9.out; omega)
      have HSort := Aside0.mk hsort
      clear how hbase hbk hl2 hsort
      go_wp2_with (first | (go_at_call 31; (with_reducible refine (HSort.out).mono ?_); rintro e_ w3 ⟨rfl, ho3, hg3⟩; have HO3 := Aside0.mk ho3; have HG3 := Aside0.mk hg3; have m1 : w3.cell? ⟨w1.heap.size, 0, none⟩ = some (.slice (some ⟨g2, 0, none⟩) ss.length cap) := (blk_cell (blk_grown HBx.out hg3 (fun h => HNe.out (Option.some.inj h).symm)) 0).trans rfl; clear ho3 hg3 m0))
      have ho3 := HO3.out
      rw [← HL2.out] at ho3
      have hbw3 : Below w.heap.size w w3 := HO2.out.below.grown HG3.out HO2.out.below.size (fun j hj => by cases hj; exact HBase.out)
      have hcomp := compact_tail w w3 w.heap.size g2 cap _ ho3 (by rw [HL2.out]; have := HL9.out; omega) hbw3 HBase.out
      rw [HL2.out] at hcomp
      have HComp := Aside0.mk hcomp
      clear ho3 hbw3 hcomp
      go_wp2_with (first | (go_at_call 32; (with_reducible refine (HComp.out).mono ?_); rintro e_ w4 ⟨rfl, ho4, hb4⟩; have HO4 := Aside0.mk ho4; have HB4 := Aside0.mk hb4; clear ho4 hb4))
      go_ret2
      refine ⟨_, by rw [HR.out]; rfl, ?_, HB4.out⟩
      have e := HO4.out
      have e1 : encs Value.string (prinB x) = (Lib.compact (ss.mergeSort fun x y => decide (x ≤ y))).map encStr := by
        rw [HPl.out]; unfold encs; rw [List.map_map]; exact List.map_congr_left (fun b _ => rfl)
      have e2 : (prinB x).length = (Lib.compact (ss.mergeSort fun x y => decide (x ≤ y))).length := by rw [HPl.out, List.length_map]
      rw [HR.out]
      refine Kd.R_of_own (enc := Value.string) (h1 := fun _ => rfl) ?_ (fun _ _ => trivial)
      show w4.ownsRow _ 9 1 _ (prinB x).length (encs Value.string (prinB x))
      rw [e1, e2]
      exact e
  · have hr : prinR x = ([], 151) := by unfold prinR; rw [if_neg h]
    have he : errT x = 151 := by unfold errT; rw [if_neg h]
    rw [he] at HCk
    have HR := Aside0.mk hr
    clear hr he h
    go_enter Tryz.func15, Tryz.ntmps15
    go_wp2_with (first | (go_at_call 17; (with_reducible refine (HCk.out _ (HB.out _)).mono ?_); rintro e_ w1 ⟨rfl, hb1⟩; have HB1 := Aside0.mk (below_step (HB.out _) hb1); have BL1 := Aside0.mk (blk_below (HNew.out _) hb1); clear hb1; have l0 := blk_cell BL1.out 0; have l1 := blk_cell BL1.out 1; have l2 := blk_cell BL1.out 2; have l3 := blk_cell BL1.out 3))
    go_ret2
    refine ⟨.slice none 0 0, by rw [HR.out]; rfl, ?_, HB1.out⟩
    rw [HR.out]
    exact Kd.R_nil _ _ _ _ _
end Go.Proofs.YtjapfefiaijfcaaGreatDoor.Q
