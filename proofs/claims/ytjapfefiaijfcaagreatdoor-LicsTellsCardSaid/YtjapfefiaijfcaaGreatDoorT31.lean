/- The contracts of each and of its closure: the texts of a tree's principals, gathered in order. -/
import Derived.Test.YtjapfefiaijfcaaGreatDoorT0
import Derived.IntWalk
import Derived.Deep.CutRange
import Derived.Deep.CutBlock
namespace Go.Proofs.YtjapfefiaijfcaaGreatDoor.Q
open Go.RowKit Go.Proofs.YtjapfefiaijfcaaGreatDoorW.PrintWords Go.Proofs.YtjapfefiaijfcaaGreatDoorW.PrintLast Go.Proofs.YtjapfefiaijfcaaGreatDoorW.PrintMore
set_option linter.unusedVariables false
/-- What a call leaves that puts texts behind those of a row whose header lies in block g. -/
structure OutAt (w0 w : World) (g : Nat) (v : Value) (ys : List ByteArray) (w' : World) (v' : Value) : Prop where
  box : w'.heap[g]? = some (.cells #[v'] 34 (0, 0))
  row : Kd.R Kd.string 9 w' w0.heap.size (fun k => k ≠ g) v' ys
  own : v'.ownBlock = v.ownBlock ∨ ∃ b, v'.ownBlock = some b ∧ w.heap.size ≤ b
  below : Below w0.heap.size w0 w'
  keep : KeepBut w w' g v.ownBlock
def OutPost (w0 w : World) (g : Nat) (v : Value) (ys : List ByteArray) (e : Ending) (w' : World) : Prop := e = .returned (.tuple #[]) ∧ ∃ v', OutAt w0 w g v ys w' v'
theorem len_snoc (xs : List ByteArray) (s : ByteArray) : (xs ++ [s]).length = xs.length + 1 := by simp
set_option maxHeartbeats 8000000 in
set_option maxRecDepth 100000 in
theorem lics_Principals1.calls (w0 : World) (g : Nat) (s : ByteArray) (v : Value) (xs : List ByteArray) (w : World) (hb : Below w0.heap.size w0 w) (hg : w.heap[g]? = some (.cells #[v] 34 (0, 0)))
    (hR : Kd.R Kd.string 9 w w0.heap.size (fun k => k ≠ g) v xs) (hB : w0.heap.size ≤ g) (hl : xs.length < 1000000) :
    Calls Tryz.prog 30 #[.string s, .pointer (some ⟨g, 0, none⟩)] w (OutPost w0 w g v (xs ++ [s])) := by
  have c0 : w.cell? ⟨g, 0, none⟩ = some v := (blk_cell hg 0).trans rfl
  have z0 := blk_frozen hg 0
  have HB := Aside0.mk hb
  have HG := Aside0.mk hg
  have HR := Aside0.mk hR
  have HL := Aside0.mk hl
  have HBg := Aside0.mk hB
  have HGl := Aside0.mk (blk_lt hg)
  have HA := Aside0.mk (Kd.R_away hR (fun k hk => hk))
  clear hb hg hR hl hB
  go_enter Tryz.func30, Tryz.ntmps30
  go_wp2_with (first | ((with_reducible refine gate_builtin (b := .append) (xs := #[.tmp 3, .tmp 5]) rfl ?_); at_builtin; refine Kd.R_append Kd.string (w0 := w0) w0.heap.size rfl (.tmp 3) (.tmp 5) 34 9 (.string ⟨#[]⟩) 16 rfl Tryz.underlying34 info9 rfl (by decide) (by omega) v xs s [.string s] (fun k => k ≠ g) (fun _ => False) rfl rfl ?aP (fun _ hk => hk.elim) ?aF HR.out HB.out ?aS ?aL ?_; (case aP => exact rfl); (case aF => intro k hk; have := HGl.out; omega); (case aS => exact HB.out.size); (case aL => have := HL.out; omega); intro v1 w1 ho hb1 hgr hat; obtain ⟨A1, cap1, rfl⟩ := Kd.R_slice ho; rw [len_snoc] at ho hat; have HO := Aside0.mk ho; have HB1 := Aside0.mk hb1; have HGr := Aside0.mk hgr; have HAt := Aside0.mk hat; have b1 := blk_grown HG.out hgr HA.out; have c1 : w1.cell? ⟨g, 0, none⟩ = some v := (blk_cell b1 0).trans rfl; have z1 := blk_frozen b1 0; have HG1 := Aside0.mk b1; clear ho hb1 hgr hat b1 c0 z0))
  go_end0
  exact ⟨rfl, _, blk_put HG1.out 0 _ rfl, Kd.R_far (p := ⟨g, 0, none⟩) HO.out (fun k hk => hk) _, HAt.out, HB1.out.setCell (p := ⟨g, 0, none⟩) HBg.out _, (KeepBut.of_grown HGr.out g).set_ 0 _⟩
/-- The texts of a tree's principals, in order. -/
def headL (x : S24) : List ByteArray := if x.f0 = 1 then [x.f1] else []
def leaves (x : S24) : List ByteArray := headL x ++ (x.f3.attach.map (fun ⟨y, hy⟩ => leaves y)).flatten
termination_by SizeOf.sizeOf x
decreasing_by exact S24.lt_mem hy
theorem leaves_eq (x : S24) : leaves x = headL x ++ (x.f3.map leaves).flatten := by
  rw [leaves]
  congr 2
  simp
theorem headL_len (x : S24) : (headL x).length ≤ 1 := by unfold headL; split <;> simp
theorem leaves_len (N : Nat) : ∀ x : S24, szT x < N → (leaves x).length ≤ szT x := by
  induction N with
  | zero => exact fun x h => absurd h (Nat.not_lt_zero _)
  | succ N ih =>
    intro x hN
    rw [leaves_eq, szT_eq, List.length_append, List.length_flatten, List.map_map]
    have h1 := headL_len x
    have h2 : ∀ l : List S24, (∀ y ∈ l, (leaves y).length ≤ szT y) → (l.map (List.length ∘ leaves)).sum ≤ (l.map szT).sum := by
      intro l
      induction l with
      | nil => intro _; simp
      | cons a l ihl =>
        intro h
        rw [List.map_cons, List.map_cons, List.sum_cons, List.sum_cons]
        have q1 := h a List.mem_cons_self
        have q2 := ihl (fun y hy => h y (List.mem_cons_of_mem _ hy))
        show (leaves a).length + _ ≤ _
        omega
    have h3 := h2 x.f3 (fun y hy => ih y (by have := szT_mem hy; omega))
    omega
theorem OutAt.refl {w0 w : World} {g : Nat} {v : Value} {xs : List ByteArray} (hb : Below w0.heap.size w0 w) (hg : w.heap[g]? = some (.cells #[v] 34 (0, 0))) (hR : Kd.R Kd.string 9 w w0.heap.size (fun k => k ≠ g) v xs) : OutAt w0 w g v xs w v :=
  ⟨hg, hR, .inl rfl, hb, KeepBut.refl _ _ _⟩
theorem OutAt.alloc {w0 w w1 : World} {g : Nat} {v v1 : Value} {xs : List ByteArray} (h : OutAt w0 w g v xs w1 v1) (o : Obj) : OutAt w0 w g v xs (w1.alloc o) v1 :=
  ⟨blk_alloc h.box o, Kd.R_alloc h.row o, h.own, h.below.alloc h.below.size o, h.keep.trans (KeepBut.of_grown (World.grownBy_alloc w1 o v.ownBlock) g) (.inl rfl)⟩
theorem OutAt.trans {w0 w w1 w2 : World} {g : Nat} {v v1 v2 : Value} {xs ys : List ByteArray} (h : OutAt w0 w g v xs w1 v1) (k : OutAt w0 w1 g v1 ys w2 v2) : OutAt w0 w g v ys w2 v2 := by
  refine ⟨k.box, k.row, ?_, k.below, h.keep.trans k.keep ?_⟩
  · rcases k.own with e | ⟨b, e, hb⟩
    · rw [e]; exact h.own
    · exact .inr ⟨b, e, Nat.le_trans h.keep.1 hb⟩
  · exact h.own
theorem OutAt.drewN {w0 w w1 : World} {g : Nat} {v v1 : Value} {xs : List ByteArray} (h : OutAt w0 w g v xs w1 v1) (n : Nat) : OutAt w0 w g v xs (w1.drewN n) v1 :=
  ⟨blk_drewN h.box n, Kd.R_drewN h.row n, h.own, pw_below_drewN h.below n, keep_drewN h.keep n⟩
theorem OutAt.blk {w0 w w1 : World} {g b : Nat} {v v1 : Value} {xs : List ByteArray} {o : Obj} (h : OutAt w0 w g v xs w1 v1) (hb : w.heap[b]? = some o) (hg : b ≠ g) (hv : some b ≠ v.ownBlock) : w1.heap[b]? = some o := h.keep.blk hb hg hv
set_option maxHeartbeats 8000000 in
set_option maxRecDepth 100000 in
theorem lics_each.calls (w0 : World) (g : Nat) (hB : w0.heap.size ≤ g) (N : Nat) : ∀ (x : S24) (A : Option Addr) (c : Nat) (v : Value) (xs : List ByteArray) (w : World), szT x < N → N ≤ 10000 → x.f3.length ≤ c → Kd.C k24 w0 A x.f3.length x.f3 → Below w0.heap.size w0 w →
    w.heap[g]? = some (.cells #[v] 34 (0, 0)) → Kd.R Kd.string 9 w w0.heap.size (fun k => k ≠ g) v xs → xs.length + szT x ≤ 20000 →
    Calls Tryz.prog 29 #[.agg #[.int .u8 x.f0, .string x.f1, .int .i64 x.f2, .slice A x.f3.length c], .func (.func 30) #[] #[.pointer (some ⟨g, 0, none⟩)]] w (OutPost w0 w g v (xs ++ leaves x)) := by
  induction N with
  | zero => exact fun x A c v xs w h => absurd h (Nat.not_lt_zero _)
  | succ N ih =>
    intro x A c v xs w hN hN2 hc hC hb hg hR hl
    have hlen := szT_len x
    have hgl := blk_lt hg
    have hvl : ∀ k, v.ownBlock = some k → k < w.heap.size := fun k hk => Kd.R_lt hR k hk
    have HO := Aside0.mk (OutAt.refl hb hg hR)
    have HC := Aside0.mk hC
    have IH := Aside0.mk ih
    have HN := Aside0.mk hN
    have HL := Aside0.mk hl
    have HGl := Aside0.mk hgl
    have HVl := Aside0.mk hvl
    clear ih hC hN hb hg hR hl hgl hvl
    go_enter Tryz.func29, Tryz.ntmps29
    go_upto_if 8 with (fail)
    go_cut [] (fun wc => (∃ v1, OutAt w0 w g v (xs ++ headL x) wc v1) ∧ wc.heap[w.heap.size]? = some (.cells #[.int .u8 x.f0, .string x.f1, .int .i64 x.f2, .slice A x.f3.length c] 24 (0, 0)))
    case first =>
      have hbx := blk_new w (.cells #[.int .u8 x.f0, .string x.f1, .int .i64 x.f2, .slice A x.f3.length c] 24 (0, 0))
      have HBx := Aside0.mk hbx
      have l1 := blk_cell hbx 1
      clear hbx
      by_cases h1 : x.f0 = 1
      · have e1 : (x.f0 == 1) = true := by simp [h1]
        have HH : Aside0 (headL x = [x.f1]) := ⟨by unfold headL; rw [if_pos h1]⟩
        clear h1
        go_wp2_with (first | (go_at_call 30; (with_reducible refine (lics_Principals1.calls w0 g x.f1 v xs _ (HO.out.alloc _).below (HO.out.alloc _).box (HO.out.alloc _).row hB (by have := HL.out; omega)).mono ?_); rintro e_ w1 ⟨rfl, v1, ho⟩; have HO1 := Aside0.mk ho; clear ho))
        go_meet
        case rel =>
          rw [HH.out]
          exact ⟨⟨_, (HO.out.alloc _).trans HO1.out⟩, HO1.out.blk HBx.out (by have := HGl.out; omega) (fun h => by have := HVl.out _ h.symm; omega)⟩
      · have e1 : (x.f0 == 1) = false := by simp [h1]
        have HH : Aside0 (headL x = []) := ⟨by unfold headL; rw [if_neg h1]⟩
        clear h1
        go_wp2
        go_meet
        case rel =>
          rw [HH.out, List.append_nil]
          exact ⟨⟨_, HO.out.alloc _⟩, HBx.out⟩
    case rest =>
      obtain ⟨⟨v1, ho⟩, hbx⟩ := hcut
      have HO1 := Aside0.mk ho
      have l3 := blk_cell hbx 3
      have HBx := Aside0.mk hbx
      clear ho hbx HO
      go_wp2
      go_loopw [16] (fun i wr => ∃ (k : Nat) (v2 : Value), i = .int .i64 k ∧ k ≤ x.f3.length ∧ OutAt w0 w g v (xs ++ headL x ++ ((x.f3.take k).map leaves).flatten) wr v2) (fun i wr => x.f3.length - (intOf i).toNat)
      case atStart => exact ⟨0, v1, rfl, Nat.zero_le _, by simpa using HO1.out⟩
      case round =>
        obtain ⟨k, v2, rfl, hk, ho⟩ := hrel
        have HO2 := Aside0.mk ho
        clear ho l3
        by_cases hlt : k < x.f3.length
        · have d1 : decide ((k : Int) < (x.f3.length : Int)) = true := decide_eq_true (by omega)
          have d2 : (k < x.f3.length) = True := eq_true hlt
          have d3 : ((k : Int) < (x.f3.length : Int)) = True := eq_true (by omega)
          have d4 : (0 ≤ (k : Int)) = True := eq_true (by omega)
          have q4 : IntKind.i64.wrap ((k : Int) + 1) = (k : Int) + 1 := IntWalk.i64_in _ (by have := HN.out; omega)
          obtain ⟨ad, A3, c3', e0, k0, k1, k2, k3, k4, k5⟩ := at_T24 HC.out (k : Int) (by omega) (by omega)
          subst e0
          rw [Int.toNat_natCast] at k0 k1 k2 k3
          replace k0 := pw_cell_below HO2.out.below k0
          replace k1 := pw_cell_below HO2.out.below k1
          replace k2 := pw_cell_below HO2.out.below k2
          replace k3 := pw_cell_below HO2.out.below k3
          have hmem : rd_T24 x.f3 (k : Int) ∈ x.f3 := by rw [rd_nat hlt]; exact List.getElem_mem hlt
          have hsz := szT_mem hmem
          have hy0 : ((x.f3.take (k + 1)).map leaves).flatten = ((x.f3.take k).map leaves).flatten ++ leaves (rd_T24 x.f3 (k : Int)) := by
            rw [List.take_succ_eq_append_getElem hlt, List.map_append, List.flatten_append, rd_nat hlt]; simp
          have hyl : (xs ++ headL x ++ ((x.f3.take k).map leaves).flatten).length + szT (rd_T24 x.f3 (k : Int)) ≤ 20000 := by
            have q := HL.out
            have q1 := headL_len x
            have q2 := szT_eq x
            have q3 : (((x.f3.take k).map leaves).flatten).length ≤ ((x.f3.take k).map szT).sum := by
              have h2 : ∀ l : List S24, (l.map leaves).flatten.length ≤ (l.map szT).sum := by
                intro l
                induction l with
                | nil => simp
                | cons a l ihl =>
                  rw [List.map_cons, List.map_cons, List.sum_cons, List.flatten_cons, List.length_append]
                  have := leaves_len (szT a + 1) a (Nat.lt_succ_self _)
                  omega
              exact h2 _
            have q4 : ((x.f3.take k).map szT).sum + szT (rd_T24 x.f3 (k : Int)) ≤ (x.f3.map szT).sum := by
              have e : x.f3 = x.f3.take k ++ (x.f3[k] :: x.f3.drop (k + 1)) := by rw [List.getElem_cons_drop, List.take_append_drop]
              rw [rd_nat hlt]
              have e2 := congrArg (fun l => (l.map szT).sum) e
              simp only [List.map_append, List.map_cons, List.sum_append, List.sum_cons] at e2
              omega
            rw [List.length_append, List.length_append]
            omega
          obtain ⟨y, hy⟩ : ∃ y, y = rd_T24 x.f3 (k : Int) := ⟨_, rfl⟩
          rw [← hy] at k0 k1 k2 k3 k4 k5 hsz hy0 hyl
          have HCall := Aside0.mk (fun o => IH.out y A3 c3' v2 _ (wr.alloc o) (by have := HN.out; omega) (by omega) k4 k5 (HO2.out.alloc o).below (HO2.out.alloc o).box (HO2.out.alloc o).row hyl)
          have HY0 := Aside0.mk hy0
          clear k4 k5 hsz hy0 hyl hy hmem
          go_wp2_with (first | (go_at_call 29; (with_reducible refine (HCall.out _).mono ?_); rintro e_ w3 ⟨rfl, v3, ho⟩; have HO3 := Aside0.mk ((HO2.out.alloc _).trans ho); clear ho))
          refine ⟨⟨k + 1, v3, by go_num, by omega, ?_⟩, ?_⟩
          · rw [HY0.out, ← List.append_assoc]; exact HO3.out
          · simp [intOf]; omega
        · have d1 : decide ((k : Int) < (x.f3.length : Int)) = false := decide_eq_false (by omega)
          have d2 : (k < x.f3.length) = False := eq_false hlt
          have hkk : k = x.f3.length := by omega
          subst hkk
          clear hlt hk
          go_wp2
          go_end0
          refine ⟨rfl, v2, ?_⟩
          have e := HO2.out
          rw [List.take_length, List.append_assoc, ← leaves_eq] at e
          exact e
end Go.Proofs.YtjapfefiaijfcaaGreatDoor.Q
