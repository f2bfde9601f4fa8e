/- The contract of the scanner's string, at the texts that this claim's own body has. -/
import Derived.Test.YtjapfefiaijfcaaGreatDoorQx0
import Derived.Test.YtjapfefiaijfcaaGreatDoorT1
import Derived.StillTailTactics
import Derived.ScopeJumps
import Derived.WalkMore
namespace Go.Proofs.YtjapfefiaijfcaaGreatDoor.Q
open Go.RowKit Go.Proofs.YtjapfefiaijfcaaGreatDoorW.PrintWords Go.Proofs.YtjapfefiaijfcaaGreatDoorW.PrintLast Go.Proofs.YtjapfefiaijfcaaGreatDoorW.PrintMore
set_option linter.unusedVariables false
/-- a scope's passes from a label, so many at most. -/
def Passes (P : Program) (rest : Code) (l : Nat) (Q : Exit → Act → World → Prop) : Nat → Act → World → Prop
  | 0, _, _ => False
  | n + 1, a, w => rest.wp P (Exit.jump l (Passes P rest l Q n) Q) a w
theorem least_of {p : Nat → Prop} (h : ∃ m, p m) : ∃ m, p m ∧ ∀ k, p k → m ≤ k := by
  obtain ⟨m, hm⟩ := h
  induction m using Nat.strongRecOn with
  | _ m ih =>
    by_cases q : ∃ k, k < m ∧ p k
    · obtain ⟨k, hk, hp⟩ := q; exact ih k hk hp
    · exact ⟨m, hm, fun k hp => Nat.le_of_not_lt (fun hk => q ⟨k, hk, hp⟩)⟩
open Classical in
noncomputable def leastNo (p : Nat → Prop) : Nat := if h : ∃ m, p m then Classical.choose (least_of h) else 0
theorem leastNo_spec {p : Nat → Prop} (h : ∃ m, p m) : p (leastNo p) ∧ ∀ k, p k → leastNo p ≤ k := by
  unfold leastNo; rw [dif_pos h]; exact Classical.choose_spec (least_of h)
theorem wp_scope_passes {P : Program} {c rest : Code} {Q : Exit → Act → World → Prop} {a : Act} {w : World} (l n : Nat) (hf : findLabel c l = some rest)
    (h : c.wp P (Exit.jump l (Passes P rest l Q n) Q) a w) : (Code.scope c).wp P Q a w := by
  refine wp_scope_jumps l (fun a w => ∃ m, Passes P rest l Q m a w) (fun a w => leastNo fun m => Passes P rest l Q m a w) hf ?_ ?_
  · refine wp_mono h (fun e a' w' q => ?_)
    cases e <;> first | exact q | exact ⟨q.1, n, q.2⟩
  · intro a w hm
    have hs := (leastNo_spec hm).1
    obtain ⟨k, hk⟩ : ∃ k, (leastNo fun m => Passes P rest l Q m a w) = k := ⟨_, rfl⟩
    rw [hk] at hs ⊢
    cases k with
    | zero => exact hs.elim
    | succ k =>
      refine wp_mono hs (fun e a' w' q => ?_)
      cases e with
      | goto l' =>
        obtain ⟨q1, q2⟩ := q
        have := (leastNo_spec (p := fun m => Passes P rest l Q m a' w') ⟨k, q2⟩).2 k q2
        exact ⟨q1, ⟨k, q2⟩, by omega⟩
      | _ => exact q
theorem below_set' {w W : World} {j : Nat} {v : Value} (h : Below w.heap.size w W) : Below w.heap.size w (W.setCell ⟨w.heap.size, j, none⟩ v) := h.setCell (Nat.le_refl _) _
theorem still_tail {P : Program} {id : Nat} {Q : Exit → Act → World → Prop} {a : Act} {w : World} {l : List Oper} (n : Nat) (hm : P.follows .mixedOrders = true) (hB : Region.lexTailB .any l.toArray n = true)
    (h : wpStill P l.toArray w.drew (fun a' => wpList P l.toArray Q (l.drop n) a' w.drew) (l.take n) a) : (Code.region id l.toArray true).wp P Q a w := wp_region_still_tail n hm hB h
set_option maxHeartbeats 8000000 in
set_option maxRecDepth 100000 in
/-- a string of one byte. -/
theorem tokens_str_one.calls (g : Nat) (s : ByteArray) (i : Nat) (c : Int) (w : World) (hS : Scan w g s i) (hs : s.size ≤ 65536) (hi : i + 2 < s.size) (hc : c = bt s ((i + 1 : Nat) : Int)) (h1 : c ≠ 34) (h2 : c ≠ 10) (h3 : c ≠ 92) (h4 : bt s ((i + 2 : Nat) : Int) = 34) :
    Calls Tryz.prog 102 #[.pointer (some ⟨g, 0, none⟩)] w fun e w' => e = .returned (.tuple #[.agg #[.int .u8 4, .string (strOfNums [c]), .int .i64 i, .int .i64 ((i : Int) + 3)], .int .i64 0, .int .i64 0]) ∧ Below w.heap.size w w' := by
  have HS := Aside0.mk hS
  have hB : ∀ o : Obj, Below w.heap.size w (w.alloc o) := fun o => (Below.refl _ _).alloc (Nat.le_refl _) o
  have f0 : ∀ o : Obj, (w.alloc o).cell? ⟨g, 0, none⟩ = some (.string s) := fun o => (hS.keep (hB o)).c0
  have f1 : ∀ o : Obj, (w.alloc o).cell? ⟨g, 1, none⟩ = some (.int .i64 i) := fun o => (hS.keep (hB o)).c1
  have HB := Aside0.mk hB
  have d1 : (c == 34) = false := beq_eq_false_iff_ne.mpr h1
  have d2 : (c == 10) = false := beq_eq_false_iff_ne.mpr h2
  have d3 : (c == 92) = false := beq_eq_false_iff_ne.mpr h3
  have b1 : ∀ h : i + 1 < s.size, ((s[i + 1]'h).toNat : Int) = c := fun h => by rw [bt_atN' s (i + 1) h, hc]
  have b2 : ∀ h : i + 1 + 1 < s.size, ((s[i + 1 + 1]'h).toNat : Int) = 34 := fun h => by rw [bt_atN' s (i + 1 + 1) h]; exact h4
  have l1 : decide ((s.size : Int) ≤ (i : Int) + 1) = false := decide_eq_false (by omega)
  have l2 : decide ((s.size : Int) ≤ (i : Int) + 1 + 1) = false := decide_eq_false (by omega)
  have z1 : ((i : Int) + 1 < (s.size : Int)) = True := eq_true (by omega)
  have z2 : ((i : Int) + 1 + 1 < (s.size : Int)) = True := eq_true (by omega)
  have z5 : (0 ≤ (i : Int) + 1 + 1) = True := eq_true (by omega)
  have z6 : (0 ≤ (i : Int) + 1) = True := eq_true (by omega)
  have z3 : (i + 1 < s.size) = True := eq_true (by omega)
  have z4 : (i + 1 + 1 < s.size) = True := eq_true (by omega)
  clear hB hS h1 h2 h3 hc h4
  go_enter Tryz.func102, Tryz.ntmps102
  go_wp2
  refine wp_scope_passes 0 2 rfl ?_
  go_wp2
  go_step3
  generalize hv0 : (Value.slice none 0 0) = v0
  have HV0 := Aside0.mk hv0
  clear hv0
  go_wp2_with (first | ((with_reducible refine gate_builtin (b := .append) (xs := #[.tmp 57, .tmp 59]) rfl ?_); (try (refine gate_guard (by rfl) ?_; dsimp only)); at_builtin; refine Kd.R_append (Kd.int .u8) (w0 := w) w.heap.size rfl (.tmp 57) (.tmp 59) 48 5 (.int .u8 0) 1 rfl Tryz.underlying48 info5 rfl (by decide) (by omega) v0 ([] : List Int) c [.int .u8 c] (fun k_ => k_ ≠ w.heap.size) (fun _ => False) rfl ?aX ?aP (fun _ hk => hk.elim) ?aF ?aO ?aB ?aS ?aL ?_; (case aX => simp [Act.eval]); (case aP => exact rfl); (case aB => exact HB.out _); (case aF => (intro k hk; have hk2 : w.heap.size + 1 ≤ k := (by simpa using hk); exact fun e_ => by omega)); (case aO => (rw [← HV0.out]; exact Kd.R_nil _ _ _ _ _)); (case aS => simp); (case aL => simp); intro v1 w1 ho hb hg hat; have HO1 := Aside0.mk ho; have HB1 := Aside0.mk hb; have HG1 := Aside0.mk hg; clear ho hb hg hat))
  go_step3
  refine ⟨rfl, ?_⟩
  have hb1 := HB1.out
  have g0 := (HS.out.keep hb1).c0
  have g1 := (HS.out.keep hb1).c1
  have hcv0 : (convert 48 9 v1).run Tryz.prog w1 = .ok (.string (strOfNums [c])) w1 := by
    obtain ⟨A, cp, e, _, hr⟩ := Kd.R_reads HO1.out
    rw [e]
    exact Kd.C_string Tryz.underlying48 Tryz.underlying5 Tryz.underlying9 hr
  have hcv : (convert 48 9 v1).run Tryz.prog w1.drew = .ok (.string (strOfNums [c])) w1.drew := by
    obtain ⟨A, cp, e, _, hr⟩ := Kd.R_reads HO1.out
    rw [e]
    exact Kd.C_string Tryz.underlying48 Tryz.underlying5 Tryz.underlying9 hr
  have hblk : w1.heap[w.heap.size]? = some (.cells #[.int .u8 0, .string ⟨#[]⟩, .int .i64 0, .int .i64 0] 70 (0, 0)) := by
    have hg := HG1.out
    rw [← HV0.out] at hg
    exact blk_grown (blk_new w _) hg (by simp [Value.ownBlock])
  have q0 := blk_cell hblk 0
  have q1 := blk_cell hblk 1
  have q2 := blk_cell hblk 2
  have q3 := blk_cell hblk 3
  have k0 := blk_frozen hblk 0
  have k1 := blk_frozen hblk 1
  have k2 := blk_frozen hblk 2
  have k3 := blk_frozen hblk 3
  have HK := Aside0.mk hblk
  clear hb1 f0 f1 hblk
  show Code.wp _ _ _ _ _
  go_wp2
  refine still_tail 8 (by kernel_rfl) (by kernel_rfl) ?_
  simp only [List.take_succ_cons, List.take_zero, List.drop_succ_cons, List.drop_zero]
  repeat still_step
  try refine wpStill_nil ?_
  go_wp2
  simp only [Exit.jump]
  have R := blk_set (blk_set (blk_set (blk_set HK.out 0 (.int .u8 4)) 1 (.string (strOfNums [c]))) 2 (.int .i64 i)) 3 (.int .i64 ((i : Int) + 1 + 1 + 1))
  have e0 := blk_cell R 0
  have e1 := blk_cell R 1
  have e2 := blk_cell R 2
  have e3 := blk_cell R 3
  refine bodyPost_ret (v := .tuple #[.agg #[.int .u8 4, .string (strOfNums [c]), .int .i64 i, .int .i64 ((i : Int) + 1 + 1 + 1)], .int .i64 0, .int .i64 0]) ?_ rfl ⟨?_, ?_⟩
  · simp [results, Tryz.results102, go_sem, e0, e1, e2, e3]
  · rw [show (i : Int) + 1 + 1 + 1 = (i : Int) + 3 from by omega]
  · repeat (first | apply below_set' | exact pw_below_drewN HB1.out _ | apply below_drew1 | exact HB1.out)
end Go.Proofs.YtjapfefiaijfcaaGreatDoor.Q
