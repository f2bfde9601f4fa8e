/- The contract of Tokens: the list, given the tokens as a relation; the tokens of the closed body that the law asks. -/
import Derived.Test.YtjapfefiaijfcaaGreatDoorQx0
import Derived.Test.YtjapfefiaijfcaaGreatDoorT6
import Derived.RangeFuncRecord
import Derived.Maps.OwnIn
namespace Go.Proofs.YtjapfefiaijfcaaGreatDoor.Q
open Go.RowKit Go.Proofs.YtjapfefiaijfcaaGreatDoorW.PrintWords Go.Proofs.YtjapfefiaijfcaaGreatDoorW.PrintLast Go.Proofs.YtjapfefiaijfcaaGreatDoorW.PrintMore
set_option linter.unusedVariables false
attribute [local go_sem] Oper.semAt_some
/-- What one round of the loop over a scanner's tokens leaves: its own state one token on; the scanner, its box, the newest block and whatever is no cells as they were. -/
def RoundOK (I : S70 → World → Prop) (g bx : Nat) (N : Nat) (x : S70) (W0 W W' : World) : Prop :=
  I x W' ∧ (∀ (k : Nat) (b : Obj), W.heap[k]? = some b → (k = g ∨ k = bx ∨ k = W0.heap.size ∨ (N ≤ k ∧ b.isCells = false)) → W'.heap[k]? = some b)
theorem range_scan {g : Operand} {ps : Array Tmp} {assign body : Code} {Q : Exit → Act → World → Prop} {a : Act} {w : World} {n : Nat} {gf : Nat} {lb : Array Value} (gX bx : Nat) (xs : List S70) (encs : S70 → Array Value)
    (hg : a.eval g = .func (.func gf) #[] lb) (eg : ∀ args w, (callFunc gf args).run Tryz.prog w = .ok (.enter gf args) w) (hps : ∀ x, (encs x).size = ps.size) (hgX : gX < w.heap.size) (hbx : bx < w.heap.size)
    (hit : ∀ (l : Nat) (JJ : List S70 → World → Prop) (W1 : World), (∀ pre W W', JJ pre W → Only gX W W' → JJ pre W') →
      (∀ (pre : List S70) (x : S70) (W : World) (o : Obj), JJ pre W → pre ++ [x] <+: xs → YieldAt Fence.wide (n - 1 - 1) Tryz.prog l (encs x) (W.alloc o) fun e W' =>
        e = .returned (.bool true) ∧ JJ (pre ++ [x]) W' ∧ (∀ (k : Nat) (b : Obj), (W.alloc o).heap[k]? = some b → k = gX ∨ k = bx ∨ k = W.heap.size → W'.heap[k]? = some b)) →
      Below w.heap.size w W1 → JJ [] W1 → CallsIn Fence.wide (n - 1) Tryz.prog gf (#[.func (.yield l) #[] #[]] ++ lb) W1 fun e W' => (∃ v, e = .returned v) ∧ JJ xs W')
    (I : List S70 → World → Prop) (hIX : ∀ pre W W', I pre W → Only gX W W' → I pre W')
    (hIput : ∀ pre W (k : Nat) (o o' : Obj), w.heap.size ≤ k → W.heap[k]? = some o → o.isCells = false → I pre W → I pre (W.putObj k o')) (h0 : I [] w)
    (hround : ∀ (l : Nat) (pre : List S70) (x : S70) (W0 W : World) (o : Obj), I pre W0 → W = W0.alloc o → gX < W0.heap.size → bx < W0.heap.size → pre ++ [x] <+: xs →
      assign.wpIn (Fence.wide.inRound l) (n - 1 - 1) Tryz.prog (Exit.then (fun a₁ w₁ => (∀ (k : Nat) (b : Obj), W.heap[k]? = some b → w₁.heap[k]? = some b) ∧ ∀ R : Loop, w₁.heap[l]? = some (.loop R) → w.heap.size ≤ l →
        body.wpIn (Fence.wide.inRound l) (n - 1 - 1) Tryz.prog (fun e _ W' => e = .normal ∧ RoundOK (fun x => I (pre ++ [x])) gX bx w.heap.size x W0 (w₁.putObj l (.loop { R with state := .busy })) W') a₁ (w₁.putObj l (.loop { R with state := .busy })))
        (fun _ _ _ => False)) { tmps := (ps.zip (encs x)).foldl (fun t (p, v) => t.setIfInBounds p v) a.tmps, defers := [] } W)
    (hdone : ∀ (D : Nat) (W : World), w.heap.size ≤ D → I xs W → W.heap[D]? = some (.deferred (some [])) → Q .normal { a with defers := { target := .collected D, args := #[] } :: a.defers } W) (h1 : 1 ≤ n) :
    (Code.rangeFunc g ps assign body).wpIn Fence.wide n Tryz.prog Q a w := by
  refine wpIn_rangeFunc (fun fn _ => ?_)
  rw [show Fence.wide.round = none from rfl]
  obtain ⟨rec, hrec⟩ : ∃ rec : LoopState → Option Code → Loop, rec = fun st pe => { state := st, pending := pe, fn, tmps := a.tmps, params := ps, assign, body, defers := w.heap.size } := ⟨_, rfl⟩
  obtain ⟨W1, hW1⟩ : ∃ W1, (w.alloc (.deferred (some []))).alloc (.loop (rec .ready none)) = W1 := ⟨_, rfl⟩
  have hL1 : W1.heap[w.heap.size + 1]? = some (.loop (rec .ready none)) := by
    rw [← hW1]; have q := blk_new (w.alloc (.deferred (some []))) (.loop (rec .ready none)); rwa [World.size_alloc] at q
  have hK1 : W1.heap[w.heap.size]? = some (.deferred (some [])) := by rw [← hW1]; exact blk_alloc (blk_new w _) _
  have hO1 : Only gX w W1 := by rw [← hW1]; exact ((Only.refl gX w).alloc _).alloc _
  refine ⟨w.heap.size + 1, [{ target := .collected w.heap.size, args := #[] }], W1, { target := .fn (.func gf) lb, args := #[.func (.yield (w.heap.size + 1)) #[] #[]] }, W1, gf,
    #[.func (.yield (w.heap.size + 1)) #[] #[]] ++ lb, W1, ?_, ?_, fun _ _ => trivial, ?_, fun _ => h1, ?_⟩
  · rw [← hW1, hrec]; exact run_enterLoop_outer _ _ _ _ _
  · simp only [resolve, hg]
    simp [go_sem]
  · simp [invoke, go_sem, eg]
  · refine (hit (w.heap.size + 1) (fun pre W => I pre W ∧ W.heap[w.heap.size + 1]? = some (.loop (rec .ready none)) ∧ W.heap[w.heap.size]? = some (.deferred (some []))) W1 ?_ ?_ ?_ ⟨hIX _ _ _ h0 hO1, hL1, hK1⟩).mono ?_
    · rintro pre W W' ⟨hi, hl, hk⟩ hO
      exact ⟨hIX _ _ _ hi hO, hO.blk hl (by omega), hO.blk hk (by omega)⟩
    · rintro pre x W o ⟨hi, hl, hk⟩ hpre
      have hlt := blk_lt hl
      have hl' := blk_alloc hl o
      have hk' := blk_alloc hk o
      have hy := run_yield (P := Tryz.prog) (args := encs x) hl' (by rw [hrec]; exact hps x)
      rw [hrec] at hy
      refine ⟨fn, _, assign, body, hy, roundIn_of_wpIn (F := Fence.wide) trivial (wpIn_mono (hround (w.heap.size + 1) pre x W (W.alloc o) o hi rfl (by omega) (by omega) hpre) ?_)⟩
      rintro e a1 w1 hp
      cases e with
      | normal =>
        obtain ⟨hkeep, hb⟩ := hp
        have hl1 := hkeep _ _ hl'
        have hk1 := hkeep _ _ hk'
        have hlt1 := blk_lt hl1
        refine ⟨_, run_beginRound hl1 (by rw [hrec]), ?_⟩
        refine wpIn_mono (hb _ hl1 (by omega)) ?_
        rintro e a2 w2 ⟨rfl, hI2, hkp⟩
        have hl2 := hkp (w.heap.size + 1) _ (World.putObj_heap_same hlt1) (.inr (.inr (.inr ⟨by omega, rfl⟩)))
        have hk2 := hkp w.heap.size _ ((World.putObj_heap_other (by omega)).trans hk1) (.inr (.inr (.inr ⟨Nat.le_refl _, rfl⟩)))
        have hend := run_endRound (P := Tryz.prog) none hl2
        refine ⟨_, _, hend, rfl, ⟨hIput _ _ _ _ _ (by omega) hl2 rfl hI2, ?_, (World.putObj_heap_other (by omega)).trans hk2⟩, ?_⟩
        · rw [hrec]; exact World.putObj_heap_same (blk_lt hl2)
        · intro k b hkb hwhich
          have hne : k ≠ w.heap.size + 1 := by
            rcases hwhich with h | h | h <;> omega
          refine (World.putObj_heap_other hne).trans (hkp k b ((World.putObj_heap_other hne).trans (hkeep k b hkb)) ?_)
          rcases hwhich with h | h | h
          · exact .inl h
          · exact .inr (.inl h)
          · exact .inr (.inr (.inl h))
      | _ => exact hp.elim
    · rw [← hW1]; exact ((Below.refl _ w).alloc (Nat.le_refl _) _).alloc (by simp) _
    · rintro e W2 ⟨⟨v, rfl⟩, hi, hl, hk⟩
      have hend := run_endLoop (P := Tryz.prog) hl (by rw [hrec]; simp)
      refine ⟨_, _, hend, ?_⟩
      rw [hrec]
      exact hdone _ _ (Nat.le_refl _) (hIput _ _ _ _ _ (by omega) hl rfl hi) ((World.putObj_heap_other (by omega)).trans hk)
/-- append of one element onto a row of one's own, within a fence. -/
theorem R_append_in {α : Type} (d : Kd α) {F : Fence} {nF : Nat} {P : Program} {ops : Array Oper} {rest : List Oper} {o : Oper} {a : Act} {Q : Exit → Act → World → Prop} {w0 W : World} (base : Nat) (hgd : o.guard = none) (s x : Operand) (t e : TypeId) (z : Value) (bytes : Nat)
    (ho : o.op = .call { callee := .builtin .append, args := #[s, x], argTypes := #[t, t] }) (ht : P.underlying t = some (.slice e)) (hinfo : (P.info? e).map (fun i => (i.zero, i.size, i.bytes)) = some (some z, d.sz, bytes)) (hz : z.cells.size = d.sz) (hs0 : 0 < d.sz) (hb0 : 0 < bytes)
    (v : Value) (xs : List α) (p : α) (cs : List Value) (ok okp : Nat → Prop) (hs : a.eval s = v) (hx : a.eval x = .slice (some ⟨W.heap.size, 0, none⟩) 1 1) (hp : d.M W base okp p cs) (hokp : ∀ k, okp k → ok k ∧ some k ≠ v.ownBlock) (hfresh : ∀ k, W.heap.size ≤ k → ok k)
    (HO : d.R e W base ok v xs) (HB : Below base w0 W) (hbase : base ≤ W.heap.size) (hl : (xs.length + 1) * bytes ≤ 140737488355328)
    (h : ∀ v1 w1, d.R e w1 base ok v1 (xs ++ [p]) → Below base w0 w1 → W.grownBy w1 v.ownBlock → wpListIn F nF P ops Q rest (a.put o.dst v1) w1) :
    wpListIn F nF P ops Q (o :: rest) a (W.alloc (.cells cs.toArray e)) := by
  obtain ⟨h0, inner, hown, hr⟩ := HO
  obtain ⟨i0, hi, hzz⟩ := Option.map_eq_some_iff.1 hinfo
  simp only [Prod.mk.injEq] at hzz
  obtain ⟨hz0, hz1, hz2⟩ := hzz
  have hlen : xs.length + 1 ≤ 140737488355328 := Nat.le_trans (Nat.le_mul_of_pos_right _ hb0) hl
  have hys := d.K_len (d.K_of_M hp)
  refine wpListIn_append_own_at (W.alloc (.cells cs.toArray e)) hgd s x t ho base e i0 z d.sz bytes ht hi hz0 hz1 hz2 hz hs0 v xs.length inner hs (hown.alloc _) ⟨W.heap.size, 0, none⟩ 1 1 cs hx (by rw [hys]; simp)
    (by simpa using World.news_of_block (cs := cs.toArray) (t := e) (fr := (0, 0)) (heap_alloc_new W (.cells cs.toArray e))) (d.K_one (d.K_of_M hp)) (by simp only [maxLen]; omega) hl (by simp; omega) ?_
  intro v1 w1 hown1 hg _ hat
  have hg' : W.grownBy w1 v.ownBlock := World.grownBy.trans (World.grownBy_alloc W _ _) hg
  refine h v1 w1 (Kd.R_appended h0 hr hp hokp hfresh hown1 hg' ?_) ((HB.alloc hbase _).grown hg (by simp; omega) (own_base hown)) hg'
  rcases hat with hat | hat
  · exact .inl hat
  · exact .inr ⟨_, hat, by simp⟩
theorem then_hide {F : Fence} {n : Nat} {P : Program} {c : Code} {f : Act → World → Prop} {Q : Exit → Act → World → Prop} {a : Act} {w : World} (h : ∀ K : Act → World → Prop, (∀ a w, f a w → K a w) → c.wpIn F n P (Exit.then K Q) a w) : c.wpIn F n P (Exit.then f Q) a w := h f (fun _ _ h => h)
theorem post_hide {F : Fence} {n : Nat} {P : Program} {c : Code} {f : Exit → Act → World → Prop} {a : Act} {w : World} (h : ∀ K : Exit → Act → World → Prop, (∀ a w, f .normal a w → K .normal a w) → c.wpIn F n P K a w) : c.wpIn F n P f a w := h f (fun _ _ h => h)
theorem blk_new' {W : World} {k : Nat} (o : Obj) (h : W.heap.size = k) : (W.alloc o).heap[k]? = some o := by rw [← h]; exact blk_new W o
set_option maxHeartbeats 1000000 in
theorem tokens_each.calls (p : Option Addr) (w : World) : Calls Tryz.prog 57 #[.pointer p] w fun e w' => e = .returned (.func (.func 77) #[] #[.pointer (some ⟨w.heap.size, 0, none⟩)]) ∧ w' = w.alloc (.cells #[.pointer p] 118) := by
  go_enter Tryz.func57, Tryz.ntmps57
  go_wp2
  go_ret
  exact ⟨rfl, rfl⟩
set_option maxHeartbeats 8000000 in
set_option maxRecDepth 100000 in
theorem tokens_Tokens.calls (s : ByteArray) (hs : s.size ≤ 65536) (xs : List S70) (hT : Toks s 0 xs) (hn : xs.length ≤ 8192) (w : World) :
    Calls Tryz.prog 35 #[.string s] w fun e w' => ∃ v0_ : Value, e = .returned (.tuple #[v0_, .int .i64 0, .int .i64 0]) ∧ Kd.R k70 70 w' w.heap.size (fun k_ => True) v0_ xs ∧ Below w.heap.size w w' := by
  have HT := Aside0.mk hT
  have HN := Aside0.mk hn
  have d0 : decide ((65536 : Int) < (s.size : Int)) = false := decide_eq_false (by omega)
  have d1 : decide (65536 < s.size) = false := decide_eq_false (by omega)
  clear hT hn
  refine (callsIn_wide (n := 5)).1 ?_
  refine callsIn_of_wp_marks Tryz.func35 rfl trivial ?_ rfl
  simp only [Tryz.ntmps35, List.size_toArray, List.length_cons, List.length_nil, Nat.reduceAdd, Nat.reduceSub, Array.replicate_succ, Array.replicate_zero, List.push_toArray, List.append_toArray, List.nil_append, List.cons_append]
  gi_wp2_with (first | (refine ⟨trivial, ?_⟩; gi_at_call 57; refine (callsIn_wide.2 (tokens_each.calls _ _)).mono ?_; rintro e_ w1 ⟨rfl, hw1⟩; have HW1 := Aside0.mk hw1; clear hw1))
  have hb0 : w1.heap[w.heap.size]? = some (.cells #[.slice none 0 0] 62 (0, 0)) := by rw [HW1.out]; repeat (first | (refine blk_new' _ ?_; simp; done) | apply blk_alloc)
  have hb1 : w1.heap[w.heap.size + 1]? = some (.cells #[.int .i64 0] 3 (0, 0)) := by rw [HW1.out]; repeat (first | (refine blk_new' _ ?_; simp; done) | apply blk_alloc)
  have hb2 : w1.heap[w.heap.size + 1 + 1]? = some (.cells #[.int .i64 0] 28 (0, 0)) := by rw [HW1.out]; repeat (first | (refine blk_new' _ ?_; simp; done) | apply blk_alloc)
  have hb3 : w1.heap[w.heap.size + 1 + 1 + 1]? = some (.cells #[.slice none 0 0] 62 (0, 0)) := by rw [HW1.out]; repeat (first | (refine blk_new' _ ?_; simp; done) | apply blk_alloc)
  have hb4 : w1.heap[w.heap.size + 1 + 1 + 1 + 1]? = some (.cells #[.string s, .int .i64 0] 94 (0, 0)) := by rw [HW1.out]; repeat (first | (refine blk_new' _ ?_; simp; done) | apply blk_alloc)
  have hb5 : w1.heap[w.heap.size + 1 + 1 + 1 + 1 + 1]? = some (.cells #[.pointer (some ⟨w.heap.size + 1 + 1 + 1 + 1, 0, none⟩)] 118 (0, 0)) := by rw [HW1.out]; repeat (first | (refine blk_new' _ ?_; simp; done) | apply blk_alloc)
  have hsz : w1.heap.size = w.heap.size + 1 + 1 + 1 + 1 + 1 + 1 := by rw [HW1.out]; simp
  have hbl : Below w.heap.size w w1 := by rw [HW1.out]; exact ((((((Below.refl _ _).alloc (Nat.le_refl _) _).alloc (by simp) _).alloc (by simp; omega) _).alloc (by simp; omega) _).alloc (by simp; omega) _).alloc (by simp; omega) _
  refine range_scan (n := 5) (gf := 77) (lb := #[.pointer (some ⟨w.heap.size + 1 + 1 + 1 + 1 + 1, 0, none⟩)]) (w.heap.size + 1 + 1 + 1 + 1) (w.heap.size + 1 + 1 + 1 + 1 + 1) xs (fun x => #[.agg #[.int .u8 x.f0, .string x.f1, .int .i64 x.f2, .int .i64 x.f3], .agg #[.int .i64 0, .int .i64 0]]) ?hg (enters_of Tryz.func77 (by kernel_rfl) rfl) (fun _ => rfl) (by omega) (by omega)
    (fun l JJ W1 hJ hY hb h0 => tokens_each1_in (5 - 1) l (w.heap.size + 1 + 1 + 1 + 1) (w.heap.size + 1 + 1 + 1 + 1 + 1) s hs xs HT.out JJ (by omega) hJ hY W1 ⟨(hb.block _ (by omega)).trans hb4⟩ ((hb.block _ (by omega)).trans hb5) h0)
    (fun pre W => ∃ v, W.heap[w.heap.size + 1 + 1 + 1]? = some (.cells #[v] 62 (0, 0)) ∧ Kd.R k70 70 W w.heap.size (fun k => w.heap.size + 1 + 1 + 1 + 1 + 1 + 1 ≤ k) v pre ∧ W.heap[w.heap.size]? = some (.cells #[.slice none 0 0] 62 (0, 0)) ∧ W.heap[w.heap.size + 1]? = some (.cells #[.int .i64 0] 3 (0, 0)) ∧ W.heap[w.heap.size + 1 + 1]? = some (.cells #[.int .i64 0] 28 (0, 0)) ∧ Below w.heap.size w W) ?hIX ?hIput ?h0 ?round ?done (by omega)
  case hg => rfl
  case hIX =>
    rintro pre W W' ⟨v, h1, h2, h3, h4, h5, h6⟩ hO
    exact ⟨v, hO.blk h1 (by omega), Kd.R_step h2 (fun k hk hlt => hO.block k hlt (by omega)), hO.blk h3 (by omega), hO.blk h4 (by omega), hO.blk h5 (by omega), h6.trans (hO.below (by omega) (by have := h6.size; omega))⟩
  case hIput =>
    rintro pre W k o o' hk ho hc ⟨v, h1, h2, h3, h4, h5, h6⟩
    have ne : ∀ {j : Nat} {c t f}, W.heap[j]? = some (.cells c t f) → (W.putObj k o').heap[j]? = some (.cells c t f) := fun {j} {c} {t} {f} h => (World.putObj_heap_other (by rintro rfl; rw [h] at ho; cases ho; cases hc)).trans h
    refine ⟨v, ne h1, Kd.R_mono (Kd.R_move (Kd.R_bound h2) (fun j hj => ?_)) (fun _ hk => hk.1), ne h3, ne h4, ne h5, h6.trans ⟨rfl, rfl, rfl, by simp, fun j hj => World.putObj_heap_other (by omega)⟩⟩
    obtain ⟨_, _, _, q, _, cells, hcl⟩ := hj
    exact (ne hcl).trans hcl.symm
  case h0 => exact ⟨_, hb3, Kd.R_nil _ _ _ _ _, hb0, hb1, hb2, hbl⟩
  case round =>
    intro l pre x W0 W o hI hW hg0 hbx0 hpre
    obtain ⟨v, h1, h2, h3, h4, h5, h6⟩ := hI
    obtain ⟨A, cap, rfl⟩ := Kd.R_slice h2
    subst hW
    have hpl : pre.length < xs.length := by
      have q := hpre.length_le
      rw [List.length_append, List.length_singleton] at q; omega
    refine then_hide (fun K hK => ?_)
    have HK := Aside0.mk hK
    have H1 := Aside0.mk h1
    have H2 := Aside0.mk h2
    have H3 := Aside0.mk h3
    have H4 := Aside0.mk h4
    have H5 := Aside0.mk h5
    have H6 := Aside0.mk h6
    have HP := Aside0.mk hpre
    clear hK h1 h2 h3 h4 h5 h6 hpre hb0 hb1 hb2 hb3 hb4 hb5 hbl
    simp only [List.zip_toArray, List.zip_cons_cons, List.zip_nil_right, List.foldl_toArray, List.foldl_cons, List.foldl_nil, List.setIfInBounds_toArray, List.set_cons_zero, List.set_cons_succ]
    gi_wp2_with (fail)
    refine HK.out _ _ ⟨fun k b hb => blk_alloc (blk_alloc hb _) _, fun R hR hl => ?_⟩
    obtain ⟨W3, hW3⟩ : ∃ W3, W3 = (((W0.alloc o).alloc (.cells #[.int .u8 x.f0, .string x.f1, .int .i64 x.f2, .int .i64 x.f3] 70)).alloc (.cells #[.int .i64 0, .int .i64 0] 99)).putObj l (.loop { R with state := .busy }) := ⟨_, rfl⟩
    rw [← hW3]
    obtain ⟨Wb, hWb⟩ : ∃ Wb, Wb = ((W0.alloc o).alloc (.cells #[.int .u8 x.f0, .string x.f1, .int .i64 x.f2, .int .i64 x.f3] 70)).alloc (.cells #[.int .i64 0, .int .i64 0] 99) := ⟨_, rfl⟩
    rw [← hWb] at hW3 hR
    have hbb : Below W0.heap.size W0 Wb := by rw [hWb]; exact (((Below.refl _ _).alloc (Nat.le_refl _) _).alloc (by simp) _).alloc (by simp; omega) _
    have hcell : ∀ {j : Nat} {c t f}, Wb.heap[j]? = some (.cells c t f) → W3.heap[j]? = some (.cells c t f) := fun {j} {c} {t} {f} h => by
      rw [hW3]
      exact (World.putObj_heap_other (by rintro rfl; rw [h] at hR; cases hR)).trans h
    have hold : ∀ {j : Nat} {c t f}, W0.heap[j]? = some (.cells c t f) → W3.heap[j]? = some (.cells c t f) := fun h => hcell ((hbb.block _ (blk_lt h)).trans h)
    have hs3 : W3.heap.size = W0.heap.size + 1 + 1 + 1 := by rw [hW3, hWb]; simp
    have k1 := hold H1.out
    have kt : W3.heap[W0.heap.size + 1]? = some (.cells #[.int .u8 x.f0, .string x.f1, .int .i64 x.f2, .int .i64 x.f3] 70 (0, 0)) := hcell (by rw [hWb]; refine blk_alloc ?_ _; exact blk_new' _ (by simp))
    have kf : W3.heap[W0.heap.size + 1 + 1]? = some (.cells #[.int .i64 0, .int .i64 0] 99 (0, 0)) := hcell (by rw [hWb]; exact blk_new' _ (by simp))
    have kr : Kd.R k70 70 W3 w.heap.size (fun k => w.heap.size + 1 + 1 + 1 + 1 + 1 + 1 ≤ k) (.slice A pre.length cap) pre := by
      refine Kd.R_mono (Kd.R_move (Kd.R_bound (Kd.R_below H2.out hbb)) (fun j hj => ?_)) (fun _ hk => hk.1)
      obtain ⟨_, _, _, q, _, cells, hcl⟩ := hj
      exact (hcell hcl).trans hcl.symm
    have kb : Below w.heap.size w W3 := H6.out.trans ((hbb.mono H6.out.size).trans ⟨by rw [hW3]; rfl, by rw [hW3]; rfl, by rw [hW3]; rfl, by rw [hW3]; simp, fun j hj => by rw [hW3]; exact World.putObj_heap_other (by omega)⟩)
    have q1 := blk_cell k1 0
    have qt0 := blk_cell kt 0
    have qt1 := blk_cell kt 1
    have qt2 := blk_cell kt 2
    have qt3 := blk_cell kt 3
    have qf0 := blk_cell kf 0
    have qf1 := blk_cell kf 1
    have e1 : ((pre.length : Int) == 8192) = false := beq_eq_false_iff_ne.mpr (by have := HN.out; omega)
    have e2 : (pre.length == 8192) = false := beq_eq_false_iff_ne.mpr (by have := HN.out; omega)
    refine post_hide (fun K2 hK2 => ?_)
    have HK2 := Aside0.mk hK2
    have HKR := Aside0.mk kr
    have HKB := Aside0.mk kb
    have HK1 := Aside0.mk k1
    have HOLD := Aside0.mk (@hold)
    have HS3 := Aside0.mk hs3
    clear hK2 kr kb k1 kt kf hcell hold hbb hWb hR hs3 hW3
    gi_wp2_with (first | (gi_at_builtin; refine R_append_in k70 (w0 := w) w.heap.size rfl (.tmp 31) (.tmp 33) 62 70 (.agg #[.int .u8 0, .string ⟨#[]⟩, .int .i64 0, .int .i64 0]) 40 rfl Tryz.underlying62 info70 rfl (by decide) (by omega) (.slice A pre.length cap) pre x [.int .u8 x.f0, .string x.f1, .int .i64 x.f2, .int .i64 x.f3] (fun k => w.heap.size + 1 + 1 + 1 + 1 + 1 + 1 ≤ k) (fun _ => False) rfl rfl ?aP (fun _ h => h.elim) ?aF HKR.out HKB.out ?aS ?aL ?_; (case aP => exact k70_mkM _ _ _ x); (case aF => intro k hk; have q1 := HKB.out.size; have q2 := HS3.out; have q3 := H6.out.size; omega); (case aS => exact HKB.out.size); (case aL => have := HN.out; omega); intro v1 w4 ho hb hg; obtain ⟨A1, cap1, rfl⟩ := Kd.R_slice ho; have HO := Aside0.mk ho; have HB := Aside0.mk hb; have HG := Aside0.mk hg; have c0 := blk_cell (blk_grown HK1.out hg (Kd.R_away HKR.out (fun k hk => by omega))) 0; have c1 := blk_frozen (blk_grown HK1.out hg (Kd.R_away HKR.out (fun k hk => by omega))) 0; clear ho hb hg))
    refine HK2.out _ _ ⟨by first | rfl | trivial, ?_⟩
    have HO' := HO.out
    rw [List.length_append, List.length_singleton] at HO'
    have away : ∀ g : Nat, g < w.heap.size + 1 + 1 + 1 + 1 + 1 + 1 → some g ≠ (Value.slice A pre.length cap).ownBlock := fun g hg => Kd.R_away HKR.out (fun k hk => by omega)
    refine ⟨⟨_, blk_put (blk_grown HK1.out HG.out (away _ (by omega))) 0 _ rfl, Kd.R_far HO' (fun k hk => by simp only; omega) _, ?_, ?_, ?_, HB.out.setCell (by simp only; omega) _⟩, ?_⟩
    · exact (Below.heap_setCell _ _ _ _ (by simp only; omega)).trans (blk_grown (HOLD.out H3.out) HG.out (away _ (by omega)))
    · exact (Below.heap_setCell _ _ _ _ (by simp only; omega)).trans (blk_grown (HOLD.out H4.out) HG.out (away _ (by omega)))
    · exact (Below.heap_setCell _ _ _ _ (by simp only; omega)).trans (blk_grown (HOLD.out H5.out) HG.out (away _ (by omega)))
    · intro k b hb hk
      have hne : some k ≠ (Value.slice A pre.length cap).ownBlock := Kd.R_away (Kd.R_bound H2.out) (fun j hj => by
        obtain ⟨h1, _, h2, q, _, cells, hcl⟩ := hj
        rintro rfl
        rcases hk with hk | hk | hk | ⟨hk, hc⟩
        · omega
        · omega
        · omega
        · rw [HOLD.out hcl] at hb; cases hb; cases hc)
      have hne2 : k ≠ w.heap.size + 1 + 1 + 1 := by rcases hk with hk | hk | hk | ⟨hk, hc⟩ <;> omega
      exact (Below.heap_setCell _ _ _ _ hne2).trans (blk_grown hb HG.out hne)
  case done =>
    intro D W hD hI hK
    obtain ⟨v, h1, h2, h3, h4, h5, h6⟩ := hI
    obtain ⟨A, cap, rfl⟩ := Kd.R_slice h2
    clear hb0 hb1 hb2 hb3 hb4 hb5 hbl
    have q1 := blk_cell h1 0
    have q2 := blk_cell h3 0
    have q3 := blk_cell h4 0
    have q4 := blk_cell h5 0
    have z2 := blk_frozen h3 0
    have z3 := blk_frozen h4 0
    have z4 := blk_frozen h5 0
    have H1 := Aside0.mk h1
    have H2 := Aside0.mk h2
    have H3 := Aside0.mk h3
    have H4 := Aside0.mk h4
    have H5 := Aside0.mk h5
    have H6 := Aside0.mk h6
    have HK := Aside0.mk hK
    clear h1 h2 h3 h4 h5 h6 hK
    gi_wp2_with (fail)
    obtain ⟨WF, hWF⟩ : ∃ WF, WF = ((W.setCell ⟨w.heap.size, 0, none⟩ (.slice A xs.length cap)).setCell ⟨w.heap.size + 1, 0, none⟩ (.int .i64 0)).setCell ⟨w.heap.size + 1 + 1, 0, none⟩ (.int .i64 0) := ⟨_, rfl⟩
    rw [← hWF]
    have d2 : WF.heap[w.heap.size]? = some (.cells #[.slice A xs.length cap] 62 (0, 0)) := by
      rw [hWF]
      exact (Below.heap_setCell _ _ _ _ (by simp only; omega)).trans ((Below.heap_setCell _ _ _ _ (by simp only; omega)).trans (blk_put H3.out 0 _ rfl))
    have d3 : WF.heap[w.heap.size + 1]? = some (.cells #[.int .i64 0] 3 (0, 0)) := by
      rw [hWF]
      exact (Below.heap_setCell _ _ _ _ (by simp only; omega)).trans (blk_put ((Below.heap_setCell _ _ _ _ (by simp only; omega)).trans H4.out) 0 _ rfl)
    have d4 : WF.heap[w.heap.size + 1 + 1]? = some (.cells #[.int .i64 0] 28 (0, 0)) := by
      rw [hWF]
      exact blk_put ((Below.heap_setCell _ _ _ _ (by simp only; omega)).trans ((Below.heap_setCell _ _ _ _ (by simp only; omega)).trans H5.out)) 0 _ rfl
    have dD : WF.heap[D]? = some (.deferred (some [])) := by
      rw [hWF]
      exact (Below.heap_setCell _ _ _ _ (by simp only; omega)).trans ((Below.heap_setCell _ _ _ _ (by simp only; omega)).trans ((Below.heap_setCell _ _ _ _ (by simp only; omega)).trans HK.out))
    have dB : Below w.heap.size w WF := by
      rw [hWF]
      exact ((H6.out.setCell (by simp only; omega) _).setCell (by simp only; omega) _).setCell (by simp only; omega) _
    have dR : Kd.R k70 70 WF w.heap.size (fun k => w.heap.size + 1 + 1 + 1 + 1 + 1 + 1 ≤ k) (.slice A xs.length cap) xs := by
      rw [hWF]
      exact Kd.R_far (Kd.R_far (Kd.R_far H2.out (fun k hk => by simp only; omega) _) (fun k hk => by simp only; omega) _) (fun k hk => by simp only; omega) _
    refine ⟨by simp, .inl ⟨_, _, rfl, run_takeDeferred dD, ?_⟩⟩
    have ne : ∀ {j : Nat} {c t f}, WF.heap[j]? = some (.cells c t f) → (WF.putObj D (.deferred none)).heap[j]? = some (.cells c t f) := fun {j} {c} {t} {f} h => (World.putObj_heap_other (by rintro rfl; rw [h] at dD; cases dD)).trans h
    have e2 := blk_cell (ne d2) 0
    have e3 := blk_cell (ne d3) 0
    have e4 := blk_cell (ne d4) 0
    refine ⟨.tuple #[.slice A xs.length cap, .int .i64 0, .int .i64 0], ?_, _, rfl, ?_, dB.trans ⟨rfl, rfl, rfl, by simp, fun j hj => World.putObj_heap_other (by omega)⟩⟩
    · simp [results, Tryz.results35, go_sem, e2, e3, e4]
    · refine Kd.R_mono (Kd.R_move (Kd.R_bound dR) (fun j hj => ?_)) (fun _ _ => trivial)
      obtain ⟨_, _, _, q, _, cells, hcl⟩ := hj
      exact (ne hcl).trans hcl.symm
/-- the text that is read at the end of each of the package's laws. -/
def txt : ByteArray := ⟨#[34, 97, 34, 32, 38, 38, 32, 50, 45, 111, 102, 40, 34, 98, 34, 44, 32, 34, 99, 34, 41]⟩
def tokL : List S70 := [⟨4, ⟨#[97]⟩, 0, 3⟩, ⟨6, ⟨#[38, 38]⟩, 4, 6⟩, ⟨5, ⟨#[50]⟩, 7, 11⟩, ⟨6, ⟨#[40]⟩, 11, 12⟩, ⟨4, ⟨#[98]⟩, 12, 15⟩, ⟨6, ⟨#[44]⟩, 15, 16⟩, ⟨4, ⟨#[99]⟩, 17, 20⟩, ⟨6, ⟨#[41]⟩, 20, 21⟩]
theorem next_s (i : Nat) (c : Int) (t : S70) (hi : i + 2 < txt.size) (hq : bt txt i = 34) (hc : c = bt txt ((i + 1 : Nat) : Int)) (g1 : c ≠ 34) (g2 : c ≠ 10) (g3 : c ≠ 92) (g4 : bt txt ((i + 2 : Nat) : Int) = 34)
    (ht : t = ⟨4, strOfNums [c], i, (i : Int) + 3⟩) : NextOK txt i t := by
  subst ht
  exact fun g w hS => tokens_next_str.calls g txt i w hS (by decide) (by omega) hq c hi hc g1 g2 g3 g4
theorem next_n (i : Nat) (t : S70) (hi : i < txt.size) (hd : isDigit (bt txt i) = true) (ht : t = numberS txt i) : NextOK txt i t := by
  subst ht
  exact fun g w hS => tokens_next_number.calls g txt i w hS (by decide) hi hd
theorem next_g (i n : Nat) (t : S70) (hi : i < txt.size) (hl : isLetter (bt txt i) = false) (hd : isDigit (bt txt i) = false) (hq : bt txt i ≠ 34) (hn : signS txt i = n) (hp : 0 < n) (hin : i + n ≤ txt.size)
    (ht : t = ⟨6, txt.extract i (i + n), i, (i : Int) + n⟩) : NextOK txt i t := by
  subst ht
  exact fun g w hS => tokens_next_sign.calls g txt i w hS (by decide) hi hl hd hq n hn hp hin
theorem toks_txt : Toks txt 0 tokL := by
  refine .cons 0 0 3 _ _ (by decide) (by decide) (next_s 0 97 _ (by decide) (by decide) (by decide) (by decide) (by decide) (by decide) (by decide) rfl) rfl (by decide) (by decide) ?_
  refine .cons 3 4 6 _ _ (by decide) (by decide) (next_g 4 2 _ (by decide) (by decide) (by decide) (by decide) (by kernel_rfl) (by decide) (by decide) rfl) rfl (by decide) (by decide) ?_
  refine .cons 6 7 11 _ _ (by decide) (by decide) (next_n 7 _ (by decide) (by decide) (by kernel_rfl)) rfl (by decide) (by decide) ?_
  refine .cons 11 11 12 _ _ (by decide) (by decide) (next_g 11 1 _ (by decide) (by decide) (by decide) (by decide) (by kernel_rfl) (by decide) (by decide) rfl) rfl (by decide) (by decide) ?_
  refine .cons 12 12 15 _ _ (by decide) (by decide) (next_s 12 98 _ (by decide) (by decide) (by decide) (by decide) (by decide) (by decide) (by decide) rfl) rfl (by decide) (by decide) ?_
  refine .cons 15 15 16 _ _ (by decide) (by decide) (next_g 15 1 _ (by decide) (by decide) (by decide) (by decide) (by kernel_rfl) (by decide) (by decide) rfl) rfl (by decide) (by decide) ?_
  refine .cons 16 17 20 _ _ (by decide) (by decide) (next_s 17 99 _ (by decide) (by decide) (by decide) (by decide) (by decide) (by decide) (by decide) rfl) rfl (by decide) (by decide) ?_
  refine .cons 20 20 21 _ _ (by decide) (by decide) (next_g 20 1 _ (by decide) (by decide) (by decide) (by decide) (by kernel_rfl) (by decide) (by decide) rfl) rfl (by decide) (by decide) ?_
  exact .nil 21 21 (by decide) (by decide)
/-- the tokens of that text. -/
theorem tokens_txt.calls (w : World) : Calls Tryz.prog 35 #[.string txt] w fun e w' => ∃ v0_ : Value, e = .returned (.tuple #[v0_, .int .i64 0, .int .i64 0]) ∧ Kd.R k70 70 w' w.heap.size (fun k_ => True) v0_ tokL ∧ Below w.heap.size w w' :=
  tokens_Tokens.calls txt (by decide) tokL toks_txt (by decide) w
end Go.Proofs.YtjapfefiaijfcaaGreatDoor.Q
