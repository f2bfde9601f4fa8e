/- The scanner's each, of any text: an iterator that yields tokens, and may be stopped. Tokens, of any text. Tokens, of any text: what it answers. -/
import Derived.Test.YtjapfefiaijfcaaGreatDoorT6
import Derived.Test.YtjapfefiaijfcaaGreatDoorVT42
import Derived.Test.YtjapfefiaijfcaaGreatDoorT39
import Derived.RangeFuncNested
import Derived.RangeFuncBound
import Derived.RangeFuncCalls
import Derived.RangeFuncLeaves
import Derived.Shelf.Abstract
import Derived.Shelf.RegionOpen
import Derived.WalkKit
import Derived.OwnWalkIn
import Derived.TacticsInMore
import Derived.LoopNIn
import Derived.LoopIn
import Derived.Test.YtjapfefiaijfcaaGreatDoorT7
import Derived.RangeFuncRecord
import Derived.Maps.OwnIn
namespace Go.Proofs.YtjapfefiaijfcaaGreatDoor.Q
open Go.RowKit Go.Proofs.YtjapfefiaijfcaaGreatDoorW.PrintWords Go.Proofs.YtjapfefiaijfcaaGreatDoorW.PrintLast Go.Proofs.YtjapfefiaijfcaaGreatDoorW.PrintMore
set_option linter.unusedVariables false
attribute [local go_sem] Oper.semAt_some
/-- the scanner at a place answers this. -/
def NextIs (s : ByteArray) (j : Nat) (r : StrR) : Prop := ∀ (g : Nat) (w : World), Scan w g s j →
  Calls Tryz.prog 79 #[.pointer (some ⟨g, 0, none⟩)] w fun e w' => e = .returned (.tuple #[.agg #[.int .u8 r.1.f0, .string r.1.f1, .int .i64 r.1.f2, .int .i64 r.1.f3], .int .i64 r.2.1, .int .i64 r.2.2]) ∧ Below w.heap.size w w'
/-- the tokens from a place on, and where they are left. -/
inductive ToksX (s : ByteArray) : Nat → List S70 → Option Nat → Prop
  | nil (i j : Nat) : SkipTo s i j → s.size ≤ j → ToksX s i [] none
  | stop (i j : Nat) : SkipTo s i j → j < s.size → ToksX s i [] (some j)
  | cons (i j e : Nat) (t : S70) (xs : List S70) (st : Option Nat) : SkipTo s i j → j < s.size → nextS s j = (t, 0, 0) → t.f3 = (e : Int) → j < e → e ≤ s.size → ToksX s e xs st → ToksX s i (t :: xs) st
def AtTokX (s : ByteArray) (j : Nat) (ys : List S70) (st : Option Nat) : Prop := (ys = [] ∧ st = none ∧ s.size ≤ j) ∨ (ys = [] ∧ st = some j ∧ j < s.size) ∨ ∃ (e : Nat) (t : S70) (zs : List S70), ys = t :: zs ∧ j < s.size ∧ nextS s j = (t, 0, 0) ∧ t.f3 = (e : Int) ∧ j < e ∧ e ≤ s.size ∧ ToksX s e zs st
theorem toksX_skip {s : ByteArray} {i : Nat} {ys : List S70} {st : Option Nat} (hi : i ≤ s.size) (h : ToksX s i ys st) : ∃ j, SkipTo s i j ∧ i ≤ j ∧ j ≤ s.size ∧ AtTokX s j ys st := by
  have le : ∀ j, SkipTo s i j → i ≤ j ∧ j ≤ s.size := fun j h => skipTo_le h hi
  cases h with
  | nil _ j h1 h2 => exact ⟨j, h1, (le j h1).1, (le j h1).2, .inl ⟨rfl, rfl, h2⟩⟩
  | stop _ j h1 h2 => exact ⟨j, h1, (le j h1).1, (le j h1).2, .inr (.inl ⟨rfl, rfl, h2⟩)⟩
  | cons _ j e t zs _ h1 h2 h3 h4 h5 h6 h7 => exact ⟨j, h1, (le j h1).1, (le j h1).2, .inr (.inr ⟨e, t, zs, rfl, h2, h3, h4, h5, h6, h7⟩)⟩
theorem nextOK_of {s : ByteArray} {j : Nat} {t : S70} (hs : s.size ≤ 65536) (hj : j < s.size) (h : nextS s j = (t, 0, 0)) : NextOK s j t := fun g w hS => by
  have q := tokens_next_all.calls g s j w hS hs hj
  rw [h] at q
  exact q
set_option maxHeartbeats 8000000 in
set_option maxRecDepth 100000 in
theorem tokens_each1_any (n l g bx : Nat) (s : ByteArray) (hs : s.size ≤ 65536) (xs : List S70) (st : Option Nat) (hT : ToksX s 0 xs st) (J : List S70 → World → Prop) (Jx : World → Prop) (hne : bx ≠ g)
    (hJ : ∀ pre W W', J pre W → Only g W W' → J pre W')
    (hY : ∀ (pre : List S70) (x : S70) (W : World) (o : Obj), J pre W → pre ++ [x] <+: xs → YieldAt Fence.wide (n - 1) Tryz.prog l #[.agg #[.int .u8 x.f0, .string x.f1, .int .i64 x.f2, .int .i64 x.f3], .agg #[.int .i64 0, .int .i64 0]] (W.alloc o) fun e W' =>
      e = .returned (.bool true) ∧ J (pre ++ [x]) W' ∧ (∀ k b, (W.alloc o).heap[k]? = some b → k = g ∨ k = bx ∨ k = W.heap.size → W'.heap[k]? = some b))
    (hZ : ∀ (j : Nat) (W : World) (o : Obj), st = some j → J xs W → Scan W g s j → W.heap[bx]? = some (.cells #[.pointer (some ⟨g, 0, none⟩)] 118 (0, 0)) → YieldAt Fence.wide (n - 1) Tryz.prog l #[.agg #[.int .u8 (nextS s j).1.f0, .string (nextS s j).1.f1, .int .i64 (nextS s j).1.f2, .int .i64 (nextS s j).1.f3], .agg #[.int .i64 (nextS s j).2.1, .int .i64 (nextS s j).2.2]] (W.alloc o) fun e W' =>
      e = .returned (.bool false) ∧ Jx W')
    (W0 : World) (hS : Scan W0 g s 0) (hbx : W0.heap[bx]? = some (.cells #[.pointer (some ⟨g, 0, none⟩)] 118 (0, 0))) (h0 : J [] W0) :
    CallsIn Fence.wide n Tryz.prog 77 #[.func (.yield l) #[] #[], .pointer (some ⟨bx, 0, none⟩)] W0 fun e W' => (∃ v, e = .returned v) ∧ ((st = none ∧ J xs W') ∨ ((∃ j, st = some j) ∧ Jx W')) := by
  refine callsIn_of_wp Tryz.func77 rfl trivial ?_ rfl
  simp only [Tryz.ntmps77, List.size_toArray, List.length_cons, List.length_nil, Nat.reduceAdd, Nat.reduceSub, Array.replicate_succ, Array.replicate_zero, List.push_toArray, List.append_toArray, List.nil_append, List.cons_append]
  have HS := Aside0.mk hS
  have HBX := Aside0.mk hbx
  have b0 := blk_cell hbx 0
  have HJ := Aside0.mk hJ
  have HY := Aside0.mk hY
  have HZ := Aside0.mk hZ
  have HT := Aside0.mk hT
  have H0 := Aside0.mk h0
  clear hS hbx hJ hY hZ hT h0
  obtain ⟨j0, hj0, -, hj02, hA0⟩ := toksX_skip (Nat.zero_le _) HT.out
  have HJ0 := Aside0.mk hj0
  have HA0 := Aside0.mk hA0
  clear hj0 hA0
  gi_wp2_with (first | (refine ⟨trivial, (fun h => absurd h (by decide)), ?_⟩; gi_at_call 78; refine (callsIn_wide.2 (tokens_skip_all.calls g s 0 j0 _ HS.out (by omega) (Nat.zero_le _) HJ0.out)).mono ?_; rintro e_ w1 ⟨rfl, hS1, hO1⟩; have HS1 := Aside0.mk hS1; have HO1 := Aside0.mk hO1; clear hS1 hO1))
  gi_loopw [] (fun wr => ∃ (pre ys : List S70) (j : Nat), pre ++ ys = xs ∧ j ≤ s.size ∧ AtTokX s j ys st ∧ Scan wr g s j ∧ wr.heap[bx]? = some (.cells #[.pointer (some ⟨g, 0, none⟩)] 118 (0, 0)) ∧ J pre wr) (fun wr => s.size - scanAt wr g)
  case atStart => exact ⟨[], xs, j0, rfl, hj02, HA0.out, HS1.out, HO1.out.blk HBX.out hne, HJ.out _ _ _ H0.out HO1.out⟩
  case round =>
    obtain ⟨pre, ys, j, hx, hj, hA, hS, hb, hj0⟩ := hrel
    have HX := Aside0.mk hx
    have HA := Aside0.mk hA
    have HSr := Aside0.mk hS
    have HBr := Aside0.mk hb
    have HJr := Aside0.mk hj0
    have q0 := hS.c0
    have q1 := hS.c1
    have b0 := blk_cell hb 0
    clear hx hA hS hb hj0
    rcases HA.out with ⟨rfl, hst, hend⟩ | ⟨rfl, hst, hlt⟩ | ⟨e, t, zs, rfl, hlt, hNx, h3, hje, hes, hTz⟩
    · have hlt' : decide ((j : Int) < (s.size : Int)) = false := decide_eq_false (by omega)
      have hlt2 : decide (j < s.size) = false := decide_eq_false (by omega)
      have HST := Aside0.mk hst
      clear hend hst
      gi_wp2_with (fail)
      refine wpIn_wide.2 ?_
      go_quiet (fail)
      gi_wp2_with (fail)
      go_end0
      exact ⟨⟨_, rfl⟩, .inl ⟨HST.out, by have q := HX.out; rw [List.append_nil] at q; rw [← q]; exact HJ.out _ _ _ HJr.out ((Only.refl g wr).drewN _)⟩⟩
    · have hlt' : decide ((j : Int) < (s.size : Int)) = true := decide_eq_true (by omega)
      have hlt2 : decide (j < s.size) = true := decide_eq_true hlt
      obtain ⟨r, hr⟩ : ∃ r, r = nextS s j := ⟨_, rfl⟩
      have hN : NextIs s j r := fun g w hS => by
        have q := tokens_next_all.calls g s j w hS hs hlt
        rw [← hr] at q
        exact q
      have hz0 := fun W o => HZ.out j W o hst
      rw [← hr] at hz0
      obtain ⟨⟨r0, r1, r2, r3⟩, rp, re⟩ := r
      have HN := Aside0.mk hN
      have HZ0 := Aside0.mk hz0
      have HST := Aside0.mk hst
      clear hr hN hz0 hst
      gi_wp2_with (fail)
      refine wpIn_wide.2 ?_
      go_quiet (fail)
      gi_wp2_with (first | (refine ⟨trivial, (fun h => absurd h (by decide)), ?_⟩; gi_at_call 79; refine (callsIn_wide.2 (HN.out g _ ?side)).mono ?_; (case side => exact HSr.out.drewN _); rintro e_ w2 ⟨rfl, hb2⟩; obtain ⟨hs2, hbx2, hj2⟩ := each_keep HJ HSr HBr HJr hb2; obtain ⟨fn, tmps, assign, body, hy, hR⟩ := HZ0.out w2 (.cells #[.int .u8 r0, .string r1, .int .i64 r2, .int .i64 r3] 70) (by have q := HX.out; rw [List.append_nil] at q; rw [← q]; exact hj2) hs2 hbx2; have HR := Aside0.mk hR; clear hb2 hs2 hbx2 hj2 hR))
      refine ⟨fun h => absurd h (by decide), ?_⟩
      refine HR.out.mono ?_
      rintro e_ w3 ⟨rfl, hj3⟩
      have HJ3 := Aside0.mk hj3
      clear hj3
      gi_wp2_with (fail)
      refine bodyPost_ret (v := .tuple #[]) ?_ rfl ?_
      · simp [results, Tryz.results77, go_sem]
      exact ⟨⟨_, rfl⟩, .inr ⟨⟨j, HST.out⟩, HJ3.out⟩⟩
    · have hlt' : decide ((j : Int) < (s.size : Int)) = true := decide_eq_true (by omega)
      have hlt2 : decide (j < s.size) = true := decide_eq_true hlt
      have hN : NextOK s j t := nextOK_of hs hlt hNx
      have HN := Aside0.mk hN
      have H3 := Aside0.mk h3
      have HTz := Aside0.mk hTz
      clear hN hNx h3 hTz
      gi_wp2_with (fail)
      refine wpIn_wide.2 ?_
      go_quiet (fail)
      gi_wp2_with (first | (refine ⟨trivial, (fun h => absurd h (by decide)), ?_⟩; gi_at_call 79; refine (callsIn_wide.2 (HN.out g _ ?side)).mono ?_; (case side => exact HSr.out.drewN _); rintro e_ w2 ⟨rfl, hb2⟩; obtain ⟨hs2, hbx2, hj2⟩ := each_keep HJ HSr HBr HJr hb2; obtain ⟨fn, tmps, assign, body, hy, hR⟩ := HY.out pre t w2 (.cells #[.int .u8 t.f0, .string t.f1, .int .i64 t.f2, .int .i64 t.f3] 70) hj2 (by rw [← HX.out]; exact ⟨zs, by simp⟩); have HS2 := Aside0.mk hs2; have HBX2 := Aside0.mk hbx2; have HJ2 := Aside0.mk hj2; have HR := Aside0.mk hR; clear hb2 hs2 hbx2 hj2 hR))
      refine ⟨fun h => absurd h (by decide), ?_⟩
      refine HR.out.mono ?_
      rintro e_ w3 ⟨rfl, hj3, hk3⟩
      have HJ3 := Aside0.mk hj3
      have hs3 : Scan w3 g s j := ⟨hk3 g _ (blk_alloc HS2.out.blk _) (.inl rfl)⟩
      have hbx3 := hk3 bx _ (blk_alloc HBX2.out _) (.inr (.inl rfl))
      have ht3 := hk3 w2.heap.size _ (blk_new w2 _) (.inr (.inr rfl))
      have p0 := hs3.c0
      have p1 := hs3.c1
      have pf := hs3.f1
      have pb := blk_cell hbx3 0
      have pt := blk_cell ht3 3
      rw [show (#[.int .u8 t.f0, .string t.f1, .int .i64 t.f2, .int .i64 t.f3] : Array Value)[3]? = some (.int .i64 t.f3) from rfl, H3.out] at pt
      have HS3 := Aside0.mk hs3
      have HBX3 := Aside0.mk hbx3
      clear hj3 hk3 hs3 hbx3 ht3
      obtain ⟨j4, hj4, hj41, hj42, hA4⟩ := toksX_skip hes HTz.out
      have HJ4 := Aside0.mk hj4
      have HA4 := Aside0.mk hA4
      have pb4 := blk_cell (Only.blk ((Only.refl g w3).set 1 (.int .i64 e)) HBX3.out hne) 0
      clear hj4 hA4
      gi_wp2_with (first | (refine ⟨trivial, (fun h => absurd h (by decide)), ?_⟩; gi_at_call 78; refine (callsIn_wide.2 (tokens_skip_all.calls g s e j4 _ (HS3.out.set _) (by omega) hes HJ4.out)).mono ?_; rintro e_ w4 ⟨rfl, hS4, hO4⟩; have HS4 := Aside0.mk hS4; have HO4 := Aside0.mk hO4; clear hS4 hO4))
      have o3 := (Only.refl g w3).set 1 (.int .i64 e)
      refine ⟨⟨pre ++ [t], zs, j4, by rw [← HX.out]; simp, hj42, HA4.out, HS4.out, HO4.out.blk (o3.blk HBX3.out hne) hne, HJ.out _ _ _ HJ3.out (o3.trans HO4.out)⟩, ?_⟩
      rw [HS4.out.at', HSr.out.at']
      omega
end Go.Proofs.YtjapfefiaijfcaaGreatDoor.Q
namespace Go.Proofs.YtjapfefiaijfcaaGreatDoor.Q
open Go.RowKit Go.Proofs.YtjapfefiaijfcaaGreatDoorW.PrintWords Go.Proofs.YtjapfefiaijfcaaGreatDoorW.PrintLast Go.Proofs.YtjapfefiaijfcaaGreatDoorW.PrintMore
set_option linter.unusedVariables false
attribute [local go_sem] Oper.semAt_some
theorem range_scanX {g : Operand} {ps : Array Tmp} {assign body : Code} {Q : Exit → Act → World → Prop} {a : Act} {w : World} {n : Nat} {gf : Nat} {lb : Array Value} (gX bx : Nat) (xs : List S70) (encs : S70 → Array Value) (PN : Prop) (PZ : Nat → Prop) (SZ : Nat → World → Prop) (encZ : Nat → Array Value)
    (hg : a.eval g = .func (.func gf) #[] lb) (eg : ∀ args w, (callFunc gf args).run Tryz.prog w = .ok (.enter gf args) w) (hps : ∀ x, (encs x).size = ps.size) (hpz : ∀ j, (encZ j).size = ps.size) (hgX : gX < w.heap.size) (hbx : bx < w.heap.size)
    (hit : ∀ (l : Nat) (JJ : List S70 → World → Prop) (JX : World → Prop) (W1 : World), (∀ pre W W', JJ pre W → Only gX W W' → JJ pre W') →
      (∀ (pre : List S70) (x : S70) (W : World) (o : Obj), JJ pre W → pre ++ [x] <+: xs → YieldAt Fence.wide (n - 1 - 1) Tryz.prog l (encs x) (W.alloc o) fun e W' =>
        e = .returned (.bool true) ∧ JJ (pre ++ [x]) W' ∧ (∀ (k : Nat) (b : Obj), (W.alloc o).heap[k]? = some b → k = gX ∨ k = bx ∨ k = W.heap.size → W'.heap[k]? = some b)) →
      (∀ (j : Nat) (W : World) (o : Obj), PZ j → JJ xs W → SZ j W → YieldAt Fence.wide (n - 1 - 1) Tryz.prog l (encZ j) (W.alloc o) fun e W' => e = .returned (.bool false) ∧ JX W') →
      Below w.heap.size w W1 → JJ [] W1 → CallsIn Fence.wide (n - 1) Tryz.prog gf (#[.func (.yield l) #[] #[]] ++ lb) W1 fun e W' => (∃ v, e = .returned v) ∧ (JJ xs W' ∧ PN ∨ JX W'))
    (I : List S70 → World → Prop) (hIX : ∀ pre W W', I pre W → Only gX W W' → I pre W')
    (hIput : ∀ pre W (k : Nat) (o o' : Obj), w.heap.size ≤ k → W.heap[k]? = some o → o.isCells = false → I pre W → I pre (W.putObj k o')) (h0 : I [] w)
    (hround : ∀ (l : Nat) (pre : List S70) (x : S70) (W0 W : World) (o : Obj), I pre W0 → W = W0.alloc o → gX < W0.heap.size → bx < W0.heap.size → pre ++ [x] <+: xs →
      assign.wpIn (Fence.wide.inRound l) (n - 1 - 1) Tryz.prog (Exit.then (fun a₁ w₁ => (∀ (k : Nat) (b : Obj), W.heap[k]? = some b → w₁.heap[k]? = some b) ∧ ∀ R : Loop, w₁.heap[l]? = some (.loop R) → w.heap.size ≤ l →
        body.wpIn (Fence.wide.inRound l) (n - 1 - 1) Tryz.prog (fun e _ W' => e = .normal ∧ RoundOK (fun x => I (pre ++ [x])) gX bx w.heap.size x W0 (w₁.putObj l (.loop { R with state := .busy })) W') a₁ (w₁.putObj l (.loop { R with state := .busy })))
        (fun _ _ _ => False)) { tmps := (ps.zip (encs x)).foldl (fun t (p, v) => t.setIfInBounds p v) a.tmps, defers := [] } W)
    (IZ : Nat → World → Prop) (hIZput : ∀ j W (k : Nat) (o o' : Obj), w.heap.size ≤ k → W.heap[k]? = some o → o.isCells = false → IZ j W → IZ j (W.putObj k o'))
    (hroundZ : ∀ (l : Nat) (j : Nat) (W0 W : World) (o : Obj), PZ j → I xs W0 → SZ j W0 → W = W0.alloc o → gX < W0.heap.size → bx < W0.heap.size →
      assign.wpIn (Fence.wide.inRound l) (n - 1 - 1) Tryz.prog (Exit.then (fun a₁ w₁ => (∀ (k : Nat) (b : Obj), W.heap[k]? = some b → w₁.heap[k]? = some b) ∧ ∀ R : Loop, w₁.heap[l]? = some (.loop R) → w.heap.size ≤ l →
        body.wpIn (Fence.wide.inRound l) (n - 1 - 1) Tryz.prog (fun e _ W' => e = .ret ∧ IZ j W' ∧ (∀ (k : Nat) (b : Obj), (w₁.putObj l (.loop { R with state := .busy })).heap[k]? = some b → w.heap.size ≤ k → b.isCells = false → W'.heap[k]? = some b)) a₁ (w₁.putObj l (.loop { R with state := .busy })))
        (fun _ _ _ => False)) { tmps := (ps.zip (encZ j)).foldl (fun t (p, v) => t.setIfInBounds p v) a.tmps, defers := [] } W)
    (hstop : ∀ (D j : Nat) (W : World), PZ j → w.heap.size ≤ D → IZ j W → W.heap[D]? = some (.deferred (some [])) → Code.ret.wpIn Fence.wide n Tryz.prog Q { a with defers := { target := .collected D, args := #[] } :: a.defers } W)
    (hdone : PN → ∀ (D : Nat) (W : World), w.heap.size ≤ D → I xs W → W.heap[D]? = some (.deferred (some [])) → Q .normal { a with defers := { target := .collected D, args := #[] } :: a.defers } W) (h1 : 1 ≤ n) :
    (Code.rangeFunc g ps assign body).wpIn Fence.wide n Tryz.prog Q a w := by
  refine wpIn_rangeFunc (fun fn _ => ?_)
  rw [show Fence.wide.round = none from rfl]
  obtain ⟨rec, hrec⟩ : ∃ rec : LoopState → Option Code → Loop, rec = fun st pe => { state := st, pending := pe, fn, tmps := a.tmps, params := ps, assign, body, defers := w.heap.size } := ⟨_, rfl⟩
  obtain ⟨W1, hW1⟩ : ∃ W1, (w.alloc (.deferred (some []))).alloc (.loop (rec .ready none)) = W1 := ⟨_, rfl⟩
  have hL1 : W1.heap[w.heap.size + 1]? = some (.loop (rec .ready none)) := by
    rw [← hW1]; have q := blk_new (w.alloc (.deferred (some []))) (.loop (rec .ready none)); rwa [World.size_alloc] at q
  have hK1 : W1.heap[w.heap.size]? = some (.deferred (some [])) := by rw [← hW1]; exact blk_alloc (blk_new w _) _
  have hO1 : Only gX w W1 := by rw [← hW1]; exact ((Only.refl gX w).alloc _).alloc _
  refine ⟨w.heap.size + 1, [{ target := .collected w.heap.size, args := #[] }], W1, { target := .fn (.func gf) lb, args := #[.func (.yield (w.heap.size + 1)) #[] #[]] }, W1, gf,
    #[.func (.yield (w.heap.size + 1)) #[] #[]] ++ lb, W1, ?_, ?_, fun _ _ => trivial, ?_, fun _ => h1, ?_⟩
  · rw [← hW1, hrec]; exact run_enterLoop_outer _ _ _ _ _
  · simp only [resolve, hg]
    simp [go_sem]
  · simp [invoke, go_sem, eg]
  · refine (hit (w.heap.size + 1) (fun pre W => I pre W ∧ W.heap[w.heap.size + 1]? = some (.loop (rec .ready none)) ∧ W.heap[w.heap.size]? = some (.deferred (some []))) (fun W => ∃ j, PZ j ∧ IZ j W ∧ W.heap[w.heap.size + 1]? = some (.loop (rec .done (some .ret))) ∧ W.heap[w.heap.size]? = some (.deferred (some []))) W1 ?_ ?_ ?_ ?_ ⟨hIX _ _ _ h0 hO1, hL1, hK1⟩).mono ?_
    · rintro pre W W' ⟨hi, hl, hk⟩ hO
      exact ⟨hIX _ _ _ hi hO, hO.blk hl (by omega), hO.blk hk (by omega)⟩
    · rintro pre x W o ⟨hi, hl, hk⟩ hpre
      have hlt := blk_lt hl
      have hl' := blk_alloc hl o
      have hk' := blk_alloc hk o
      have hy := run_yield (P := Tryz.prog) (args := encs x) hl' (by rw [hrec]; exact hps x)
      rw [hrec] at hy
      refine ⟨fn, _, assign, body, hy, roundIn_of_wpIn (F := Fence.wide) trivial (wpIn_mono (hround (w.heap.size + 1) pre x W (W.alloc o) o hi rfl (by omega) (by omega) hpre) ?_)⟩
      rintro e a1 w1 hp
      cases e with
      | normal =>
        obtain ⟨hkeep, hb⟩ := hp
        have hl1 := hkeep _ _ hl'
        have hk1 := hkeep _ _ hk'
        have hlt1 := blk_lt hl1
        refine ⟨_, run_beginRound hl1 (by rw [hrec]), ?_⟩
        refine wpIn_mono (hb _ hl1 (by omega)) ?_
        rintro e a2 w2 ⟨rfl, hI2, hkp⟩
        have hl2 := hkp (w.heap.size + 1) _ (World.putObj_heap_same hlt1) (.inr (.inr (.inr ⟨by omega, rfl⟩)))
        have hk2 := hkp w.heap.size _ ((World.putObj_heap_other (by omega)).trans hk1) (.inr (.inr (.inr ⟨Nat.le_refl _, rfl⟩)))
        have hend := run_endRound (P := Tryz.prog) none hl2
        refine ⟨_, _, hend, rfl, ⟨hIput _ _ _ _ _ (by omega) hl2 rfl hI2, ?_, (World.putObj_heap_other (by omega)).trans hk2⟩, ?_⟩
        · rw [hrec]; exact World.putObj_heap_same (blk_lt hl2)
        · intro k b hkb hwhich
          have hne : k ≠ w.heap.size + 1 := by
            rcases hwhich with h | h | h <;> omega
          refine (World.putObj_heap_other hne).trans (hkp k b ((World.putObj_heap_other hne).trans (hkeep k b hkb)) ?_)
          rcases hwhich with h | h | h
          · exact .inl h
          · exact .inr (.inl h)
          · exact .inr (.inr (.inl h))
      | _ => exact hp.elim
    · rintro j W o hz ⟨hi, hl, hk⟩ hsz
      have hlt := blk_lt hl
      have hl' := blk_alloc hl o
      have hk' := blk_alloc hk o
      have hy := run_yield (P := Tryz.prog) (args := encZ j) hl' (by rw [hrec]; exact hpz j)
      rw [hrec] at hy
      refine ⟨fn, _, assign, body, hy, roundIn_of_wpIn (F := Fence.wide) trivial (wpIn_mono (hroundZ (w.heap.size + 1) j W (W.alloc o) o hz hi hsz rfl (by omega) (by omega)) ?_)⟩
      rintro e a1 w1 hp
      cases e with
      | normal =>
        obtain ⟨hkeep, hb⟩ := hp
        have hl1 := hkeep _ _ hl'
        have hk1 := hkeep _ _ hk'
        have hlt1 := blk_lt hl1
        refine ⟨_, run_beginRound hl1 (by rw [hrec]), ?_⟩
        refine wpIn_mono (hb _ hl1 (by omega)) ?_
        rintro e a2 w2 ⟨rfl, hI2, hkp⟩
        have hl2 := hkp (w.heap.size + 1) _ (World.putObj_heap_same hlt1) (by omega) rfl
        have hk2 := hkp w.heap.size _ ((World.putObj_heap_other (by omega)).trans hk1) (Nat.le_refl _) rfl
        have hend := run_endRound (P := Tryz.prog) (some .ret) hl2
        refine ⟨_, _, hend, rfl, j, hz, hIZput _ _ _ _ _ (by omega) hl2 rfl hI2, ?_, (World.putObj_heap_other (by omega)).trans hk2⟩
        rw [hrec]; exact World.putObj_heap_same (blk_lt hl2)
      | _ => exact hp.elim
    · rw [← hW1]; exact ((Below.refl _ w).alloc (Nat.le_refl _) _).alloc (by simp) _
    · rintro e W2 ⟨⟨v, rfl⟩, (⟨⟨hi, hl, hk⟩, hpn⟩ | ⟨j, hz, hi, hl, hk⟩)⟩
      · have hend := run_endLoop (P := Tryz.prog) hl (by rw [hrec]; simp)
        refine ⟨_, _, hend, ?_⟩
        rw [hrec]
        exact hdone hpn _ _ (Nat.le_refl _) (hIput _ _ _ _ _ (by omega) hl rfl hi) ((World.putObj_heap_other (by omega)).trans hk)
      · have hend := run_endLoop (P := Tryz.prog) hl (by rw [hrec]; simp)
        refine ⟨_, _, hend, ?_⟩
        rw [hrec]
        exact hstop _ j _ hz (Nat.le_refl _) (hIZput _ _ _ _ _ (by omega) hl rfl hi) ((World.putObj_heap_other (by omega)).trans hk)
theorem post_hide2 {F : Fence} {n : Nat} {P : Program} {c : Code} {f : Exit → Act → World → Prop} {a : Act} {w : World} (h : ∀ K : Exit → Act → World → Prop, (∀ a w, f .ret a w → K .ret a w) → c.wpIn F n P K a w) : c.wpIn F n P f a w := h f (fun _ _ h => h)
/-- place and error where Tokens stops. -/
def tokPE (s : ByteArray) (xs : List S70) (j : Nat) : Int × Int := if xs.length = 8192 then ((j : Int), 3) else ((nextS s j).2.1, (nextS s j).2.2)
set_option maxHeartbeats 8000000 in
set_option maxRecDepth 100000 in
theorem tokens_Tokens_any.calls (s : ByteArray) (hs : s.size ≤ 65536) (xs : List S70) (st : Option Nat) (hT : ToksX s 0 xs st) (hn : xs.length ≤ 8192) (hst : ∀ j, st = some j → xs.length = 8192 ∨ (nextS s j).2.2 ≠ 0) (w : World) :
    Calls Tryz.prog 35 #[.string s] w fun e w' => (st = none ∧ ∃ v0_ : Value, e = .returned (.tuple #[v0_, .int .i64 0, .int .i64 0]) ∧ Kd.R k70 70 w' w.heap.size (fun k_ => True) v0_ xs ∧ Below w.heap.size w w') ∨ (∃ j, st = some j ∧ e = .returned (.tuple #[.slice none 0 0, .int .i64 (tokPE s xs j).1, .int .i64 (tokPE s xs j).2]) ∧ Below w.heap.size w w') := by
  have HT := Aside0.mk hT
  have HN := Aside0.mk hn
  have d0 : decide ((65536 : Int) < (s.size : Int)) = false := decide_eq_false (by omega)
  have d1 : decide (65536 < s.size) = false := decide_eq_false (by omega)
  have HST := Aside0.mk hst
  clear hT hn hst
  refine (callsIn_wide (n := 5)).1 ?_
  refine callsIn_of_wp_marks Tryz.func35 rfl trivial ?_ rfl
  simp only [Tryz.ntmps35, List.size_toArray, List.length_cons, List.length_nil, Nat.reduceAdd, Nat.reduceSub, Array.replicate_succ, Array.replicate_zero, List.push_toArray, List.append_toArray, List.nil_append, List.cons_append]
  gi_wp2_with (first | (refine ⟨trivial, ?_⟩; gi_at_call 57; refine (callsIn_wide.2 (tokens_each.calls _ _)).mono ?_; rintro e_ w1 ⟨rfl, hw1⟩; have HW1 := Aside0.mk hw1; clear hw1))
  have hb0 : w1.heap[w.heap.size]? = some (.cells #[.slice none 0 0] 62 (0, 0)) := by rw [HW1.out]; repeat (first | (refine blk_new' _ ?_; simp; done) | apply blk_alloc)
  have hb1 : w1.heap[w.heap.size + 1]? = some (.cells #[.int .i64 0] 3 (0, 0)) := by rw [HW1.out]; repeat (first | (refine blk_new' _ ?_; simp; done) | apply blk_alloc)
  have hb2 : w1.heap[w.heap.size + 1 + 1]? = some (.cells #[.int .i64 0] 28 (0, 0)) := by rw [HW1.out]; repeat (first | (refine blk_new' _ ?_; simp; done) | apply blk_alloc)
  have hb3 : w1.heap[w.heap.size + 1 + 1 + 1]? = some (.cells #[.slice none 0 0] 62 (0, 0)) := by rw [HW1.out]; repeat (first | (refine blk_new' _ ?_; simp; done) | apply blk_alloc)
  have hb4 : w1.heap[w.heap.size + 1 + 1 + 1 + 1]? = some (.cells #[.string s, .int .i64 0] 94 (0, 0)) := by rw [HW1.out]; repeat (first | (refine blk_new' _ ?_; simp; done) | apply blk_alloc)
  have hb5 : w1.heap[w.heap.size + 1 + 1 + 1 + 1 + 1]? = some (.cells #[.pointer (some ⟨w.heap.size + 1 + 1 + 1 + 1, 0, none⟩)] 118 (0, 0)) := by rw [HW1.out]; repeat (first | (refine blk_new' _ ?_; simp; done) | apply blk_alloc)
  have hsz : w1.heap.size = w.heap.size + 1 + 1 + 1 + 1 + 1 + 1 := by rw [HW1.out]; simp
  have hbl : Below w.heap.size w w1 := by rw [HW1.out]; exact ((((((Below.refl _ _).alloc (Nat.le_refl _) _).alloc (by simp) _).alloc (by simp; omega) _).alloc (by simp; omega) _).alloc (by simp; omega) _).alloc (by simp; omega) _
  refine range_scanX (n := 5) (gf := 77) (lb := #[.pointer (some ⟨w.heap.size + 1 + 1 + 1 + 1 + 1, 0, none⟩)]) (w.heap.size + 1 + 1 + 1 + 1) (w.heap.size + 1 + 1 + 1 + 1 + 1) xs (fun x => #[.agg #[.int .u8 x.f0, .string x.f1, .int .i64 x.f2, .int .i64 x.f3], .agg #[.int .i64 0, .int .i64 0]]) (st = none) (fun j => st = some j) (fun j W => Scan W (w.heap.size + 1 + 1 + 1 + 1) s j) (fun j => #[.agg #[.int .u8 (nextS s j).1.f0, .string (nextS s j).1.f1, .int .i64 (nextS s j).1.f2, .int .i64 (nextS s j).1.f3], .agg #[.int .i64 (nextS s j).2.1, .int .i64 (nextS s j).2.2]]) ?hg (enters_of Tryz.func77 (by kernel_rfl) rfl) (fun _ => rfl) (fun _ => rfl) (by omega) (by omega)
    (fun l JJ JX W1 hJ hY hZ hb h0 => (tokens_each1_any (5 - 1) l (w.heap.size + 1 + 1 + 1 + 1) (w.heap.size + 1 + 1 + 1 + 1 + 1) s hs xs st HT.out JJ JX (by omega) hJ hY (fun j W o hj hJx hSx _ => hZ j W o hj hJx hSx) W1 ⟨(hb.block _ (by omega)).trans hb4⟩ ((hb.block _ (by omega)).trans hb5) h0).mono (fun e W' h => ⟨h.1, h.2.elim (fun q => .inl ⟨q.2, q.1⟩) (fun q => .inr q.2)⟩))
    (fun pre W => ∃ v, W.heap[w.heap.size + 1 + 1 + 1]? = some (.cells #[v] 62 (0, 0)) ∧ Kd.R k70 70 W w.heap.size (fun k => w.heap.size + 1 + 1 + 1 + 1 + 1 + 1 ≤ k) v pre ∧ W.heap[w.heap.size]? = some (.cells #[.slice none 0 0] 62 (0, 0)) ∧ W.heap[w.heap.size + 1]? = some (.cells #[.int .i64 0] 3 (0, 0)) ∧ W.heap[w.heap.size + 1 + 1]? = some (.cells #[.int .i64 0] 28 (0, 0)) ∧ Below w.heap.size w W) ?hIX ?hIput ?h0 ?round (fun j W => W.heap[w.heap.size]? = some (.cells #[.slice none 0 0] 62 (0, 0)) ∧ W.heap[w.heap.size + 1]? = some (.cells #[.int .i64 (tokPE s xs j).1] 3 (0, 0)) ∧ W.heap[w.heap.size + 1 + 1]? = some (.cells #[.int .i64 (tokPE s xs j).2] 28 (0, 0)) ∧ Below w.heap.size w W) ?hIZput ?roundZ ?stop ?done (by omega)
  case hg => rfl
  case hIX =>
    rintro pre W W' ⟨v, h1, h2, h3, h4, h5, h6⟩ hO
    exact ⟨v, hO.blk h1 (by omega), Kd.R_step h2 (fun k hk hlt => hO.block k hlt (by omega)), hO.blk h3 (by omega), hO.blk h4 (by omega), hO.blk h5 (by omega), h6.trans (hO.below (by omega) (by have := h6.size; omega))⟩
  case hIput =>
    rintro pre W k o o' hk ho hc ⟨v, h1, h2, h3, h4, h5, h6⟩
    have ne : ∀ {j : Nat} {c t f}, W.heap[j]? = some (.cells c t f) → (W.putObj k o').heap[j]? = some (.cells c t f) := fun {j} {c} {t} {f} h => (World.putObj_heap_other (by rintro rfl; rw [h] at ho; cases ho; cases hc)).trans h
    refine ⟨v, ne h1, Kd.R_mono (Kd.R_move (Kd.R_bound h2) (fun j hj => ?_)) (fun _ hk => hk.1), ne h3, ne h4, ne h5, h6.trans ⟨rfl, rfl, rfl, by simp, fun j hj => World.putObj_heap_other (by omega)⟩⟩
    obtain ⟨_, _, _, q, _, cells, hcl⟩ := hj
    exact (ne hcl).trans hcl.symm
  case h0 => exact ⟨_, hb3, Kd.R_nil _ _ _ _ _, hb0, hb1, hb2, hbl⟩
  case round =>
    intro l pre x W0 W o hI hW hg0 hbx0 hpre
    obtain ⟨v, h1, h2, h3, h4, h5, h6⟩ := hI
    obtain ⟨A, cap, rfl⟩ := Kd.R_slice h2
    subst hW
    have hpl : pre.length < xs.length := by
      have q := hpre.length_le
      rw [List.length_append, List.length_singleton] at q; omega
    refine then_hide (fun K hK => ?_)
    have HK := Aside0.mk hK
    have H1 := Aside0.mk h1
    have H2 := Aside0.mk h2
    have H3 := Aside0.mk h3
    have H4 := Aside0.mk h4
    have H5 := Aside0.mk h5
    have H6 := Aside0.mk h6
    have HP := Aside0.mk hpre
    clear hK h1 h2 h3 h4 h5 h6 hpre hb0 hb1 hb2 hb3 hb4 hb5 hbl
    simp only [List.zip_toArray, List.zip_cons_cons, List.zip_nil_right, List.foldl_toArray, List.foldl_cons, List.foldl_nil, List.setIfInBounds_toArray, List.set_cons_zero, List.set_cons_succ]
    gi_wp2_with (fail)
    refine HK.out _ _ ⟨fun k b hb => blk_alloc (blk_alloc hb _) _, fun R hR hl => ?_⟩
    obtain ⟨W3, hW3⟩ : ∃ W3, W3 = (((W0.alloc o).alloc (.cells #[.int .u8 x.f0, .string x.f1, .int .i64 x.f2, .int .i64 x.f3] 70)).alloc (.cells #[.int .i64 0, .int .i64 0] 99)).putObj l (.loop { R with state := .busy }) := ⟨_, rfl⟩
    rw [← hW3]
    obtain ⟨Wb, hWb⟩ : ∃ Wb, Wb = ((W0.alloc o).alloc (.cells #[.int .u8 x.f0, .string x.f1, .int .i64 x.f2, .int .i64 x.f3] 70)).alloc (.cells #[.int .i64 0, .int .i64 0] 99) := ⟨_, rfl⟩
    rw [← hWb] at hW3 hR
    have hbb : Below W0.heap.size W0 Wb := by rw [hWb]; exact (((Below.refl _ _).alloc (Nat.le_refl _) _).alloc (by simp) _).alloc (by simp; omega) _
    have hcell : ∀ {j : Nat} {c t f}, Wb.heap[j]? = some (.cells c t f) → W3.heap[j]? = some (.cells c t f) := fun {j} {c} {t} {f} h => by
      rw [hW3]
      exact (World.putObj_heap_other (by rintro rfl; rw [h] at hR; cases hR)).trans h
    have hold : ∀ {j : Nat} {c t f}, W0.heap[j]? = some (.cells c t f) → W3.heap[j]? = some (.cells c t f) := fun h => hcell ((hbb.block _ (blk_lt h)).trans h)
    have hs3 : W3.heap.size = W0.heap.size + 1 + 1 + 1 := by rw [hW3, hWb]; simp
    have k1 := hold H1.out
    have kt : W3.heap[W0.heap.size + 1]? = some (.cells #[.int .u8 x.f0, .string x.f1, .int .i64 x.f2, .int .i64 x.f3] 70 (0, 0)) := hcell (by rw [hWb]; refine blk_alloc ?_ _; exact blk_new' _ (by simp))
    have kf : W3.heap[W0.heap.size + 1 + 1]? = some (.cells #[.int .i64 0, .int .i64 0] 99 (0, 0)) := hcell (by rw [hWb]; exact blk_new' _ (by simp))
    have kr : Kd.R k70 70 W3 w.heap.size (fun k => w.heap.size + 1 + 1 + 1 + 1 + 1 + 1 ≤ k) (.slice A pre.length cap) pre := by
      refine Kd.R_mono (Kd.R_move (Kd.R_bound (Kd.R_below H2.out hbb)) (fun j hj => ?_)) (fun _ hk => hk.1)
      obtain ⟨_, _, _, q, _, cells, hcl⟩ := hj
      exact (hcell hcl).trans hcl.symm
    have kb : Below w.heap.size w W3 := H6.out.trans ((hbb.mono H6.out.size).trans ⟨by rw [hW3]; rfl, by rw [hW3]; rfl, by rw [hW3]; rfl, by rw [hW3]; simp, fun j hj => by rw [hW3]; exact World.putObj_heap_other (by omega)⟩)
    have q1 := blk_cell k1 0
    have qt0 := blk_cell kt 0
    have qt1 := blk_cell kt 1
    have qt2 := blk_cell kt 2
    have qt3 := blk_cell kt 3
    have qf0 := blk_cell kf 0
    have qf1 := blk_cell kf 1
    have e1 : ((pre.length : Int) == 8192) = false := beq_eq_false_iff_ne.mpr (by have := HN.out; omega)
    have e2 : (pre.length == 8192) = false := beq_eq_false_iff_ne.mpr (by have := HN.out; omega)
    refine post_hide (fun K2 hK2 => ?_)
    have HK2 := Aside0.mk hK2
    have HKR := Aside0.mk kr
    have HKB := Aside0.mk kb
    have HK1 := Aside0.mk k1
    have HOLD := Aside0.mk (@hold)
    have HS3 := Aside0.mk hs3
    clear hK2 kr kb k1 kt kf hcell hold hbb hWb hR hs3 hW3
    gi_wp2_with (first | (gi_at_builtin; refine R_append_in k70 (w0 := w) w.heap.size rfl (.tmp 31) (.tmp 33) 62 70 (.agg #[.int .u8 0, .string ⟨#[]⟩, .int .i64 0, .int .i64 0]) 40 rfl Tryz.underlying62 info70 rfl (by decide) (by omega) (.slice A pre.length cap) pre x [.int .u8 x.f0, .string x.f1, .int .i64 x.f2, .int .i64 x.f3] (fun k => w.heap.size + 1 + 1 + 1 + 1 + 1 + 1 ≤ k) (fun _ => False) rfl rfl ?aP (fun _ h => h.elim) ?aF HKR.out HKB.out ?aS ?aL ?_; (case aP => exact k70_mkM _ _ _ x); (case aF => intro k hk; have q1 := HKB.out.size; have q2 := HS3.out; have q3 := H6.out.size; omega); (case aS => exact HKB.out.size); (case aL => have := HN.out; omega); intro v1 w4 ho hb hg; obtain ⟨A1, cap1, rfl⟩ := Kd.R_slice ho; have HO := Aside0.mk ho; have HB := Aside0.mk hb; have HG := Aside0.mk hg; have c0 := blk_cell (blk_grown HK1.out hg (Kd.R_away HKR.out (fun k hk => by omega))) 0; have c1 := blk_frozen (blk_grown HK1.out hg (Kd.R_away HKR.out (fun k hk => by omega))) 0; clear ho hb hg))
    refine HK2.out _ _ ⟨by first | rfl | trivial, ?_⟩
    have HO' := HO.out
    rw [List.length_append, List.length_singleton] at HO'
    have away : ∀ g : Nat, g < w.heap.size + 1 + 1 + 1 + 1 + 1 + 1 → some g ≠ (Value.slice A pre.length cap).ownBlock := fun g hg => Kd.R_away HKR.out (fun k hk => by omega)
    refine ⟨⟨_, blk_put (blk_grown HK1.out HG.out (away _ (by omega))) 0 _ rfl, Kd.R_far HO' (fun k hk => by simp only; omega) _, ?_, ?_, ?_, HB.out.setCell (by simp only; omega) _⟩, ?_⟩
    · exact (Below.heap_setCell _ _ _ _ (by simp only; omega)).trans (blk_grown (HOLD.out H3.out) HG.out (away _ (by omega)))
    · exact (Below.heap_setCell _ _ _ _ (by simp only; omega)).trans (blk_grown (HOLD.out H4.out) HG.out (away _ (by omega)))
    · exact (Below.heap_setCell _ _ _ _ (by simp only; omega)).trans (blk_grown (HOLD.out H5.out) HG.out (away _ (by omega)))
    · intro k b hb hk
      have hne : some k ≠ (Value.slice A pre.length cap).ownBlock := Kd.R_away (Kd.R_bound H2.out) (fun j hj => by
        obtain ⟨h1, _, h2, q, _, cells, hcl⟩ := hj
        rintro rfl
        rcases hk with hk | hk | hk | ⟨hk, hc⟩
        · omega
        · omega
        · omega
        · rw [HOLD.out hcl] at hb; cases hb; cases hc)
      have hne2 : k ≠ w.heap.size + 1 + 1 + 1 := by rcases hk with hk | hk | hk | ⟨hk, hc⟩ <;> omega
      exact (Below.heap_setCell _ _ _ _ hne2).trans (blk_grown hb HG.out hne)
  case hIZput =>
    rintro j W k o o' hk ho hc ⟨h3, h4, h5, h6⟩
    have ne : ∀ {j : Nat} {c t f}, W.heap[j]? = some (.cells c t f) → (W.putObj k o').heap[j]? = some (.cells c t f) := fun {j} {c} {t} {f} h => (World.putObj_heap_other (by rintro rfl; rw [h] at ho; cases ho; cases hc)).trans h
    exact ⟨ne h3, ne h4, ne h5, h6.trans ⟨rfl, rfl, rfl, by simp, fun j hj => World.putObj_heap_other (by omega)⟩⟩
  case roundZ =>
    intro l j W0 W o hz hI hSc hW hg0 hbx0
    obtain ⟨v, h1, h2, h3, h4, h5, h6⟩ := hI
    obtain ⟨A, cap, rfl⟩ := Kd.R_slice h2
    subst hW
    have hcase := HST.out j hz
    have hpe : tokPE s xs j = if xs.length = 8192 then ((j : Int), 3) else ((nextS s j).2.1, (nextS s j).2.2) := rfl
    obtain ⟨pe, hpe2⟩ : ∃ pe, pe = tokPE s xs j := ⟨_, rfl⟩
    rw [← hpe2] at hpe
    simp only [← hpe2]
    obtain ⟨r, hr⟩ : ∃ r, r = nextS s j := ⟨_, rfl⟩
    simp only [← hr] at hpe hcase ⊢
    clear hpe2 hr
    obtain ⟨⟨r0, r1, r2, r3⟩, rp, re⟩ := r
    simp only at hpe hcase ⊢
    refine then_hide (fun K hK => ?_)
    have HK := Aside0.mk hK
    have HPE := Aside0.mk hpe
    have HCA := Aside0.mk hcase
    have H1 := Aside0.mk h1
    have H3 := Aside0.mk h3
    have H4 := Aside0.mk h4
    have H5 := Aside0.mk h5
    have H6 := Aside0.mk h6
    have HSC := Aside0.mk hSc
    clear hK hpe hcase h1 h2 h3 h4 h5 h6 hSc hb0 hb1 hb2 hb3 hb4 hb5 hbl
    simp only [List.zip_toArray, List.zip_cons_cons, List.zip_nil_right, List.foldl_toArray, List.foldl_cons, List.foldl_nil, List.setIfInBounds_toArray, List.set_cons_zero, List.set_cons_succ]
    gi_wp2_with (fail)
    refine HK.out _ _ ⟨fun k b hb => blk_alloc (blk_alloc hb _) _, fun R hR hl => ?_⟩
    obtain ⟨W3, hW3⟩ : ∃ W3, W3 = (((W0.alloc o).alloc (.cells #[.int .u8 r0, .string r1, .int .i64 r2, .int .i64 r3] 70)).alloc (.cells #[.int .i64 rp, .int .i64 re] 99)).putObj l (.loop { R with state := .busy }) := ⟨_, rfl⟩
    rw [← hW3]
    obtain ⟨Wb, hWb⟩ : ∃ Wb, Wb = ((W0.alloc o).alloc (.cells #[.int .u8 r0, .string r1, .int .i64 r2, .int .i64 r3] 70)).alloc (.cells #[.int .i64 rp, .int .i64 re] 99) := ⟨_, rfl⟩
    rw [← hWb] at hW3 hR
    have hbb : Below W0.heap.size W0 Wb := by rw [hWb]; exact (((Below.refl _ _).alloc (Nat.le_refl _) _).alloc (by simp) _).alloc (by simp; omega) _
    have hcell : ∀ {j : Nat} {c t f}, Wb.heap[j]? = some (.cells c t f) → W3.heap[j]? = some (.cells c t f) := fun {j} {c} {t} {f} h => by
      rw [hW3]
      exact (World.putObj_heap_other (by rintro rfl; rw [h] at hR; cases hR)).trans h
    have hold : ∀ {j : Nat} {c t f}, W0.heap[j]? = some (.cells c t f) → W3.heap[j]? = some (.cells c t f) := fun h => hcell ((hbb.block _ (blk_lt h)).trans h)
    have k1 := hold H1.out
    have kt : W3.heap[W0.heap.size + 1]? = some (.cells #[.int .u8 r0, .string r1, .int .i64 r2, .int .i64 r3] 70 (0, 0)) := hcell (by rw [hWb]; refine blk_alloc ?_ _; exact blk_new' _ (by simp))
    have kf : W3.heap[W0.heap.size + 1 + 1]? = some (.cells #[.int .i64 rp, .int .i64 re] 99 (0, 0)) := hcell (by rw [hWb]; exact blk_new' _ (by simp))
    have ks := hold HSC.out.blk
    have ka := hold H3.out
    have kc := hold H4.out
    have kd := hold H5.out
    have kb : Below w.heap.size w W3 := H6.out.trans ((hbb.mono H6.out.size).trans ⟨by rw [hW3]; rfl, by rw [hW3]; rfl, by rw [hW3]; rfl, by rw [hW3]; simp, fun j hj => by rw [hW3]; exact World.putObj_heap_other (by omega)⟩)
    have q1 := blk_cell k1 0
    have qf0 := blk_cell kf 0
    have qf1 := blk_cell kf 1
    have qs1 := blk_cell ks 1
    have qa := blk_cell ka 0
    have qc := blk_cell kc 0
    have qd := blk_cell kd 0
    have za := blk_frozen ka 0
    have zc := blk_frozen kc 0
    have zd := blk_frozen kd 0
    refine post_hide2 (fun K2 hK2 => ?_)
    have HK2 := Aside0.mk hK2
    have HKB := Aside0.mk kb
    have HA := Aside0.mk ka
    have HC := Aside0.mk kc
    have HD := Aside0.mk kd
    clear hK2 kb k1 kt kf ks ka kc kd hcell hold hbb hWb hR hW3
    have fin : ∀ v1 v2 : Int, ((((W3.setCell ⟨w.heap.size, 0, none⟩ (.slice none 0 0)).setCell ⟨w.heap.size + 1, 0, none⟩ (.int .i64 v1)).setCell ⟨w.heap.size + 1 + 1, 0, none⟩ (.int .i64 v2))).heap[w.heap.size]? = some (.cells #[.slice none 0 0] 62 (0, 0)) ∧ ((((W3.setCell ⟨w.heap.size, 0, none⟩ (.slice none 0 0)).setCell ⟨w.heap.size + 1, 0, none⟩ (.int .i64 v1)).setCell ⟨w.heap.size + 1 + 1, 0, none⟩ (.int .i64 v2))).heap[w.heap.size + 1]? = some (.cells #[.int .i64 v1] 3 (0, 0)) ∧ ((((W3.setCell ⟨w.heap.size, 0, none⟩ (.slice none 0 0)).setCell ⟨w.heap.size + 1, 0, none⟩ (.int .i64 v1)).setCell ⟨w.heap.size + 1 + 1, 0, none⟩ (.int .i64 v2))).heap[w.heap.size + 1 + 1]? = some (.cells #[.int .i64 v2] 28 (0, 0)) ∧ Below w.heap.size w ((((W3.setCell ⟨w.heap.size, 0, none⟩ (.slice none 0 0)).setCell ⟨w.heap.size + 1, 0, none⟩ (.int .i64 v1)).setCell ⟨w.heap.size + 1 + 1, 0, none⟩ (.int .i64 v2))) := fun v1 v2 =>
      ⟨(Below.heap_setCell _ _ _ _ (by simp only; omega)).trans ((Below.heap_setCell _ _ _ _ (by simp only; omega)).trans (blk_put HA.out 0 _ rfl)), (Below.heap_setCell _ _ _ _ (by simp only; omega)).trans (blk_put ((Below.heap_setCell _ _ _ _ (by simp only; omega)).trans HC.out) 0 _ rfl), blk_put ((Below.heap_setCell _ _ _ _ (by simp only; omega)).trans ((Below.heap_setCell _ _ _ _ (by simp only; omega)).trans HD.out)) 0 _ rfl, ((HKB.out.setCell (by simp only; omega) _).setCell (by simp only; omega) _).setCell (by simp only; omega) _⟩
    have fin2 : ∀ (v1 v2 : Int) (k : Nat) (b : Obj), W3.heap[k]? = some b → b.isCells = false → ((((W3.setCell ⟨w.heap.size, 0, none⟩ (.slice none 0 0)).setCell ⟨w.heap.size + 1, 0, none⟩ (.int .i64 v1)).setCell ⟨w.heap.size + 1 + 1, 0, none⟩ (.int .i64 v2))).heap[k]? = some b := fun v1 v2 k b hb hc => by
      have n1 : k ≠ w.heap.size := by rintro rfl; rw [HA.out] at hb; cases hb; cases hc
      have n2 : k ≠ w.heap.size + 1 := by rintro rfl; rw [HC.out] at hb; cases hb; cases hc
      have n3 : k ≠ w.heap.size + 1 + 1 := by rintro rfl; rw [HD.out] at hb; cases hb; cases hc
      exact (Below.heap_setCell _ _ _ _ (by simpa using n3)).trans ((Below.heap_setCell _ _ _ _ (by simpa using n2)).trans ((Below.heap_setCell _ _ _ _ (by simpa using n1)).trans hb))
    have n1 : W0.heap.size + 1 + 1 ≠ w.heap.size := by have := H6.out.size; omega
    have n2 : W0.heap.size + 1 + 1 ≠ w.heap.size + 1 := by have := H6.out.size; omega
    have n3 : W0.heap.size + 1 + 1 ≠ w.heap.size + 1 + 1 := by have := H6.out.size; omega
    have HF := Aside0.mk fin
    have HF2 := Aside0.mk fin2
    clear fin fin2
    by_cases h8 : xs.length = 8192
    · have e1 : ((xs.length : Int) == 8192) = true := by rw [h8]; rfl
      have e2 : (xs.length == 8192) = true := by rw [h8]; rfl
      have HP2 : Aside0 (pe = ((j : Int), 3)) := ⟨by rw [HPE.out, if_pos h8]⟩
      clear h8
      gi_wp2_with (fail)
      gi_region
      all_goals (gi_wp2_with (fail); refine HK2.out _ _ ?_; rw [HP2.out]; exact ⟨trivial, ⟨(HF.out (j : Int) 3).1, (HF.out (j : Int) 3).2.1, (HF.out (j : Int) 3).2.2.1, below_drew1 (HF.out (j : Int) 3).2.2.2⟩, fun k b hb _ hc => HF2.out (j : Int) 3 k b hb hc⟩)
    · have e1 : ((xs.length : Int) == 8192) = false := beq_eq_false_iff_ne.mpr (by omega)
      have e2 : (xs.length == 8192) = false := beq_eq_false_iff_ne.mpr h8
      have hre : re ≠ 0 := HCA.out.elim (fun q => absurd q h8) id
      have e3 : (re == 0) = false := beq_eq_false_iff_ne.mpr hre
      have HP2 : Aside0 (pe = (rp, re)) := ⟨by rw [HPE.out, if_neg h8]⟩
      clear h8 hre
      gi_wp2_with (fail)
      gi_region
      all_goals (gi_wp2_with (fail); refine HK2.out _ _ ?_; rw [HP2.out]; exact ⟨trivial, ⟨(HF.out (rp) re).1, (HF.out (rp) re).2.1, (HF.out (rp) re).2.2.1, below_drew1 (HF.out (rp) re).2.2.2⟩, fun k b hb _ hc => HF2.out (rp) re k b hb hc⟩)
  case stop =>
    intro D j W hz hD hI hK
    obtain ⟨d2, d3, d4, dB⟩ := hI
    have dD := hK
    clear hb0 hb1 hb2 hb3 hb4 hb5 hbl
    have HZ0 := Aside0.mk hz
    obtain ⟨pe, hpe2⟩ : ∃ pe, pe = tokPE s xs j := ⟨_, rfl⟩
    rw [← hpe2] at d3 d4
    have HPE := Aside0.mk hpe2
    have HD2 := Aside0.mk d2
    have HD3 := Aside0.mk d3
    have HD4 := Aside0.mk d4
    have HDB := Aside0.mk dB
    have HDD := Aside0.mk dD
    clear hpe2 hz hK d2 d3 d4 dB dD
    gi_wp2_with (fail)
    refine ⟨by simp, .inl ⟨_, _, rfl, run_takeDeferred HDD.out, ?_⟩⟩
    have ne : ∀ {j : Nat} {c t f}, W.heap[j]? = some (.cells c t f) → (W.putObj D (.deferred none)).heap[j]? = some (.cells c t f) := fun {j} {c} {t} {f} h => (World.putObj_heap_other (by rintro rfl; rw [h] at HDD; have q := HDD.out; cases q)).trans h
    have e2 := blk_cell (ne HD2.out) 0
    have e3 := blk_cell (ne HD3.out) 0
    have e4 := blk_cell (ne HD4.out) 0
    refine ⟨.tuple #[.slice none 0 0, .int .i64 pe.1, .int .i64 pe.2], ?_, .inr ⟨j, HZ0.out, by rw [HPE.out], HDB.out.trans ⟨rfl, rfl, rfl, by simp, fun j hj => World.putObj_heap_other (by omega)⟩⟩⟩
    simp [results, Tryz.results35, go_sem, e2, e3, e4]
  case done =>
    intro hPN D W hD hI hK
    have HPN := Aside0.mk hPN
    clear hPN
    obtain ⟨v, h1, h2, h3, h4, h5, h6⟩ := hI
    obtain ⟨A, cap, rfl⟩ := Kd.R_slice h2
    clear hb0 hb1 hb2 hb3 hb4 hb5 hbl
    have q1 := blk_cell h1 0
    have q2 := blk_cell h3 0
    have q3 := blk_cell h4 0
    have q4 := blk_cell h5 0
    have z2 := blk_frozen h3 0
    have z3 := blk_frozen h4 0
    have z4 := blk_frozen h5 0
    have H1 := Aside0.mk h1
    have H2 := Aside0.mk h2
    have H3 := Aside0.mk h3
    have H4 := Aside0.mk h4
    have H5 := Aside0.mk h5
    have H6 := Aside0.mk h6
    have HK := Aside0.mk hK
    clear h1 h2 h3 h4 h5 h6 hK
    gi_wp2_with (fail)
    obtain ⟨WF, hWF⟩ : ∃ WF, WF = ((W.setCell ⟨w.heap.size, 0, none⟩ (.slice A xs.length cap)).setCell ⟨w.heap.size + 1, 0, none⟩ (.int .i64 0)).setCell ⟨w.heap.size + 1 + 1, 0, none⟩ (.int .i64 0) := ⟨_, rfl⟩
    rw [← hWF]
    have d2 : WF.heap[w.heap.size]? = some (.cells #[.slice A xs.length cap] 62 (0, 0)) := by
      rw [hWF]
      exact (Below.heap_setCell _ _ _ _ (by simp only; omega)).trans ((Below.heap_setCell _ _ _ _ (by simp only; omega)).trans (blk_put H3.out 0 _ rfl))
    have d3 : WF.heap[w.heap.size + 1]? = some (.cells #[.int .i64 0] 3 (0, 0)) := by
      rw [hWF]
      exact (Below.heap_setCell _ _ _ _ (by simp only; omega)).trans (blk_put ((Below.heap_setCell _ _ _ _ (by simp only; omega)).trans H4.out) 0 _ rfl)
    have d4 : WF.heap[w.heap.size + 1 + 1]? = some (.cells #[.int .i64 0] 28 (0, 0)) := by
      rw [hWF]
      exact blk_put ((Below.heap_setCell _ _ _ _ (by simp only; omega)).trans ((Below.heap_setCell _ _ _ _ (by simp only; omega)).trans H5.out)) 0 _ rfl
    have dD : WF.heap[D]? = some (.deferred (some [])) := by
      rw [hWF]
      exact (Below.heap_setCell _ _ _ _ (by simp only; omega)).trans ((Below.heap_setCell _ _ _ _ (by simp only; omega)).trans ((Below.heap_setCell _ _ _ _ (by simp only; omega)).trans HK.out))
    have dB : Below w.heap.size w WF := by
      rw [hWF]
      exact ((H6.out.setCell (by simp only; omega) _).setCell (by simp only; omega) _).setCell (by simp only; omega) _
    have dR : Kd.R k70 70 WF w.heap.size (fun k => w.heap.size + 1 + 1 + 1 + 1 + 1 + 1 ≤ k) (.slice A xs.length cap) xs := by
      rw [hWF]
      exact Kd.R_far (Kd.R_far (Kd.R_far H2.out (fun k hk => by simp only; omega) _) (fun k hk => by simp only; omega) _) (fun k hk => by simp only; omega) _
    refine ⟨by simp, .inl ⟨_, _, rfl, run_takeDeferred dD, ?_⟩⟩
    have ne : ∀ {j : Nat} {c t f}, WF.heap[j]? = some (.cells c t f) → (WF.putObj D (.deferred none)).heap[j]? = some (.cells c t f) := fun {j} {c} {t} {f} h => (World.putObj_heap_other (by rintro rfl; rw [h] at dD; cases dD)).trans h
    have e2 := blk_cell (ne d2) 0
    have e3 := blk_cell (ne d3) 0
    have e4 := blk_cell (ne d4) 0
    refine ⟨.tuple #[.slice A xs.length cap, .int .i64 0, .int .i64 0], ?_, .inl ⟨HPN.out, _, rfl, ?_, dB.trans ⟨rfl, rfl, rfl, by simp, fun j hj => World.putObj_heap_other (by omega)⟩⟩⟩
    · simp [results, Tryz.results35, go_sem, e2, e3, e4]
    · refine Kd.R_mono (Kd.R_move (Kd.R_bound dR) (fun j hj => ?_)) (fun _ _ => trivial)
      obtain ⟨_, _, _, q, _, cells, hcl⟩ := hj
      exact (ne hcl).trans hcl.symm
end Go.Proofs.YtjapfefiaijfcaaGreatDoor.Q
namespace Go.Proofs.YtjapfefiaijfcaaGreatDoor.Q
open Go.RowKit Go.Proofs.YtjapfefiaijfcaaGreatDoorW.PrintWords Go.Proofs.YtjapfefiaijfcaaGreatDoorW.PrintLast Go.Proofs.YtjapfefiaijfcaaGreatDoorW.PrintMore
set_option linter.unusedVariables false
attribute [local go_sem] Oper.semAt_some
/-- a text of digits alone. -/
def DigT (x : ByteArray) : Prop := ∀ k : Nat, k < x.size → isDigit (bt x (k : Int)) = true
theorem whileFrom_all (p : Int → Bool) (s : ByteArray) : ∀ (d i : Nat), i + d = s.size → ∀ k : Nat, i ≤ k → k < whileFrom p s d i → p (bt s (k : Int)) = true := by
  intro d
  induction d with
  | zero => intro i _ k h1 h2; exact absurd h2 (by simp only [whileFrom]; omega)
  | succ d ih =>
    intro i hi k h1 h2
    simp only [whileFrom] at h2
    split at h2
    case isTrue hp =>
      rcases Nat.lt_or_ge i k with q | q
      · exact ih (i + 1) (by omega) k q h2
      · obtain rfl : k = i := by omega
        exact hp
    case isFalse => omega
theorem number_dig (s : ByteArray) (i : Nat) (hi : i < s.size) (h : (numberS s i).f0 = 5) : DigT (numberS s i).f1 := by
  have h1 := whileS_le isDigit s i (by omega)
  have hd : DigT (s.extract i (whileS isDigit s i)) := by
    intro k hk
    have hz : (s.extract i (whileS isDigit s i)).size = whileS isDigit s i - i := by simp [ByteArray.size_extract]; omega
    rw [bt_cut s i _ k h1.2 (by omega)]
    exact whileFrom_all isDigit s (s.size - i) i (by omega) _ (by omega) (by have : whileFrom isDigit s (s.size - i) i = whileS isDigit s i := rfl; omega)
  unfold numberS at h ⊢
  simp only at h ⊢
  split at h
  case isTrue => exact absurd h (by first | (simp; done) | (simp [strErr]; done))
  case isFalse h0 =>
    rw [if_neg h0]
    split at h
    case isTrue h1 => rw [if_pos h1]; exact hd
    case isFalse => exact absurd h (by first | (simp; done) | (simp [strErr]; done))
theorem strRun_zero (s : ByteArray) (p : Nat) : ∀ (N : Nat) (st : StrSt) (r : StrR), strRun s p N st = some r → r.2.2 ≠ 0 → r.1.f0 = 0 := by
  intro N
  induction N with
  | zero => intro st r h; cases h
  | succ N ih =>
    intro st r h hne
    unfold strRun at h
    split at h
    case h_1 st2 _ => exact ih _ r h hne
    case h_2 r2 e =>
      obtain rfl := Option.some.inj h
      clear h ih
      cases st <;> simp only [strStep] at e <;> (repeat' (split at e)) <;> first | (cases e; done) | (obtain rfl := Sum.inr.inj e; first | rfl | exact absurd rfl hne)
theorem next_dig (s : ByteArray) (i : Nat) (hi : i < s.size) (h : (nextS s i).1.f0 = 5) : DigT (nextS s i).1.f1 := by
  unfold nextS at h ⊢
  split at h
  case isTrue => exact absurd h (by first | (simp; done) | (simp [strErr]; done))
  case isFalse h0 =>
    rw [if_neg h0]
    split at h
    case isTrue h1 => rw [if_pos h1]; exact number_dig s i hi h
    case isFalse h1 =>
      split at h
      case isTrue =>
        obtain ⟨r, hr, hg⟩ := strRun_ok s i hi (strMu s (.plain (i + 1) []) + 1) (.plain (i + 1) []) (Nat.lt_succ_self _) (by simp only [StrInv]; omega)
        rw [hr] at h
        exfalso
        rcases hg with ⟨a, b, c, d, e, f⟩ | ⟨a, b, c⟩
        · have h : r.1.f0 = 5 := h
          omega
        · have : r.1.f0 = 0 := strRun_zero s i _ _ r hr (by rcases a with a | a <;> omega)
          have h : r.1.f0 = 5 := h
          omega
      case isFalse =>
        split at h
        case isTrue => exact absurd h (by first | (simp; done) | (simp [strErr]; done))
        case isFalse => exact absurd h (by first | (simp; done) | (simp [strErr]; done))
def StrBound : StrSt → Prop
  | .plain i b => b.length ≤ i
  | .slash i b => b.length + 1 ≤ i
  | .broken i b => b.length + 1 ≤ i
  | .digits i b _ _ => b.length + 1 ≤ i
theorem strNums_size (b : List Int) : (strOfNums b).size = b.length := by simp [strOfNums, ByteArray.size]
theorem skipB_ge (s : ByteArray) : ∀ d i, i ≤ skipB s d i := by
  intro d
  induction d with
  | zero => intro i; exact Nat.le_refl _
  | succ d ih =>
    intro i
    unfold skipB
    split
    · split
      · have := ih (i + 1); omega
      · omega
    · omega
theorem strStep_bound (s : ByteArray) (p : Nat) (st : StrSt) (h : StrBound st) : (∀ st', strStep s p st = .inl st' → StrBound st') ∧ ∀ r, strStep s p st = .inr r → r.1.f1.size ≤ s.size := by
  have he : ∀ a b : Int, (strErr a b).1.f1.size ≤ s.size := fun a b => Nat.zero_le _
  cases st with
  | plain i b =>
    simp only [StrBound] at h
    simp only [strStep]
    repeat' split
    all_goals refine ⟨fun st' e => ?_, fun r e => ?_⟩
    all_goals first | (cases e; done) | (obtain rfl := Sum.inr.inj e; first | exact he _ _ | (simp only [strNums_size]; omega)) | (obtain rfl := Sum.inl.inj e; simp only [StrBound, List.length_append, List.length_cons, List.length_nil]; omega)
  | slash i b =>
    simp only [StrBound] at h
    simp only [strStep]
    repeat' split
    all_goals refine ⟨fun st' e => ?_, fun r e => ?_⟩
    all_goals first | (cases e; done) | (obtain rfl := Sum.inr.inj e; exact he _ _) | (obtain rfl := Sum.inl.inj e; simp only [StrBound, List.length_append, List.length_cons, List.length_nil]; omega)
  | broken i b =>
    simp only [StrBound] at h
    have hs := skipB_ge s (s.size - (i + 1)) (i + 1)
    refine ⟨fun st' e => ?_, fun r e => nomatch e⟩
    obtain rfl := Sum.inl.inj e
    simp only [StrBound]; omega
  | digits i b n k =>
    simp only [StrBound] at h
    simp only [strStep]
    repeat' split
    all_goals refine ⟨fun st' e => ?_, fun r e => ?_⟩
    all_goals first | (cases e; done) | (obtain rfl := Sum.inr.inj e; exact he _ _) | (obtain rfl := Sum.inl.inj e; simp only [StrBound, List.length_append, List.length_cons, List.length_nil]; omega)
theorem strRun_size (s : ByteArray) (p : Nat) : ∀ (N : Nat) (st : StrSt) (r : StrR), StrBound st → strRun s p N st = some r → r.1.f1.size ≤ s.size := by
  intro N
  induction N with
  | zero => intro st r _ h; cases h
  | succ N ih =>
    intro st r hb h
    unfold strRun at h
    split at h
    case h_1 st2 e => exact ih _ r ((strStep_bound s p st hb).1 _ e) h
    case h_2 r2 e => obtain rfl := Option.some.inj h; exact (strStep_bound s p st hb).2 _ e
theorem cut_size (s : ByteArray) (i e : Nat) : (s.extract i e).size ≤ s.size := by simp [ByteArray.size_extract]; omega
theorem next_size (s : ByteArray) (i : Nat) : (nextS s i).1.f1.size ≤ s.size := by
  have he : ∀ a b : Int, (strErr a b).1.f1.size ≤ s.size := fun a b => Nat.zero_le _
  unfold nextS
  split
  · exact cut_size s _ _
  split
  · simp only [numberS]
    split
    · exact cut_size s _ _
    split <;> exact cut_size s _ _
  split
  · cases h : strRun s i (strMu s (.plain (i + 1) []) + 1) (.plain (i + 1) []) with
    | none => exact he _ _
    | some r => exact strRun_size s i _ _ r (by simp [StrBound]) h
  split
  · exact cut_size s _ _
  · exact he _ _
/-- a token as the scanner gives it. -/
def GoodTok (s : ByteArray) (t : S70) : Prop := 0 ≤ t.f2 ∧ t.f2 ≤ s.size ∧ (t.f0 = 5 → DigT t.f1) ∧ t.f1.size ≤ s.size
theorem toks_ex (s : ByteArray) : ∀ (d k i : Nat), i + d = s.size → k ≤ 8192 → ∃ xs st, ToksX s i xs st ∧ k + xs.length ≤ 8192 ∧ (∀ j, st = some j → j < s.size ∧ (k + xs.length = 8192 ∨ (nextS s j).2.2 ≠ 0)) ∧ ∀ t ∈ xs, GoodTok s t := by
  intro d
  induction d using Nat.strongRecOn with
  | _ d ih =>
    intro k i hd hk
    obtain ⟨j, hj, hij, hjs⟩ := skipTo_ex s d i hd
    by_cases hlt : j < s.size
    · by_cases h8 : k = 8192
      · exact ⟨[], some j, .stop i j hj hlt, by simp; omega, fun j' e => by cases e; exact ⟨hlt, .inl (by simp; omega)⟩, by simp⟩
      · rcases next_good s j hlt with ⟨a, b, c, e, f, g⟩ | ⟨a, b, c⟩
        · obtain ⟨r, hr⟩ : ∃ r, r = nextS s j := ⟨_, rfl⟩
          have hdg := next_dig s j hlt
          have hsz := next_size s j
          rw [← hr] at a b c e f g hdg hsz
          obtain ⟨t, p, er⟩ := r
          simp only at a b c e f g hdg hsz
          subst a b
          obtain ⟨en, hen⟩ : ∃ en : Nat, t.f3 = en := ⟨t.f3.toNat, by omega⟩
          obtain ⟨xs, st, h1, h2, h3, h4⟩ := ih (s.size - en) (by omega) (k + 1) en (by omega) (by omega)
          refine ⟨t :: xs, st, .cons i j en t xs st hj hlt hr.symm hen (by omega) (by omega) h1, by simp only [List.length_cons]; omega, fun j' he => ⟨(h3 j' he).1, ?_⟩, fun x hx => ?_⟩
          · rcases (h3 j' he).2 with q | q
            · exact .inl (by simp only [List.length_cons]; omega)
            · exact .inr q
          · rcases List.mem_cons.1 hx with rfl | hx
            · exact ⟨by omega, by omega, hdg, hsz⟩
            · exact h4 x hx
        · exact ⟨[], some j, .stop i j hj hlt, by simp; omega, fun j' e => by cases e; exact ⟨hlt, .inr (by omega)⟩, by simp⟩
    · exact ⟨[], none, .nil i j hj (by omega), by simp; omega, (fun j' e => nomatch e), by simp⟩
set_option maxHeartbeats 2000000 in
theorem tokens_Tokens_long.calls (s : ByteArray) (hs : 65536 < s.size) (w : World) :
    Calls Tryz.prog 35 #[.string s] w fun e w' => e = .returned (.tuple #[.slice none 0 0, .int .i64 0, .int .i64 3]) ∧ Below w.heap.size w w' := by
  have d0 : decide ((65536 : Int) < (s.size : Int)) = true := decide_eq_true (by omega)
  have d1 : decide (65536 < s.size) = true := decide_eq_true (by omega)
  clear hs
  go_enter Tryz.func35, Tryz.ntmps35
  go_wp2
  have b2 : (((w.alloc (.cells #[.slice none 0 0] 62)).alloc (.cells #[.int .i64 0] 3)).alloc (.cells #[.int .i64 3] 28)).heap[w.heap.size + 1 + 1]? = some (.cells #[.int .i64 3] 28 (0, 0)) := blk_new' _ (by simp)
  have b1 : (((w.alloc (.cells #[.slice none 0 0] 62)).alloc (.cells #[.int .i64 0] 3)).alloc (.cells #[.int .i64 3] 28)).heap[w.heap.size + 1]? = some (.cells #[.int .i64 0] 3 (0, 0)) := blk_alloc (blk_new' _ (by simp)) _
  have b0 : (((w.alloc (.cells #[.slice none 0 0] 62)).alloc (.cells #[.int .i64 0] 3)).alloc (.cells #[.int .i64 3] 28)).heap[w.heap.size]? = some (.cells #[.slice none 0 0] 62 (0, 0)) := blk_alloc (blk_alloc (blk_new' _ rfl) _) _
  have e0 := blk_cell b0 0
  have e1 := blk_cell b1 0
  have e2 := blk_cell b2 0
  refine bodyPost_ret (v := .tuple #[.slice none 0 0, .int .i64 0, .int .i64 3]) (by simp [results, Tryz.results35, go_sem, e0, e1, e2]) rfl ?_
  exact ⟨rfl, (((Below.refl _ w).alloc (Nat.le_refl _) _).alloc (by simp) _).alloc (by simp; omega) _⟩
/-- What Tokens answers: tokens, or a place and an error. -/
def TokPost (o : List S70 ⊕ Int × Int) (w : World) (e : Ending) (w' : World) : Prop :=
  match o with
  | .inl xs => ∃ v0_ : Value, e = .returned (.tuple #[v0_, .int .i64 0, .int .i64 0]) ∧ Kd.R k70 70 w' w.heap.size (fun k_ => True) v0_ xs ∧ Below w.heap.size w w'
  | .inr pe => e = .returned (.tuple #[.slice none 0 0, .int .i64 pe.1, .int .i64 pe.2]) ∧ Below w.heap.size w w'
def TokAns (s : ByteArray) (o : List S70 ⊕ Int × Int) : Prop :=
  match o with
  | .inl xs => xs.length ≤ 8192 ∧ ∀ t ∈ xs, GoodTok s t
  | .inr pe => pe.2 ≠ 0 ∧ 0 ≤ pe.1 ∧ pe.1 ≤ s.size
theorem tokens_Tokens_all.calls (s : ByteArray) : ∃ o, TokAns s o ∧ ∀ w, Calls Tryz.prog 35 #[.string s] w (TokPost o w) := by
  by_cases hs : s.size ≤ 65536
  · obtain ⟨xs, st, h1, h2, h3, h4⟩ := toks_ex s s.size 0 0 (by omega) (by omega)
    rw [Nat.zero_add] at h2 h3
    have C := fun w => tokens_Tokens_any.calls s hs xs st h1 h2 (fun j hj => (h3 j hj).2) w
    cases st with
    | none =>
      refine ⟨.inl xs, ⟨h2, h4⟩, fun w => (C w).mono ?_⟩
      rintro e w' (⟨_, h⟩ | ⟨j, h, _⟩)
      · exact h
      · exact nomatch h
    | some j =>
      have h := h3 j rfl
      refine ⟨.inr (tokPE s xs j), ?_, fun w => (C w).mono ?_⟩
      · unfold tokPE
        split
        case isTrue => exact ⟨by simp, by simp only; omega, by simp only; omega⟩
        case isFalse h8 =>
          have hne := h.2.resolve_left h8
          rcases next_good s j h.1 with ⟨a, _⟩ | ⟨_, b, c⟩
          · exact absurd a hne
          · exact ⟨hne, b, c⟩
      · rintro e w' (⟨h, _⟩ | ⟨j', h, he, hb⟩)
        · exact nomatch h
        · cases h; exact ⟨he, hb⟩
  · exact ⟨.inr (0, 3), ⟨by simp, by simp, by simp⟩, fun w => tokens_Tokens_long.calls s (by omega) w⟩
end Go.Proofs.YtjapfefiaijfcaaGreatDoor.Q
