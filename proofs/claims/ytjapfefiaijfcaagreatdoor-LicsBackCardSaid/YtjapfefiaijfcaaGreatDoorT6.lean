/- The contract of the scanner's each: an iterator that yields tokens. -/
import Derived.Test.YtjapfefiaijfcaaGreatDoorQx0
import Derived.Test.YtjapfefiaijfcaaGreatDoorT5
import Derived.RangeFuncNested
import Derived.RangeFuncBound
import Derived.RangeFuncCalls
import Derived.RangeFuncLeaves
import Derived.Shelf.Abstract
import Derived.Shelf.RegionOpen
import Derived.WalkKit
import Derived.OwnWalkIn
import Derived.TacticsInMore
import Derived.LoopNIn
import Derived.LoopIn
namespace Go.Proofs.YtjapfefiaijfcaaGreatDoor.Q
open Go.RowKit Go.Proofs.YtjapfefiaijfcaaGreatDoorW.PrintWords Go.Proofs.YtjapfefiaijfcaaGreatDoorW.PrintLast Go.Proofs.YtjapfefiaijfcaaGreatDoorW.PrintMore
set_option linter.unusedVariables false
attribute [local go_sem] Oper.semAt_some
/-- the scanner at a place tells this token, without an error. -/
def NextOK (s : ByteArray) (j : Nat) (t : S70) : Prop := ∀ (g : Nat) (w : World), Scan w g s j →
  Calls Tryz.prog 79 #[.pointer (some ⟨g, 0, none⟩)] w fun e w' => e = .returned (.tuple #[.agg #[.int .u8 t.f0, .string t.f1, .int .i64 t.f2, .int .i64 t.f3], .int .i64 0, .int .i64 0]) ∧ Below w.heap.size w w'
/-- the tokens from a place on. -/
inductive Toks (s : ByteArray) : Nat → List S70 → Prop
  | nil (i j : Nat) : skipS s i = some j → s.size ≤ j → Toks s i []
  | cons (i j e : Nat) (t : S70) (xs : List S70) : skipS s i = some j → j < s.size → NextOK s j t → t.f3 = (e : Int) → j < e → e ≤ s.size → Toks s e xs → Toks s i (t :: xs)
/-- behind the blanks ahead of the tokens that are left. -/
def AtTok (s : ByteArray) (j : Nat) (ys : List S70) : Prop := (ys = [] ∧ s.size ≤ j) ∨ ∃ (e : Nat) (t : S70) (zs : List S70), ys = t :: zs ∧ j < s.size ∧ NextOK s j t ∧ t.f3 = (e : Int) ∧ j < e ∧ e ≤ s.size ∧ Toks s e zs
theorem toks_skip {s : ByteArray} {i : Nat} {ys : List S70} (hi : i ≤ s.size) (h : Toks s i ys) : ∃ j, skipS s i = some j ∧ i ≤ j ∧ j ≤ s.size ∧ AtTok s j ys := by
  have le : ∀ j, skipS s i = some j → i ≤ j ∧ j ≤ s.size := fun j h => skipFrom_le s (s.size - i) i j (by omega) h
  cases h with
  | nil _ j h1 h2 => exact ⟨j, h1, (le j h1).1, (le j h1).2, .inl ⟨rfl, h2⟩⟩
  | cons _ j e t zs h1 h2 h3 h4 h5 h6 h7 => exact ⟨j, h1, (le j h1).1, (le j h1).2, .inr ⟨e, t, zs, rfl, h2, h3, h4, h5, h6, h7⟩⟩
theorem each_keep {J : List S70 → World → Prop} {g bx j nd : Nat} {s : ByteArray} {pre : List S70} {wr w2 : World} (HJ : Aside0 (∀ pre W W', J pre W → Only g W W' → J pre W')) (HS : Aside0 (Scan wr g s j))
    (HB : Aside0 (wr.heap[bx]? = some (.cells #[.pointer (some ⟨g, 0, none⟩)] 118 (0, 0)))) (Hj : Aside0 (J pre wr)) (hb : Below (wr.drewN nd).heap.size (wr.drewN nd) w2) :
    Scan w2 g s j ∧ w2.heap[bx]? = some (.cells #[.pointer (some ⟨g, 0, none⟩)] 118 (0, 0)) ∧ J pre w2 :=
  ⟨(HS.out.drewN nd).keep hb, (hb.block _ (blk_lt (blk_drewN HB.out nd))).trans HB.out, HJ.out _ _ _ Hj.out (((Only.refl g wr).drewN nd).trans (.of_below hb))⟩
set_option maxHeartbeats 8000000 in
set_option maxRecDepth 100000 in
theorem tokens_each1_in (n l g bx : Nat) (s : ByteArray) (hs : s.size ≤ 65536) (xs : List S70) (hT : Toks s 0 xs) (J : List S70 → World → Prop) (hne : bx ≠ g)
    (hJ : ∀ pre W W', J pre W → Only g W W' → J pre W')
    (hY : ∀ (pre : List S70) (x : S70) (W : World) (o : Obj), J pre W → pre ++ [x] <+: xs → YieldAt Fence.wide (n - 1) Tryz.prog l #[.agg #[.int .u8 x.f0, .string x.f1, .int .i64 x.f2, .int .i64 x.f3], .agg #[.int .i64 0, .int .i64 0]] (W.alloc o) fun e W' =>
      e = .returned (.bool true) ∧ J (pre ++ [x]) W' ∧ (∀ k b, (W.alloc o).heap[k]? = some b → k = g ∨ k = bx ∨ k = W.heap.size → W'.heap[k]? = some b))
    (W0 : World) (hS : Scan W0 g s 0) (hbx : W0.heap[bx]? = some (.cells #[.pointer (some ⟨g, 0, none⟩)] 118 (0, 0))) (h0 : J [] W0) :
    CallsIn Fence.wide n Tryz.prog 77 #[.func (.yield l) #[] #[], .pointer (some ⟨bx, 0, none⟩)] W0 fun e W' => (∃ v, e = .returned v) ∧ J xs W' := by
  refine callsIn_of_wp Tryz.func77 rfl trivial ?_ rfl
  simp only [Tryz.ntmps77, List.size_toArray, List.length_cons, List.length_nil, Nat.reduceAdd, Nat.reduceSub, Array.replicate_succ, Array.replicate_zero, List.push_toArray, List.append_toArray, List.nil_append, List.cons_append]
  have HS := Aside0.mk hS
  have HBX := Aside0.mk hbx
  have b0 := blk_cell hbx 0
  have HJ := Aside0.mk hJ
  have HY := Aside0.mk hY
  have HT := Aside0.mk hT
  have H0 := Aside0.mk h0
  clear hS hbx hJ hY hT h0
  obtain ⟨j0, hj0, -, hj02, hA0⟩ := toks_skip (Nat.zero_le _) HT.out
  have HJ0 := Aside0.mk hj0
  have HA0 := Aside0.mk hA0
  clear hj0 hA0
  gi_wp2_with (first | (refine ⟨trivial, (fun h => absurd h (by decide)), ?_⟩; gi_at_call 78; refine (callsIn_wide.2 (tokens_skip.calls g s 0 j0 _ HS.out (by omega) (Nat.zero_le _) HJ0.out)).mono ?_; rintro e_ w1 ⟨rfl, hS1, hO1⟩; have HS1 := Aside0.mk hS1; have HO1 := Aside0.mk hO1; clear hS1 hO1))
  gi_loopw [] (fun wr => ∃ (pre ys : List S70) (j : Nat), pre ++ ys = xs ∧ j ≤ s.size ∧ AtTok s j ys ∧ Scan wr g s j ∧ wr.heap[bx]? = some (.cells #[.pointer (some ⟨g, 0, none⟩)] 118 (0, 0)) ∧ J pre wr) (fun wr => s.size - scanAt wr g)
  case atStart => exact ⟨[], xs, j0, rfl, hj02, HA0.out, HS1.out, HO1.out.blk HBX.out hne, HJ.out _ _ _ H0.out HO1.out⟩
  case round =>
    obtain ⟨pre, ys, j, hx, hj, hA, hS, hb, hj0⟩ := hrel
    have HX := Aside0.mk hx
    have HA := Aside0.mk hA
    have HSr := Aside0.mk hS
    have HBr := Aside0.mk hb
    have HJr := Aside0.mk hj0
    have q0 := hS.c0
    have q1 := hS.c1
    have b0 := blk_cell hb 0
    clear hx hA hS hb hj0
    rcases HA.out with ⟨rfl, hend⟩ | ⟨e, t, zs, rfl, hlt, hN, h3, hje, hes, hTz⟩
    · have hlt' : decide ((j : Int) < (s.size : Int)) = false := decide_eq_false (by omega)
      have hlt2 : decide (j < s.size) = false := decide_eq_false (by omega)
      clear hend
      gi_wp2_with (fail)
      refine wpIn_wide.2 ?_
      go_quiet (fail)
      gi_wp2_with (fail)
      go_end0
      exact ⟨⟨_, rfl⟩, by have q := HX.out; rw [List.append_nil] at q; rw [← q]; exact HJ.out _ _ _ HJr.out ((Only.refl g wr).drewN _)⟩
    · have hlt' : decide ((j : Int) < (s.size : Int)) = true := decide_eq_true (by omega)
      have hlt2 : decide (j < s.size) = true := decide_eq_true hlt
      have HN := Aside0.mk hN
      have H3 := Aside0.mk h3
      have HTz := Aside0.mk hTz
      clear hN h3 hTz
      gi_wp2_with (fail)
      refine wpIn_wide.2 ?_
      go_quiet (fail)
      gi_wp2_with (first | (refine ⟨trivial, (fun h => absurd h (by decide)), ?_⟩; gi_at_call 79; refine (callsIn_wide.2 (HN.out g _ ?side)).mono ?_; (case side => exact HSr.out.drewN _); rintro e_ w2 ⟨rfl, hb2⟩; obtain ⟨hs2, hbx2, hj2⟩ := each_keep HJ HSr HBr HJr hb2; obtain ⟨fn, tmps, assign, body, hy, hR⟩ := HY.out pre t w2 (.cells #[.int .u8 t.f0, .string t.f1, .int .i64 t.f2, .int .i64 t.f3] 70) hj2 (by rw [← HX.out]; exact ⟨zs, by simp⟩); have HS2 := Aside0.mk hs2; have HBX2 := Aside0.mk hbx2; have HJ2 := Aside0.mk hj2; have HR := Aside0.mk hR; clear hb2 hs2 hbx2 hj2 hR))
      refine ⟨fun h => absurd h (by decide), ?_⟩
      refine HR.out.mono ?_
      rintro e_ w3 ⟨rfl, hj3, hk3⟩
      have HJ3 := Aside0.mk hj3
      have hs3 : Scan w3 g s j := ⟨hk3 g _ (blk_alloc HS2.out.blk _) (.inl rfl)⟩
      have hbx3 := hk3 bx _ (blk_alloc HBX2.out _) (.inr (.inl rfl))
      have ht3 := hk3 w2.heap.size _ (blk_new w2 _) (.inr (.inr rfl))
      have p0 := hs3.c0
      have p1 := hs3.c1
      have pf := hs3.f1
      have pb := blk_cell hbx3 0
      have pt := blk_cell ht3 3
      rw [show (#[.int .u8 t.f0, .string t.f1, .int .i64 t.f2, .int .i64 t.f3] : Array Value)[3]? = some (.int .i64 t.f3) from rfl, H3.out] at pt
      have HS3 := Aside0.mk hs3
      have HBX3 := Aside0.mk hbx3
      clear hj3 hk3 hs3 hbx3 ht3
      obtain ⟨j4, hj4, hj41, hj42, hA4⟩ := toks_skip hes HTz.out
      have HJ4 := Aside0.mk hj4
      have HA4 := Aside0.mk hA4
      have pb4 := blk_cell (Only.blk ((Only.refl g w3).set 1 (.int .i64 e)) HBX3.out hne) 0
      clear hj4 hA4
      gi_wp2_with (first | (refine ⟨trivial, (fun h => absurd h (by decide)), ?_⟩; gi_at_call 78; refine (callsIn_wide.2 (tokens_skip.calls g s e j4 _ (HS3.out.set _) (by omega) hes HJ4.out)).mono ?_; rintro e_ w4 ⟨rfl, hS4, hO4⟩; have HS4 := Aside0.mk hS4; have HO4 := Aside0.mk hO4; clear hS4 hO4))
      have o3 := (Only.refl g w3).set 1 (.int .i64 e)
      refine ⟨⟨pre ++ [t], zs, j4, by rw [← HX.out]; simp, hj42, HA4.out, HS4.out, HO4.out.blk (o3.blk HBX3.out hne) hne, HJ.out _ _ _ HJ3.out (o3.trans HO4.out)⟩, ?_⟩
      rw [HS4.out.at', HSr.out.at']
      omega
end Go.Proofs.YtjapfefiaijfcaaGreatDoor.Q
