/- The contract of the closure that renames. -/
import Derived.Test.YtfaohklglblcbaaDoorT16
import Derived.Laws.MakeOwn
import Derived.Test.YtfaohklglblcbaaDoorQx1
import Derived.Test.YtfaohklglblcbaaDoorQx7
import Derived.Test.YtfaohklglblcbaaDoorQx8
import Derived.Test.YtfaohklglblcbaaDoorQx10
namespace Go.Proofs.YtfaohklglblcbaaDoor.Q
open Go.RowKit Go.Proofs.YtfaohklglblcbaaDoorW.PrintWords Go.Proofs.YtfaohklglblcbaaDoorW.PrintLast Go.Proofs.YtfaohklglblcbaaDoorW.PrintMore
set_option linter.unusedVariables false
/-- the place of the first text that is this one, or -1. -/
def placeS (t : ByteArray) : List ByteArray → Nat → Int
  | [], _ => -1
  | a :: r, j => if t.toList = a.toList then (j : Int) else placeS t r (j + 1)
theorem placeS_lt (t : ByteArray) : ∀ (l : List ByteArray) (j : Nat), placeS t l j = -1 ∨ ((j : Int) ≤ placeS t l j ∧ placeS t l j < (j : Int) + l.length)
  | [], j => .inl rfl
  | a :: r, j => by
    unfold placeS
    split
    · right; simp; omega
    · rcases placeS_lt t r (j + 1) with h | h
      · exact .inl h
      · right; rw [List.length_cons]; omega
theorem rdOf_nat {l : List ByteArray} {j : Nat} (h : j < l.length) : rdOf ByteArray.empty l (j : Int) = l[j] := by simp [rdOf, h]
theorem index_some (l : List ByteArray) (t : ByteArray) (hl : l.length ≤ 1000000) : ∀ d j, j + d = l.length → slices_Index_string_string.l0 (d + 1) l t (l.length : Int) (j : Int) = some (placeS t (l.drop j) j) := by
  intro d
  induction d with
  | zero =>
    intro j hj
    unfold slices_Index_string_string.l0
    rw [if_neg (by omega), List.drop_eq_nil_of_le (by omega)]; rfl
  | succ d ih =>
    intro j hj
    unfold slices_Index_string_string.l0
    have hlt : j < l.length := by omega
    rw [if_pos (by omega), if_pos (by omega), if_pos (by omega), List.drop_eq_getElem_cons hlt, rdOf_nat hlt]
    unfold placeS
    split
    · rfl
    · rw [IntWalk.wrap64_in _ (by omega)]
      exact ih (j + 1) (by omega)
theorem place_some (l : List ByteArray) (t : ByteArray) (hl : l.length ≤ 1000000) : ∀ d j, j + d = l.length → vouchref16_place.l0 (d + 1) l t (j : Int) = some (placeS t (l.drop j) j) := by
  intro d
  induction d with
  | zero =>
    intro j hj
    unfold vouchref16_place.l0
    rw [if_neg (by omega), List.drop_eq_nil_of_le (by omega)]; rfl
  | succ d ih =>
    intro j hj
    unfold vouchref16_place.l0
    have hlt : j < l.length := by omega
    rw [if_pos (by omega), if_pos (by omega), List.drop_eq_getElem_cons hlt, rdOf_nat hlt]
    unfold placeS
    by_cases h : l[j].toList = t.toList
    · rw [if_pos h, if_pos h.symm]
    · rw [if_neg h, if_neg (fun h' => h h'.symm), IntWalk.wrap64_in _ (by omega)]
      exact ih (j + 1) (by omega)
/-- the text that stands in a part's place. -/
def textT (fr tn : List ByteArray) (x : S24) : ByteArray := if x.f0 = 1 ∧ 0 ≤ placeS x.f1 fr 0 then rdOf ByteArray.empty tn (placeS x.f1 fr 0) else x.f1
/-- the tree with other texts. -/
def renT (fr tn : List ByteArray) (x : S24) : S24 := ⟨x.f0, textT fr tn x, x.f2, x.f3.attach.map (fun ⟨y, hy⟩ => renT fr tn y)⟩
termination_by SizeOf.sizeOf x
decreasing_by exact S24.lt_mem hy
theorem renT_eq (fr tn : List ByteArray) (x : S24) : renT fr tn x = ⟨x.f0, textT fr tn x, x.f2, x.f3.map (renT fr tn)⟩ := by
  rw [renT]
  congr 1
  simp
theorem made24 (n : Nat) (hn : n ≤ 3000) : ∃ mc : Array Value, (∀ W, (Instr.makeSlice 22 (.int .i64 0) (.int .i64 (n : Int))).run Tryd.prog W = .ok (.slice (some ⟨W.heap.size, 0, none⟩) 0 n) (W.alloc (.cells mc 24))) ∧
    ∀ (W : World) (base : Nat) (ok : Nat → Prop), base ≤ W.heap.size → ok W.heap.size → Kd.R k24 24 (W.alloc (.cells mc 24)) base ok (.slice (some ⟨W.heap.size, 0, none⟩) 0 n) [] := by
  obtain ⟨i0, hi, hzz⟩ := Option.map_eq_some_iff.1 info24
  simp only [Prod.mk.injEq] at hzz
  obtain ⟨hz0, hz1, hz2⟩ := hzz
  refine ⟨madeCells (Value.agg #[(.int .u8 0), (.string ⟨#[]⟩), (.int .i64 0), (.slice none 0 0)]).cells (n * 4), fun W => ?_, fun W base ok hb hf => ?_⟩
  · have hr := run_make (P := Tryd.prog) W 22 24 i0 _ Tryd.underlying22 hi hz0 .i64 .i64 0 (n : Int) (by omega) (by omega) (by rw [hz2]; omega) (by omega)
    rw [hz1] at hr
    simpa using hr
  · have h2 := World.ownsRow_lit (base := base) (e := 24) (size := 4) W (madeCells (Value.agg #[(.int .u8 0), (.string ⟨#[]⟩), (.int .i64 0), (.slice none 0 0)]).cells (n * 4)) n hb (by simp only [maxLen]; omega) (by simp [size_madeCells])
    have h3 := own_take h2 (Nat.zero_le n)
    simp only [Nat.zero_mul, List.take_zero] at h3
    refine ⟨fun k hk => ?_, [], h3, Reps.none _ _⟩
    have : W.heap.size = k := by simpa [Value.ownBlock] using hk
    subst this
    exact hf
/-- what the closure that goes over a tree has at hand. -/
structure Env (w : World) (b4 b5 b9 : Nat) (Af : Option Addr) (cf : Nat) (At : Option Addr) (ct : Nat) (fr tn : List ByteArray) : Prop where
  e4 : w.heap[b4]? = some (.cells #[.slice Af fr.length cf] 25 (0, 0))
  e5 : w.heap[b5]? = some (.cells #[.slice At tn.length ct] 25 (0, 0))
  e9 : w.heap[b9]? = some (.cells #[.func (.func 17) #[] #[.pointer (some ⟨b4, 0, none⟩), .pointer (some ⟨b5, 0, none⟩), .pointer (some ⟨b9, 0, none⟩)]] 28 (0, 0))
  f : Kd.C Kd.string w Af fr.length fr
  t : Kd.C Kd.string w At tn.length tn
  lf : fr.length ≤ cf
  lt : tn.length ≤ ct
theorem Env.keep {w W : World} {b4 b5 b9 : Nat} {Af : Option Addr} {cf : Nat} {At : Option Addr} {ct : Nat} {fr tn : List ByteArray} (h : Env w b4 b5 b9 Af cf At ct fr tn) (hb : Below w.heap.size w W) : Env W b4 b5 b9 Af cf At ct fr tn :=
  ⟨blk_below h.e4 hb, blk_below h.e5 hb, blk_below h.e9 hb, Kd.C_below h.f hb, Kd.C_below h.t hb, h.lf, h.lt⟩
theorem turn_aP {w2 : World} {y : S24} {t : ByteArray} {xs : List S24} {b B : Nat} {v : Value} (h : Kd.R k24 24 w2 B (fun _ => True) v xs) (hB : b ≤ B) : Kd.M k24 w2 b (fun k => B ≤ k ∧ k < w2.heap.size) ⟨y.f0, t, y.f2, xs⟩ [.int .u8 y.f0, .string t, .int .i64 y.f2, v] := k24_mkM _ _ _ (⟨y.f0, t, y.f2, xs⟩ : S24) (Kd.R_lower (Kd.R_mono (Kd.R_bound h) (fun k hk => ⟨hk.2.1, hk.2.2.1⟩)) hB)
set_option maxHeartbeats 8000000 in
set_option maxRecDepth 100000 in
theorem lics_Renamed1.calls (fr tn : List ByteArray) (hft : fr.length = tn.length) (hfl : fr.length ≤ 1000) (b4 b5 b9 : Nat) (Af : Option Addr) (cf : Nat) (At : Option Addr) (ct : Nat) (N : Nat) : ∀ (x : S24) (A : Option Addr) (c : Nat) (w : World), szT x < N → N ≤ 3000 → x.f3.length ≤ c → Kd.C k24 w A x.f3.length x.f3 → Env w b4 b5 b9 Af cf At ct fr tn →
    Calls Tryd.prog 17 #[.agg #[.int .u8 x.f0, .string x.f1, .int .i64 x.f2, .slice A x.f3.length c], .pointer (some ⟨b4, 0, none⟩), .pointer (some ⟨b5, 0, none⟩), .pointer (some ⟨b9, 0, none⟩)] w fun e w' => ∃ v, e = .returned (.agg #[.int .u8 x.f0, .string (textT fr tn x), .int .i64 x.f2, v]) ∧ Kd.R k24 24 w' w.heap.size (fun _ => True) v (x.f3.map (renT fr tn)) ∧ Below w.heap.size w w' := by
  induction N with
  | zero => exact fun x A c w h => absurd h (Nat.not_lt_zero _)
  | succ N ih =>
    intro x A c w hN hN2 hc hC hEnv
    have hlen := szT_len x
    have HC := Aside0.mk hC
    have IH := Aside0.mk ih
    have HEnv := Aside0.mk hEnv
    have HN := Aside0.mk hN
    have HFT := Aside0.mk hft
    have hb2 : ∀ o o' : Obj, Below w.heap.size w ((w.alloc o).alloc o') := fun o o' => ((Below.refl _ _).alloc (Nat.le_refl _) o).alloc (by simp) o'
    have HB2 := Aside0.mk hb2
    clear ih hC hEnv hN hb2 hft
    go_enter Tryd.func17, Tryd.ntmps17
    go_upto_if 12 with (fail)
    go_cut [6] (fun s wc => (∃ u, s = u) ∧ wc.heap[w.heap.size]? = some (.cells #[.int .u8 x.f0, .string (textT fr tn x), .int .i64 x.f2, .slice A x.f3.length c] 24 (0, 0)) ∧ wc.heap[w.heap.size + 1]? = some (.cells #[.int .u8 0, .string ⟨#[]⟩, .int .i64 0, .slice none 0 0] 24 (0, 0)) ∧ Below w.heap.size w wc)
    case first =>
      generalize hW1 : (w.alloc (.cells #[.int .u8 x.f0, .string x.f1, .int .i64 x.f2, .slice A x.f3.length c] 24)).alloc (.cells #[.int .u8 0, .string ⟨#[]⟩, .int .i64 0, .slice none 0 0] 24) = W1
      have r0 : W1.heap[w.heap.size]? = some (.cells #[.int .u8 x.f0, .string x.f1, .int .i64 x.f2, .slice A x.f3.length c] 24 (0, 0)) := by rw [← hW1]; exact blk_alloc (blk_new w _) _
      have r1 : W1.heap[w.heap.size + 1]? = some (.cells #[.int .u8 0, .string ⟨#[]⟩, .int .i64 0, .slice none 0 0] 24 (0, 0)) := by rw [← hW1]; exact blk_new' _ (by simp)
      have rb : Below w.heap.size w W1 := by rw [← hW1]; exact HB2.out _ _
      have R0 := Aside0.mk r0
      have R1 := Aside0.mk r1
      have RB := Aside0.mk rb
      have HE1 := Aside0.mk (HEnv.out.keep rb)
      have c1 := blk_cell r0 1
      have z1 := blk_frozen r0 1
      have m4 : W1.cell? ⟨b4, 0, none⟩ = some (.slice Af fr.length cf) := (blk_cell HE1.out.e4 0).trans rfl
      clear hW1 r0 r1 rb
      by_cases h1 : x.f0 = 1
      · have e1 : (x.f0 == 1) = true := by simp [h1]
        obtain ⟨i, hi⟩ : ∃ i, i = placeS x.f1 fr 0 := ⟨_, rfl⟩
        have hidx : slices_Index_string_string.f (fr.length + 1) fr x.f1 = some i := by
          have q := index_some fr x.f1 (by omega) fr.length 0 (by omega)
          rw [List.drop_zero, show ((0 : Nat) : Int) = 0 from rfl, ← hi] at q
          exact q
        have HIdx := Aside0.mk hidx
        have hir := placeS_lt x.f1 fr 0
        rw [← hi] at hir
        by_cases h0 : 0 ≤ i
        · have ht : textT fr tn x = rdOf ByteArray.empty tn i := by unfold textT; rw [← hi, if_pos ⟨h1, h0⟩]
          have hil : i < (tn.length : Int) := by have := HFT.out; omega
          have d0 : decide (0 ≤ i) = true := decide_eq_true h0
          obtain ⟨ad, eA, hx⟩ := Kd.at_string HE1.out.t i h0 hil
          have HT := Aside0.mk ht
          have m5 : W1.cell? ⟨b5, 0, none⟩ = some (.slice At tn.length ct) := (blk_cell HE1.out.e5 0).trans rfl
          rw [eA] at m5
          have p0 : (0 ≤ i) = True := eq_true h0
          have p1 : (i < (tn.length : Int)) = True := eq_true hil
          clear ht h1 hi hidx hir h0 hil eA
          go_wp2_with (first | (go_at_call 18; (refine (slices_Index_string_string.calls (fr.length + 1) Af cf fr x.f1 i W1 HE1.out.f HE1.out.lf HIdx.out).mono ?_); rintro e_ w_ ⟨rfl, hd⟩; obtain ⟨m, rfl⟩ := hd.out; clear hd))
          go_meet
          case rel =>
            rw [HT.out]
            exact ⟨⟨_, rfl⟩, blk_drewN (blk_put R0.out 1 _ rfl) _, blk_drewN (blk_far R1.out (by simp only; omega) _) _, pw_below_drewN (below_set' RB.out) _⟩
        · have ht : textT fr tn x = x.f1 := by unfold textT; rw [← hi, if_neg (fun h => h0 h.2)]
          have d0 : decide (0 ≤ i) = false := decide_eq_false h0
          have HT := Aside0.mk ht
          clear ht h1 hi hidx hir h0
          go_wp2_with (first | (go_at_call 18; (refine (slices_Index_string_string.calls (fr.length + 1) Af cf fr x.f1 i W1 HE1.out.f HE1.out.lf HIdx.out).mono ?_); rintro e_ w_ ⟨rfl, hd⟩; obtain ⟨m, rfl⟩ := hd.out; clear hd))
          go_meet
          case rel =>
            rw [HT.out]
            exact ⟨⟨_, rfl⟩, blk_drewN R0.out _, blk_drewN R1.out _, pw_below_drewN RB.out _⟩
      · have e1 : (x.f0 == 1) = false := by simp [h1]
        have ht : textT fr tn x = x.f1 := by unfold textT; rw [if_neg (fun h => h1 h.1)]
        have HT := Aside0.mk ht
        clear ht h1
        go_wp2
        go_meet
        case rel =>
          rw [HT.out]
          exact ⟨⟨_, rfl⟩, R0.out, R1.out, RB.out⟩
    case rest =>
      obtain ⟨⟨u, rfl⟩, r0, r1, rb⟩ := hcut
      obtain ⟨mc, hmk, hmR⟩ := made24 x.f3.length (by have := HN.out; omega)
      have R0 := Aside0.mk r0
      have R1 := Aside0.mk r1
      have RB := Aside0.mk rb
      have HMR := Aside0.mk hmR
      have c3 := blk_cell r0 3
      have c4 := fun o => blk_cell (blk_alloc r0 o) 3
      have hz : w.heap.size + 1 < wc.heap.size := blk_lt r1
      have HZ := Aside0.mk hz
      clear r0 r1 rb hmR hz
      go_wp2
      go_loopw [7, 31] (fun a i wr => ∃ k : Nat, i = .int .i64 k ∧ k ≤ x.f3.length ∧ wr.heap[w.heap.size]? = some (.cells #[.int .u8 x.f0, .string (textT fr tn x), .int .i64 x.f2, .slice A x.f3.length c] 24 (0, 0)) ∧ wr.heap[w.heap.size + 1]? = some (.cells #[.int .u8 0, .string ⟨#[]⟩, .int .i64 0, .slice none 0 0] 24 (0, 0)) ∧ Below w.heap.size w wr ∧ Kd.R k24 24 wr w.heap.size (fun j => j ≠ w.heap.size ∧ j ≠ w.heap.size + 1) a ((x.f3.take k).map (renT fr tn))) (fun _ i wr => x.f3.length - (intOf i).toNat)
      case atStart => exact ⟨0, rfl, Nat.zero_le _, blk_alloc R0.out _, blk_alloc R1.out _, RB.out.alloc RB.out.size _, HMR.out wc _ _ RB.out.size (by have := HZ.out; omega)⟩
      case round =>
        obtain ⟨k, rfl, hk, hblk, hblk1, hbel, hR⟩ := hrel
        obtain ⟨ys, hys⟩ : ∃ ys, ys = (x.f3.take k).map (renT fr tn) := ⟨_, rfl⟩
        rw [← hys] at hR
        have hyl : ys.length = k := by rw [hys]; simp; omega
        obtain ⟨A2, cp2, rfl⟩ := Kd.R_slice hR
        have HYs := Aside0.mk hys
        have HBk := Aside0.mk hblk
        have HBk1 := Aside0.mk hblk1
        have HBl := Aside0.mk hbel
        have HR := Aside0.mk hR
        have HZr := Aside0.mk (blk_lt hblk1)
        clear hmk c3 c4
        by_cases hlt : k < x.f3.length
        · have hl3 : x.f3.length ≤ 3000 := by have := HN.out; omega
          have HYl := Aside0.mk (by omega : ys.length < x.f3.length)
          have HKl := Aside0.mk hyl
          have d1 : decide ((k : Int) < (x.f3.length : Int)) = true := decide_eq_true (by omega)
          have d2 : (k < x.f3.length) = True := eq_true hlt
          have d3 : ((k : Int) < (x.f3.length : Int)) = True := eq_true (by omega)
          have d4 : (0 ≤ (k : Int)) = True := eq_true (by omega)
          have q4 : IntKind.i64.wrap ((k : Int) + 1) = (k : Int) + 1 := IntWalk.i64_in _ (by omega)
          obtain ⟨ad, A3, c3', e0, k0, k1, k2, k3, k4, k5⟩ := at_T24 HC.out (k : Int) (by omega) (by omega)
          subst e0
          rw [Int.toNat_natCast] at k0 k1 k2 k3
          replace k0 := pw_cell_below hbel k0
          replace k1 := pw_cell_below hbel k1
          replace k2 := pw_cell_below hbel k2
          replace k3 := pw_cell_below hbel k3
          have hmem : rd_T24 x.f3 (k : Int) ∈ x.f3 := by rw [rd_nat hlt]; exact List.getElem_mem hlt
          have hsz := szT_mem hmem
          obtain ⟨y, hy⟩ : ∃ y, y = rd_T24 x.f3 (k : Int) := ⟨_, rfl⟩
          rw [← hy] at k0 k1 k2 k3 k4 k5 hsz hmem
          have hba : Below w.heap.size w (wr.alloc (.cells #[.int .u8 y.f0, .string y.f1, .int .i64 y.f2, .slice A3 y.f3.length c3'] 24)) := hbel.alloc hbel.size _
          have hcall := IH.out y A3 c3' (wr.alloc (.cells #[.int .u8 y.f0, .string y.f1, .int .i64 y.f2, .slice A3 y.f3.length c3'] 24)) (by have := HN.out; omega) (by omega) k4 (Kd.C_below k5 hba) (HEnv.out.keep hba)
          have HCall := Aside0.mk hcall
          have HY := Aside0.mk hy
          have m9 := fun o => blk_cell (HEnv.out.keep (hbel.alloc hbel.size o)).e9 0
          clear hcall k4 k5 hsz hmem hy hba hblk hblk1 hbel hR hyl hys
          go_wp2_with (first | (go_at_call 17; (refine (HCall.out).mono ?_); rintro e_ w2 ⟨v2, rfl, hr2, hb2⟩; obtain ⟨A4, cp4, rfl⟩ := Kd.R_slice hr2; rw [List.length_map, show (wr.alloc (.cells #[.int .u8 y.f0, .string y.f1, .int .i64 y.f2, .slice A3 y.f3.length c3'] 24)).heap.size = wr.heap.size + 1 from by simp] at hr2; have HB2' := Aside0.mk hb2; have HR2 := Aside0.mk hr2; have HRa := Aside0.mk (Kd.R_below (Kd.R_alloc (Kd.R_bound HR.out) (.cells #[.int .u8 y.f0, .string y.f1, .int .i64 y.f2, .slice A3 y.f3.length c3'] 24)) hb2); clear hb2 hr2) | ((with_reducible refine gate_builtin (b := .append) (xs := #[.tmp 35, .tmp 39]) rfl ?_); at_builtin; refine Kd.R_append k24 (w0 := w) w.heap.size rfl (.tmp 35) (.tmp 39) 22 24 (.agg #[(.int .u8 0), (.string ⟨#[]⟩), (.int .i64 0), (.slice none 0 0)]) 56 rfl Tryd.underlying22 info24 rfl (by decide) (by omega) (.slice A2 ys.length cp2) ys ⟨y.f0, textT fr tn y, y.f2, y.f3.map (renT fr tn)⟩ [.int .u8 y.f0, .string (textT fr tn y), .int .i64 y.f2, .slice A4 y.f3.length cp4] (fun k => k ≠ w.heap.size ∧ k ≠ w.heap.size + 1) (fun k => wr.heap.size + 1 ≤ k ∧ k < w2.heap.size) rfl ?aX ?aP ?aK ?aF ?aO ?aB ?aS ?aL ?_; (case aX => first | rfl | simp [Act.eval]); (case aP => exact turn_aP HR2.out (by have := HZr.out; omega)); (case aK => exact fun k hk => ⟨⟨by have := HZr.out; omega, by have := HZr.out; omega⟩, fun e => by have := HRa.out.1 k e.symm; omega⟩); (case aF => intro k hk; have := HZr.out; have := HB2'.out.size; have hq : (wr.alloc (.cells #[.int .u8 y.f0, .string y.f1, .int .i64 y.f2, .slice A3 y.f3.length c3'] 24)).heap.size = wr.heap.size + 1 := (by simp); omega); (case aO => exact Kd.R_mono HRa.out (fun k hk => hk.1)); (case aB => exact ((HBl.out.alloc HBl.out.size _).trans (HB2'.out.mono (by have := HBl.out.size; simp; omega)))); (case aS => have := HBl.out.size; have := HB2'.out.size; have hq : (wr.alloc (.cells #[.int .u8 y.f0, .string y.f1, .int .i64 y.f2, .slice A3 y.f3.length c3'] 24)).heap.size = wr.heap.size + 1 := (by simp); omega); (case aL => have := HYl.out; have := HN.out; omega); intro v1 w6 ho hb hg hat; obtain ⟨A5, cp5, rfl⟩ := Kd.R_slice ho; rw [List.length_append, List.length_singleton] at ho; have HO6 := Aside0.mk ho; have HB6 := Aside0.mk hb; have F0 := Aside0.mk (blk_grown (blk_below (blk_alloc HBk.out (.cells #[.int .u8 y.f0, .string y.f1, .int .i64 y.f2, .slice A3 y.f3.length c3'] 24)) HB2'.out) hg (Kd.R_away HRa.out (fun k hk => hk.1.1))); have F1 := Aside0.mk (blk_grown (blk_below (blk_alloc HBk1.out (.cells #[.int .u8 y.f0, .string y.f1, .int .i64 y.f2, .slice A3 y.f3.length c3'] 24)) HB2'.out) hg (Kd.R_away HRa.out (fun k hk => hk.1.2))); clear ho hb hg hat))
          refine ⟨⟨k + 1, by go_num, by omega, F0.out, F1.out, HB6.out, ?_⟩, ?_⟩
          · have e : (x.f3.take (k + 1)).map (renT fr tn) = ys ++ [⟨y.f0, textT fr tn y, y.f2, y.f3.map (renT fr tn)⟩] := by
              rw [List.take_succ_eq_append_getElem hlt, List.map_append, ← HYs.out, List.map_singleton, renT_eq, HY.out, rd_nat hlt]
            rw [e]
            exact HO6.out
          · simp [intOf]; omega
        · have d1 : decide ((k : Int) < (x.f3.length : Int)) = false := decide_eq_false (by omega)
          have d2 : (k < x.f3.length) = False := eq_false hlt
          have c3 := blk_cell hblk 3
          have z3 := blk_frozen hblk 3
          have q0 := blk_put hblk 3 (.slice A2 ys.length cp2) rfl
          have q1 := blk_far (p := ⟨w.heap.size, 3, none⟩) hblk1 (by simp only; omega) (.slice A2 ys.length cp2)
          have p0 := blk_cell q0 0
          have p1 := blk_cell q0 1
          have p2 := blk_cell q0 2
          have p3 := blk_cell q0 3
          have s0 := blk_cell q1 0
          have s1 := blk_cell q1 1
          have s2 := blk_cell q1 2
          have s3 := blk_cell q1 3
          have f0 := blk_frozen q1 0
          have f1 := blk_frozen q1 1
          have f2 := blk_frozen q1 2
          have f3 := blk_frozen q1 3
          have Q1 := Aside0.mk q1
          have HKk := Aside0.mk (by omega : k = x.f3.length)
          clear hblk hblk1 hbel hR hyl hys q0 q1 hlt
          go_wp2
          have e1 := HYs.out
          rw [HKk.out, List.take_length] at e1
          have o5 := four_at Q1.out (.int .u8 x.f0) (.string (textT fr tn x)) (.int .i64 x.f2) (.slice A2 ys.length cp2)
          have g0 := blk_cell o5 0
          have g1 := blk_cell o5 1
          have g2 := blk_cell o5 2
          have g3 := blk_cell o5 3
          unfold four at g0 g1 g2 g3
          refine bodyPost_ret (v := .agg #[.int .u8 x.f0, .string (textT fr tn x), .int .i64 x.f2, .slice A2 ys.length cp2]) ?_ rfl ⟨_, rfl, ?_, ?_⟩
          · simp [results, Tryd.results17, go_sem, g0, g1, g2, g3]
          · rw [← e1]
            exact Kd.R_mono (R_four (Kd.R_far (p := ⟨w.heap.size, 3, none⟩) HR.out (fun j hj => hj.1) (.slice A2 ys.length cp2)) (fun j hj => hj.2) _ _ _ _) (fun _ _ => trivial)
          · exact below_four (HBl.out.setCell (p := ⟨w.heap.size, 3, none⟩) (Nat.le_refl _) _) (Nat.le_succ _) _ _ _ _
end Go.Proofs.YtfaohklglblcbaaDoor.Q
