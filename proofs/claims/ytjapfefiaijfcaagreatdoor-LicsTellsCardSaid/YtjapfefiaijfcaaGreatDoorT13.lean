/- The contract of Parse at the closed body; the short call answers: works is true. -/
import Derived.Test.YtjapfefiaijfcaaGreatDoorQx0
import Derived.Test.YtjapfefiaijfcaaGreatDoorQx4
import Derived.Test.YtjapfefiaijfcaaGreatDoorT12
namespace Go.Proofs.YtjapfefiaijfcaaGreatDoor.Q
open Go.RowKit Go.Proofs.YtjapfefiaijfcaaGreatDoorW.PrintWords Go.Proofs.YtjapfefiaijfcaaGreatDoorW.PrintLast Go.Proofs.YtjapfefiaijfcaaGreatDoorW.PrintMore
set_option linter.unusedVariables false
def licP (c : UInt8) : S24 := ⟨1, ⟨#[c]⟩, 0, []⟩
/-- the tree of the one text. -/
def treeL : S24 := ⟨2, ⟨#[]⟩, 0, [licP 97, ⟨4, ⟨#[]⟩, 2, [licP 98, licP 99]⟩]⟩
theorem all_one {i : Nat} {dp : Int} {l : S24} {j : Int} (h : PartOK tokL [] 81 i dp l j) (h1 : lics_reader_sign.f tokL [] j dp ⟨#[38, 38]⟩ = some (false, j, dp)) (h2 : lics_reader_sign.f tokL [] j dp ⟨#[124, 124]⟩ = some (false, j, dp)) : PartOK tokL [] 36 i dp l j :=
  lics_some.calls tokL [] (by decide) i dp l j l j (lics_all.calls tokL [] (by decide) i dp l j l j h (.stop l j h1)) (.stop l j h2)
theorem one_a : PartOK tokL [] 81 ((0 : Nat) : Int) 0 (licP 97) ((1 : Nat) : Int) := lics_one_str.calls tokL [] 0 0 _ (by decide) (by decide) rfl rfl
theorem one_b : PartOK tokL [] 81 ((4 : Nat) : Int) 1 (licP 98) ((5 : Nat) : Int) := lics_one_str.calls tokL [] 4 1 _ (by decide) (by decide) rfl rfl
theorem one_c : PartOK tokL [] 81 ((6 : Nat) : Int) 1 (licP 99) ((7 : Nat) : Int) := lics_one_str.calls tokL [] 6 1 _ (by decide) (by decide) rfl rfl
theorem of_bc : PartOK tokL [] 81 ((2 : Nat) : Int) 0 ⟨4, ⟨#[]⟩, 2, [licP 98, licP 99]⟩ 8 := by
  refine lics_one_of.calls tokL [] 2 0 _ _ _ (by decide) (by decide) rfl rfl ?_
  refine lics_of.calls tokL [] (by decide) 2 0 (rd_T70 tokL 2) ⟨#[50]⟩ 2 _ 7 8 (by decide) rfl (by kernel_rfl) (by decide +kernel) (by decide) (by kernel_rfl) (by kernel_rfl) ?_ (by decide) (by kernel_rfl)
  refine .more [] 4 (licP 98) 5 _ _ (by decide) (by decide) (by decide) (all_one one_b (by kernel_rfl) (by kernel_rfl)) (by kernel_rfl) ?_
  exact .last [licP 98] 6 (licP 99) 7 (by decide) (all_one one_c (by kernel_rfl) (by kernel_rfl)) (by kernel_rfl)
theorem some_txt : PartOK tokL [] 36 0 0 treeL 8 := by
  refine lics_some.calls tokL [] (by decide) 0 0 treeL 8 treeL 8 ?_ (.stop _ _ (by kernel_rfl))
  refine lics_all.calls tokL [] (by decide) 0 0 (licP 97) 1 treeL 8 one_a ?_
  exact .more (licP 97) 1 _ 8 _ _ (by decide) (by kernel_rfl) of_bc (by decide) (.stop _ _ (by kernel_rfl))
theorem one_row {W : World} {base : Nat} {ok : Nat → Prop} {l : S24} {va : Value} (hl : Kd.R k24 24 W base ok va l.f3) (hb : base ≤ W.heap.size) (hf : ok W.heap.size) :
    Kd.R k24 24 (W.alloc (.cells #[.int .u8 l.f0, .string l.f1, .int .i64 l.f2, va] 24)) base ok (.slice (some ⟨W.heap.size, 0, none⟩) 1 1) [l] := by
  have hrep : Reps (k24.M W base ok) 4 [l] [.int .u8 l.f0, .string l.f1, .int .i64 l.f2, va] := by
    refine ⟨by simp, fun j p hj => ?_⟩
    rcases j with _ | j
    · simp at hj; subst hj
      exact k24_mkM _ _ _ _ hl
    · simp at hj
  refine ⟨fun k hk => ?_, _, ?_, hrep.imp_ (fun p c hp => k24.M_mono (fun k hk => ⟨hk.1, fun he => ?_⟩) (Kd.M_below (k24.M_bound hp) (below_alloc (Below.refl _ _) _)))⟩
  · have : W.heap.size = k := by simpa [Value.ownBlock] using hk
    subst this
    exact hf
  · have h2 := World.ownsRow_lit (base := base) (e := 24) (size := 4) W #[.int .u8 l.f0, .string l.f1, .int .i64 l.f2, va] 1 hb (by simp [maxLen]) (by simp)
    exact h2
  · have h3 : k = W.heap.size := by simpa [Value.ownBlock] using he
    have := hk.2.2.1
    omega
set_option maxHeartbeats 8000000 in
set_option maxRecDepth 100000 in
/-- Parse reads the one text. -/
theorem lics_Parse_txt.calls (w : World) : Calls Tryz.prog 19 #[.string txt, .slice none 0 0] w fun e w' => ∃ v, e = .returned (.tuple #[v, .int .i64 0, .int .i64 0]) ∧ Kd.R k24 24 w' w.heap.size (fun _ => True) v [treeL] ∧ Below w.heap.size w w' := by
  generalize ht : txt = tx
  have HTx := Aside0.mk ht
  clear ht
  go_enter Tryz.func19, Tryz.ntmps19
  go_wp2_with (first | (go_at_call 35; (refine (by rw [← HTx.out]; exact tokens_txt.calls _ : Calls Tryz.prog 35 #[.string tx] _ _).mono ?_); rintro e_ w1 ⟨v0, rfl, hr, hb⟩; obtain ⟨A, c, rfl, hc, hC⟩ := Kd.R_reads hr; rw [show tokL.length = 8 from rfl]; have HC1 := Aside0.mk hC; have HB1 := Aside0.mk hb; have HI1 := Aside0.mk (IsS67.new w1 w1 A c none 0 tokL [] 0 0 (Below.refl _ _) hC (Kd.C_nil _ _)); have HBn := Aside0.mk (below_alloc (Below.refl w1.heap.size w1) (.cells #[.slice A tokL.length c, .slice none 0 0, .int .i64 0, .int .i64 0] 67)); clear hr hb hc hC) | (go_at_call 36; (refine (some_txt w1.heap.size w1 _ HI1.out HBn.out).mono ?_); rintro e_ w3 ⟨v1, rfl, hi, hb, hk, hr⟩; obtain ⟨A3, cp3, rfl⟩ := Kd.R_slice hr; have HI3 := Aside0.mk hi; have HB3 := Aside0.mk hb; have HR3 := Aside0.mk hr; obtain ⟨A0', c0', A1', c1', hG, -, -, -⟩ := hi; have gg2 := fun o => cellS67_2 (blk_alloc hG o); clear hb hk hr hG))
  have z1 : w.heap.size ≤ w1.heap.size := HB1.out.size
  have z3 : w1.heap.size ≤ w3.heap.size := HB3.out.size
  have hR := one_row (W := w3.alloc (.cells #[.int .u8 treeL.f0, .string treeL.f1, .int .i64 treeL.f2, .slice A3 treeL.f3.length cp3] 24)) (base := w.heap.size) (ok := fun _ => True) (l := treeL) (Kd.R_alloc (Kd.R_lower HR3.out (by simp; omega)) _) (by simp; omega) trivial
  rw [show (w3.alloc (.cells #[.int .u8 treeL.f0, .string treeL.f1, .int .i64 treeL.f2, .slice A3 treeL.f3.length cp3] 24)).heap.size = w3.heap.size + 1 from by simp] at hR
  refine bodyPost_ret (v := .tuple #[.slice (some ⟨w3.heap.size + 1, 0, none⟩) 1 1, .int .i64 0, .int .i64 0]) ?_ rfl ⟨_, rfl, hR, ?_⟩
  · simp [results, Tryz.results19, go_sem]
  · exact ((HB1.out.trans (HB3.out.mono z1)).alloc (by omega) _).alloc (by simp; omega) _
def vouchlaw16_works.f : Option Bool := some true
set_option maxHeartbeats 8000000 in
set_option maxRecDepth 100000 in
theorem vouchlaw16_works.calls (r : Bool) (w : World) (h : vouchlaw16_works.f = some r) : Calls Tryz.prog 13 #[] w fun e w' => e = .returned (.bool r) ∧ Below w.heap.size w w' := by
  cases h
  generalize ht : txt = tx
  have HTx := Aside0.mk ht
  go_enter Tryz.func13, Tryz.ntmps13
  rw [show (⟨#[34, 97, 34, 32, 38, 38, 32, 50, 45, 111, 102, 40, 34, 98, 34, 44, 32, 34, 99, 34, 41]⟩ : ByteArray) = txt from rfl, ht]
  clear ht
  go_wp2_with (first | (go_at_call 19; (refine (by rw [← HTx.out]; exact lics_Parse_txt.calls _ : Calls Tryz.prog 19 #[.string tx, .slice none 0 0] _ _).mono ?_); rintro e_ w1 ⟨v0, rfl, hr, hb⟩; obtain ⟨A, c, rfl, hc, hC⟩ := Kd.R_reads hr; obtain ⟨ad, A3, c3, rfl, k0, k1, k2, k3, k4, k5⟩ := at_T24 hC 0 (by decide) (by decide); have q0 : w1.cell? ad = some (.int .u8 2) := k0; have q3 : w1.cell? ⟨ad.block, ad.off + 3, none⟩ = some (.slice A3 2 c3) := k3; obtain ⟨ad2, A4, c4, rfl, j0, j1, j2, j3, j4, j5⟩ := at_T24 k5 1 (by decide) (by decide); have p0 : w1.cell? ⟨ad2.block, ad2.off + 4, none⟩ = some (.int .u8 4) := j0; have p2 : w1.cell? ⟨ad2.block, ad2.off + 4 + 2, none⟩ = some (.int .i64 2) := j2; have p3 : w1.cell? ⟨ad2.block, ad2.off + 4 + 3, none⟩ = some (.slice A4 2 c4) := j3; clear hr hc hC k0 k1 k2 k3 k4 k5 j0 j1 j2 j3 j4 j5))
  go_ret
  exact ⟨rfl, hb⟩
end Go.Proofs.YtjapfefiaijfcaaGreatDoor.Q
