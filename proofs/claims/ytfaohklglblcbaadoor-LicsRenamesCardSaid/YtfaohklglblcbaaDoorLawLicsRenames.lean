/- The given statement of LicsRenames: for every input the call returns true, and each argument reads behind it as it read before; tied to the text of the program. -/
import Derived.Test.YtfaohklglblcbaaDoorT26
import Derived.Test.YtfaohklglblcbaaDoorT27
import Derived.Test.YtfaohklglblcbaaDoorRows
import Derived.Test.YtfaohklglblcbaaDoorTie
import Derived.Test.YtfaohklglblcbaaDoorCards
import Derived.WalkKit
import Derived.ProofKit
import Derived.OpenShut
import Derived.ChangeOld
import Derived.Below
import Derived.LaidMore
import Derived.Lay
import Derived.SevenTiedAt
import Derived.Stop.Joined
namespace Go.Proofs.YtfaohklglblcbaaDoor
open Go.ChangeShapes Go.WideShapes Go.ChangeAt Go.RowKit
theorem law_all (x : Q.S24) (A : Option Addr) (c : Nat) (fr : List ByteArray) (Af : Option Addr) (cf : Nat) (tn : List ByteArray) (At : Option Addr) (ct : Nat) (w : World) (hc : x.f3.length ≤ c) (hC : YtfaohklglblcbaaDoorW.PrintWords.Kd.C Q.k24 w A x.f3.length x.f3)
    (hF : YtfaohklglblcbaaDoorW.PrintWords.Kd.C YtfaohklglblcbaaDoorW.PrintWords.Kd.string w Af fr.length fr) (hT : YtfaohklglblcbaaDoorW.PrintWords.Kd.C YtfaohklglblcbaaDoorW.PrintWords.Kd.string w At tn.length tn) (hcf : fr.length ≤ cf) (hct : tn.length ≤ ct) :
    Calls Tryd.prog 3 #[.agg #[.int .u8 x.f0, .string x.f1, .int .i64 x.f2, .slice A x.f3.length c], .slice Af fr.length cf, .slice At tn.length ct] w fun e w' => e = .returned (.bool true) ∧ Below w.heap.size w w' := by
  by_cases h1 : Q.szT x ≤ 2000
  · by_cases h2 : fr.length ≤ 1000
    · by_cases h3 : tn.length ≤ 1000
      · exact Q.law_yes x A c fr Af cf tn At ct w hc hC hF hT hcf hct h1 h2 h3
      · exact Q.law_no x A c fr Af cf tn At ct w hc hC (by rw [decide_eq_false h3]; simp)
    · exact Q.law_no x A c fr Af cf tn At ct w hc hC (by rw [decide_eq_false h2]; simp)
  · exact Q.law_no x A c fr Af cf tn At ct w hc hC (by rw [decide_eq_false h1]; simp)
theorem own : ownKnob Tryd.prog.godebug = none := by kernel_rfl
theorem laidOut : laidOutB Tryd.prog = true := by kernel_rfl
set_option maxRecDepth 100000 in
theorem lifted (os : Os) (started : os.Started) (H : Type) (enc : TypeId × Value → H) :
    ReturnsInHanded {} Tryd.checked os 3 .any (fun w args => (Rows.licsRenamesSpec.pre enc Tryd.prog Tryd.f3 Rows.licsRenamesRow.domain false w args ∧ laidMetH Tryd.prog Rows.licsRenamesRow.laid w) ∧ sizedMet enc Tryd.prog Tryd.f3 (OpenSpec.ofChange Rows.licsRenamesSpec) false w args)
      (Rows.licsRenamesSpec.post enc Tryd.prog Tryd.f3 false true false false) := by
  refine returnsInHanded_of_change_and (C := Tryd.checked) (X := fun w _ => laidMetH Tryd.prog Rows.licsRenamesRow.laid w) (fun _ _ _ hh h => h.of_heap hh) own started (by kernel_rfl) Tryd.func3
    (ChangeSpec.witness_shaped (enc := enc) (C := Tryd.checked) (os := os) (X := fun w _ => laidMetH Tryd.prog Rows.licsRenamesRow.laid w) false (World.laidAll Tryd.prog os Rows.licsRenamesRow.laid) #[.agg #[.int .u8 0, .string ByteArray.empty, .int .i64 0, .slice none 0 0], .slice none 0 0, .slice none 0 0] 8 (World.laidAll_os _ _ _)
      (World.shaped_of_ZipB (by kernel_rfl) (by kernel_rfl)) (by kernel_rfl) (by kernel_rfl) (by kernel_rfl)
      (by rw [MakeChecks.laidMetH_plain _ _ _ (by kernel_rfl)]; exact laidMet_laidAll _ (by kernel_rfl) (by kernel_rfl))) ?_
  intro W base args ds gs before hval0 hW _ _ _ _
  have hval : ∀ (j : Nat) t v, Tryd.f3.params[j]? = some t → args[j]? = some v → Value.okWide Tryd.prog W .any base t v := hval0
  have hW' := hW
  obtain ⟨p, q, hA0, hV, rfl, hfz, hnd⟩ := hW
  have hA : DataW.TrodAll enc Tryd.prog W 0 (fun _ => true) true Tryd.f3.params.toList args.toList ds p := hA0
  rw [Tryd.params3] at hA hval
  obtain ⟨v0, vs0, d0, ds0, p0, q0, hargs, rfl, rfl, h0, r0⟩ := trodAll_cons hA
  obtain ⟨v1, vs1, d1, ds1, p1, q1, rfl, rfl, rfl, h1, r1⟩ := trodAll_cons r0
  obtain ⟨v2, vs2, d2, ds2, p2, q2, rfl, rfl, rfl, h2, r2⟩ := trodAll_cons r1
  obtain ⟨rfl, rfl, rfl⟩ := trodAll_nil r2
  obtain rfl : args = #[v0, v1, v2] := by cases args; simp_all
  obtain ⟨rfl, rfl⟩ := trodVars_none hV
  obtain ⟨x, A, c, rfl, l0, C0⟩ := Q.tree_reads (hval 0 24 v0 rfl rfl) h0
  obtain ⟨fr, Af, cf, rfl, l1, -, C1⟩ := Q.texts_reads Tryd.underlying25 Tryd.underlying9 (by kernel_rfl) (hval 1 25 v1 rfl rfl) h1
  obtain ⟨tn, At, ct, rfl, l2, -, C2⟩ := Q.texts_reads Tryd.underlying25 Tryd.underlying9 (by kernel_rfl) (hval 2 25 v2 rfl rfl) h2
  have lt0 : ∀ x ∈ p0, x.block < W.heap.size := by obtain ⟨m, hm⟩ := h0; exact DataW.trod_lt m _ _ _ hm
  have lt1 : ∀ x ∈ p1, x.block < W.heap.size := by obtain ⟨m, hm⟩ := h1; exact DataW.trod_lt m _ _ _ hm
  have lt2 : ∀ x ∈ p2, x.block < W.heap.size := by obtain ⟨m, hm⟩ := h2; exact DataW.trod_lt m _ _ _ hm
  clear hA0 hval0
  refine (law_all x A c fr Af cf tn At ct W l0 C0 C1 C2 l1 l2).mono fun e W' ⟨he, bel⟩ => ?_
  subst he
  exact ⟨_, rfl, _, _, _, [], _, [], hW', trodAll_mk1 (shut_bool Tryd.underlying4 _), (trodAll_cons_mk (Below.trod laidOut (by kernel_rfl) (of_decide_eq_true (by kernel_rfl)) h0 bel lt0) (trodAll_cons_mk (Below.trod laidOut (by kernel_rfl) (of_decide_eq_true (by kernel_rfl)) h1 bel lt1) (trodAll_cons_mk (Below.trod laidOut (by kernel_rfl) (of_decide_eq_true (by kernel_rfl)) h2 bel lt2) trodAll_mk0))), rfl, bel.frame _, fun h => by cases h⟩
theorem holds : Rows.LicsRenamesSaid :=
  OpenClaim.holds_of_wide 3 Tryd.f3 rfl rfl rfl rfl rfl rfl rfl ⟨rfl, rfl, rfl, rfl, rfl⟩ rfl rfl rfl rfl rfl (by kernel_rfl) Tryd.func3 (by kernel_rfl)
    (of_decide_eq_true (by kernel_rfl)) (by unfold Func.isWrapper; first | (rw [if_pos (by decide +kernel)]; kernel_rfl) | (rw [if_neg (by decide +kernel)]; exact ⟨rfl, rfl⟩))
    (fun os started H enc _ => lifted os started H enc)
theorem licsRenames_card_holds : Rows.LicsRenamesCardSaid :=
  Claim7.holds_tied_plain_at .later [] Rows.licsRenamesCard.laidKinds true Rows.licsRenamesCard.stood.harness true
    holds (fun _ h => by cases h) (by kernel_rfl) (fun _ h => by cases h) licsRenames_row_tie rfl ⟨rfl, rfl⟩ (by kernel_rfl) rfl
    (fun f fn hf hfn => by
      obtain rfl : f = 3 := Option.some.inj ((show Tryd.prog.funcNamed "vouch/vouchlaw16.LicsRenames" = some 3 by kernel_rfl).symm.trans hf) |>.symm
      obtain rfl : fn = Tryd.f3 := (Option.some.inj (Tryd.func3.symm.trans hfn)).symm
      exact ⟨by kernel_rfl, fun j t ht => by
        rw [Tryd.params3] at ht
        have hm : t ∈ [24, 25, 25] := by simpa using Array.mem_of_getElem? ht
        have hall : ([24, 25, 25].all fun u => !Tryd.prog.wantsStandIn u) = true := by kernel_rfl
        exact (show Tryd.prog.wantsStandIn t = false by simpa using List.all_eq_true.1 hall t hm)⟩)
    (by kernel_rfl)
#print axioms licsRenames_card_holds
end Go.Proofs.YtfaohklglblcbaaDoor
