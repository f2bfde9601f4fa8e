/- Go functions as Lean functions, and that each call comes to its Lean function's answer, wherever that is some answer. Written by a program of this session out of the translation. -/
import Derived.Test.YtiienmifjebdlaaQx0
import Derived.Test.YtiienmifjebdlaaQx5
namespace Go.Proofs.Ytiienmifjebdlaa.Q
open Go.RowKit Go.Proofs.YtiienmifjebdlaaW.PrintWords Go.Proofs.YtiienmifjebdlaaW.PrintLast Go.Proofs.YtiienmifjebdlaaW.PrintMore
attribute [local go_sem] max2_int min2_int max_two min_two max_three min_three max_four min_four   -- for this text's walks alone
set_option linter.unusedVariables false
set_option linter.unusedSimpArgs false

-- HAND vouch/fields.Kind | 0 | 1
def fieldsAr : Array Value := #[.string ⟨#[75, 101, 121, 78, 111, 116, 101, 45, 86, 101, 114, 115, 105, 111, 110]⟩, .string ⟨#[65, 117, 116, 104, 111, 114, 105, 122, 101, 114]⟩, .string ⟨#[76, 105, 99, 101, 110, 115, 101, 101, 115]⟩, .string ⟨#[76, 111, 99, 97, 108, 45, 67, 111, 110, 115, 116, 97, 110, 116, 115]⟩, .string ⟨#[67, 111, 110, 100, 105, 116, 105, 111, 110, 115]⟩, .string ⟨#[67, 111, 109, 109, 101, 110, 116]⟩, .string ⟨#[83, 105, 103, 110, 97, 116, 117, 114, 101]⟩]

theorem results_c1 {P : Program} {fn : Func} {p : Tmp} {ty : TypeId} (h : fn.results = #[.cell p ty]) (tmps : Array Value) (w : World) (g : Nat) (t : TypeId) (cs : Array Value) (fr : Nat × Nat) (d : TypeDesc)
    (hp : tmps.getD p undef = .pointer (some ⟨g, 0, none⟩)) (hg : w.heap[g]? = some (.cells cs t fr))
    (hu : P.underlying ty = some d) (hd : (match d with | .struct _ | .array _ _ => true | _ => false) = true) (hi : (P.info? ty).map (·.size) = some cs.size) :
    (results fn tmps).run P w = .ok (.agg cs) w := by
  have hp' : tmps[p]?.getD undef = .pointer (some ⟨g, 0, none⟩) := by simpa using hp
  simp [results, h, hp', asAddr, run_loadVar_row w g t ty cs fr d hg hu hd hi]

set_option maxHeartbeats 1000000 in
theorem fields_names_any (w : World) :
    Calls Try.prog 33 #[] w fun e w' => e = .returned (.agg fieldsAr) ∧ Below w.heap.size w w' := by
  go_enter Try.func33, Try.ntmps33
  go_wp2
  refine bodyPost_ret (v := .agg fieldsAr) ?_ rfl ⟨rfl, (Below.refl _ _).alloc (Nat.le_refl _) _⟩
  exact results_c1 Try.results33 _ _ w.heap.size 50 fieldsAr (0, 0) _ rfl (heap_alloc_new w _) Try.underlying50 rfl (by kernel_rfl)

def fieldsNm (i : Nat) : ByteArray := match i with
  | 0 => ⟨#[75, 101, 121, 78, 111, 116, 101, 45, 86, 101, 114, 115, 105, 111, 110]⟩
  | 1 => ⟨#[65, 117, 116, 104, 111, 114, 105, 122, 101, 114]⟩
  | 2 => ⟨#[76, 105, 99, 101, 110, 115, 101, 101, 115]⟩
  | 3 => ⟨#[76, 111, 99, 97, 108, 45, 67, 111, 110, 115, 116, 97, 110, 116, 115]⟩
  | 4 => ⟨#[67, 111, 110, 100, 105, 116, 105, 111, 110, 115]⟩
  | 5 => ⟨#[67, 111, 109, 109, 101, 110, 116]⟩
  | _ => ⟨#[83, 105, 103, 110, 97, 116, 117, 114, 101]⟩
theorem idxAr_0 (w : World) : (Instr.index 50 (.agg fieldsAr) (.int .i64 0)).run Try.prog w = .ok (.string (fieldsNm 0)) w := by kernel_rfl
theorem idxAr_1 (w : World) : (Instr.index 50 (.agg fieldsAr) (.int .i64 1)).run Try.prog w = .ok (.string (fieldsNm 1)) w := by kernel_rfl
theorem idxAr_2 (w : World) : (Instr.index 50 (.agg fieldsAr) (.int .i64 2)).run Try.prog w = .ok (.string (fieldsNm 2)) w := by kernel_rfl
theorem idxAr_3 (w : World) : (Instr.index 50 (.agg fieldsAr) (.int .i64 3)).run Try.prog w = .ok (.string (fieldsNm 3)) w := by kernel_rfl
theorem idxAr_4 (w : World) : (Instr.index 50 (.agg fieldsAr) (.int .i64 4)).run Try.prog w = .ok (.string (fieldsNm 4)) w := by kernel_rfl
theorem idxAr_5 (w : World) : (Instr.index 50 (.agg fieldsAr) (.int .i64 5)).run Try.prog w = .ok (.string (fieldsNm 5)) w := by kernel_rfl
theorem idxAr_6 (w : World) : (Instr.index 50 (.agg fieldsAr) (.int .i64 6)).run Try.prog w = .ok (.string (fieldsNm 6)) w := by kernel_rfl
theorem idxAr (k : Nat) (hk : k < 7) (w : World) : (Instr.index 50 (.agg fieldsAr) (.int .i64 k)).run Try.prog w = .ok (.string (fieldsNm k)) w := by
  match k, hk with
  | 0, _ => exact idxAr_0 w
  | 1, _ => exact idxAr_1 w
  | 2, _ => exact idxAr_2 w
  | 3, _ => exact idxAr_3 w
  | 4, _ => exact idxAr_4 w
  | 5, _ => exact idxAr_5 w
  | 6, _ => exact idxAr_6 w
theorem fieldsNm_size (k : Nat) : (fieldsNm k).size ≤ 15 := by
  unfold fieldsNm; split <;> decide
def lowerI (c : Int) : Int := if 65 ≤ c ∧ c ≤ 90 then c + 32 else c
def alikeB (a b : ByteArray) : Bool := decide (a.size = b.size ∧ ∀ j : Nat, j < a.size → lowerI (bt a j) = lowerI (bt b j))
theorem lower_some (c : Int) (h0 : 0 ≤ c) (h1 : c ≤ 255) : fields_lower.f c = some (lowerI c) := by
  unfold fields_lower.f lowerI
  by_cases h : 65 ≤ c
  · by_cases h' : c ≤ 90
    · rw [if_pos h, if_pos h', if_pos ⟨h, h'⟩]; congr 1; omega
    · rw [if_pos h, if_neg h', if_neg (by omega)]
  · rw [if_neg h, if_neg (by omega)]
theorem alike_loop (a b : ByteArray) (hs : a.size = b.size) (hb : a.size ≤ 140737488355328) (d : Nat) : ∀ (i k : Nat), i + d = a.size → d < k →
    fields_alike.l0 k a b (a.size : Int) (i : Int) = some (decide (∀ j : Nat, j < a.size → i ≤ j → lowerI (bt a j) = lowerI (bt b j))) := by
  induction d with
  | zero =>
    intro i k hi hk
    obtain ⟨k, rfl⟩ : ∃ m, k = m + 1 := ⟨k - 1, by omega⟩
    simp only [fields_alike.l0]; rw [if_neg (by omega)]
    congr 1; symm; rw [decide_eq_true_iff]; intro j h1 h2; omega
  | succ d ih =>
    intro i k hi hk
    obtain ⟨k, rfl⟩ : ∃ m, k = m + 1 := ⟨k - 1, by omega⟩
    have r1 := bt_range a i
    have r2 := bt_range b i
    simp only [fields_alike.l0]
    rw [if_pos (by omega), if_pos (by omega), if_pos (by omega), lower_some _ r1.1 r1.2]
    simp only [Option.bind_some]
    rw [if_pos (by omega), lower_some _ r2.1 r2.2]
    simp only [Option.bind_some]
    by_cases e : lowerI (bt a i) = lowerI (bt b i)
    · rw [if_pos e, show wrap64 ((i : Int) + 1) = ((i + 1 : Nat) : Int) from by unfold wrap64; omega, ih (i + 1) k (by omega) (by omega)]
      congr 1
      rw [decide_eq_decide]
      constructor
      · intro h j h1 h2
        by_cases q : j = i
        · subst q; exact e
        · exact h j h1 (by omega)
      · intro h j h1 h2; exact h j h1 (by omega)
    · rw [if_neg e]; congr 1; symm; rw [decide_eq_false_iff_not]; intro h; exact e (h i (by omega) (by omega))
theorem alike_some (a b : ByteArray) (hb : a.size ≤ 140737488355328) (k : Nat) (hk : a.size < k) : fields_alike.f k a b = some (alikeB a b) := by
  unfold fields_alike.f alikeB
  by_cases hs : a.size = b.size
  · rw [if_pos (by omega), show (0 : Int) = ((0 : Nat) : Int) from rfl, alike_loop a b hs hb a.size 0 k (by omega) hk]
    congr 1; rw [decide_eq_decide]
    exact ⟨fun h => ⟨hs, fun j h1 => h j h1 (by omega)⟩, fun h j h1 _ => h.2 j h1⟩
  · rw [if_neg (by omega)]; congr 1; symm; rw [decide_eq_false_iff_not]; exact fun h => hs h.1
def kindFrom (a : ByteArray) : Nat → Nat → Int × Bool
  | 0, _ => (0, false)
  | d + 1, i => if alikeB (fieldsNm i) a = true then ((i : Int) + 1, true) else kindFrom a d (i + 1)
def fields_Kind.f (a0 : ByteArray) : Option (Int × Bool) := some (kindFrom a0 7 0)

set_option maxHeartbeats 2000000 in
theorem fields_Kind.calls (a0 : ByteArray) (r1 : Int) (r2 : Bool) (w : World) (h : fields_Kind.f a0 = some (r1, r2)) :
    Calls Try.prog 15 #[.string a0] w fun e w' => e = .returned (.tuple #[.int .u8 r1, .bool r2]) ∧ Below w.heap.size w w' := by
  have H := Aside0.mk (Option.some.inj h)
  clear h
  go_enter Try.func15, Try.ntmps15
  go_wp2_with (go_at_call 33; refine (fields_names_any _).mono ?_; rintro e w1 ⟨rfl, hb⟩)
  have HB := Aside0.mk hb
  clear hb
  go_loopw [7] (fun i wr => ∃ k : Nat, k ≤ 7 ∧ i = .int .i64 k ∧ kindFrom a0 (7 - k) k = (r1, r2) ∧ Below w.heap.size w wr) (fun i _ => 7 - (intOf i).toNat)
  case atStart => exact ⟨0, by omega, rfl, H.out, HB.out⟩
  case round =>
    obtain ⟨k, hk, rfl, hr, hb⟩ := hrel
    have HR := Aside0.mk hr
    have HB1 := Aside0.mk hb
    clear hr hb
    by_cases hlt : k < 7
    · have hx := idxAr k hlt
      go_wp2_with (go_at_call 34; have A := alike_some (fieldsNm k) a0 (by have := fieldsNm_size k; omega) 16 (by have := fieldsNm_size k; omega); (with_reducible refine (fields_alike.calls 16 _ _ _ _ A).mono ?_); rintro e w2 ⟨rfl, ⟨nd, rfl⟩⟩; clear A)
      · have hA : alikeB (fieldsNm k) a0 = true := by assumption
        have hr := HR.out
        rw [show 7 - k = (6 - k) + 1 from by omega] at hr
        simp only [kindFrom] at hr
        rw [if_pos hA] at hr
        obtain ⟨rfl, rfl⟩ := Prod.mk.inj hr
        go_ret2
        exact ⟨rfl, pw_below_drewN HB1.out nd⟩
      · have hA : alikeB (fieldsNm k) a0 = false := by assumption
        have hr := HR.out
        rw [show 7 - k = (6 - k) + 1 from by omega] at hr
        simp only [kindFrom] at hr
        rw [if_neg (by rw [hA]; simp)] at hr
        refine ⟨⟨k + 1, by omega, by go_num, ?_, pw_below_drewN HB1.out nd⟩, by simp [intOf]; omega⟩
        rw [show 7 - (k + 1) = 6 - k from by omega]; exact hr
    · obtain rfl : k = 7 := by omega
      have hr := HR.out
      replace hr : ((0 : Int), false) = (r1, r2) := hr
      obtain ⟨rfl, rfl⟩ := Prod.mk.inj hr
      go_wp2
      go_ret2
      exact ⟨rfl, HB1.out⟩

end Go.Proofs.Ytiienmifjebdlaa.Q
