/- The contract of Renamed. -/
import Derived.Test.YtfaohklglblcbaaDoorT17
namespace Go.Proofs.YtfaohklglblcbaaDoor.Q
open Go.RowKit Go.Proofs.YtfaohklglblcbaaDoorW.PrintWords Go.Proofs.YtfaohklglblcbaaDoorW.PrintLast Go.Proofs.YtfaohklglblcbaaDoorW.PrintMore
set_option linter.unusedVariables false
theorem run_store_func (P : Program) (w : World) (a : Addr) (f : Fn) (bs cs : Array Value) (m : Mode) : (store a (.func f bs cs) m).run P w = stored P w a (.func f bs cs) m := run_store P w a _ m rfl
attribute [local go_sem] run_store_func
/-- What Renamed answers, and its error. -/
def renR (fr tn : List ByteArray) (x : S24) : S24 × Int := if okT x = true then (if fr.length = tn.length then (renT fr tn x, 0) else (⟨0, ⟨#[]⟩, 0, []⟩, 2)) else (⟨0, ⟨#[]⟩, 0, []⟩, 151)
/-- A tree that is answered, with an error. -/
def RenOut (r : S24 × Int) (w : World) (e : Ending) (w' : World) : Prop := ∃ v, e = .returned (.tuple #[.agg #[.int .u8 r.1.f0, .string r.1.f1, .int .i64 r.1.f2, v], .int .i64 r.2]) ∧ Kd.R k24 24 w' w.heap.size (fun _ => True) v r.1.f3 ∧ Below w.heap.size w w'
set_option maxHeartbeats 8000000 in
set_option maxRecDepth 100000 in
theorem lics_Renamed.calls (fr tn : List ByteArray) (hfl : fr.length ≤ 1000) (Af : Option Addr) (cf : Nat) (At : Option Addr) (ct : Nat) (x : S24) (A : Option Addr) (c : Nat) (w : World) (hN : szT x ≤ 2000) (hc : x.f3.length ≤ c) (hC : Kd.C k24 w A x.f3.length x.f3)
    (hF : Kd.C Kd.string w Af fr.length fr) (hT : Kd.C Kd.string w At tn.length tn) (hcf : fr.length ≤ cf) (hct : tn.length ≤ ct) :
    Calls Tryd.prog 8 #[.agg #[.int .u8 x.f0, .string x.f1, .int .i64 x.f2, .slice A x.f3.length c], .slice Af fr.length cf, .slice At tn.length ct] w (RenOut (renR fr tn x) w) := by
  have hck := fun (W : World) (hb : Below w.heap.size w W) => lics_Check.calls 3000 x A c W (by omega) (Nat.le_refl _) hc (Kd.C_below hC hb)
  have HC := Aside0.mk hC
  have HF := Aside0.mk hF
  have HT := Aside0.mk hT
  have HCF := Aside0.mk hcf
  have HCT := Aside0.mk hct
  have HCc := Aside0.mk hc
  have HN := Aside0.mk hN
  have hb4 : ∀ o o1 o2 o3 : Obj, Below w.heap.size w ((((w.alloc o).alloc o1).alloc o2).alloc o3) := fun o o1 o2 o3 => ((((Below.refl _ _).alloc (Nat.le_refl _) o).alloc (by simp) o1).alloc (by simp; omega) o2).alloc (by simp; omega) o3
  have HB4 := Aside0.mk hb4
  have hs4 : ∀ o o1 o2 o3 : Obj, ((((w.alloc o).alloc o1).alloc o2).alloc o3).heap.size = w.heap.size + 4 := fun o o1 o2 o3 => by simp
  have HS4 := Aside0.mk hs4
  cases ho : okT x
  · have he : errT x = 151 := by simp [errT, ho]
    have hr : renR fr tn x = (⟨0, ⟨#[]⟩, 0, []⟩, 151) := by simp [renR, ho]
    rw [hr]
    simp only [he] at hck
    have HCk := Aside0.mk hck
    clear hck hC hF hT hcf hct hc hN hb4 hs4 ho he hr
    go_enter Tryd.func8, Tryd.ntmps8
    go_wp2_with (first | (go_at_call 16; (refine (HCk.out _ (HB4.out _ _ _ _)).mono ?_); rintro e_ w2 ⟨rfl, hb2⟩; have hz := hb2.size; rw [HS4.out] at hz; have q3 := hb2.block (w.heap.size + 1 + 1 + 1) (by rw [HS4.out]; omega); have HB2 := Aside0.mk ((HB4.out _ _ _ _).trans (hb2.mono (HB4.out _ _ _ _).size)); have r3 := q3.trans (blk_new' _ (by simp)); have HR3 := Aside0.mk r3; have HZ := Aside0.mk hz; have c0 := blk_cell r3 0; have c1 := blk_cell r3 1; have c2 := blk_cell r3 2; have c3 := blk_cell r3 3; have z0 := blk_frozen r3 0; have z1 := blk_frozen r3 1; have z2 := blk_frozen r3 2; have z3 := blk_frozen r3 3; clear hz q3 r3 hb2))
    have o5 := four_at HR3.out (.int .u8 0) (.string ⟨#[]⟩) (.int .i64 0) (.slice none 0 0)
    have g0 := blk_cell o5 0
    have g1 := blk_cell o5 1
    have g2 := blk_cell o5 2
    have g3 := blk_cell o5 3
    unfold four at g0 g1 g2 g3
    refine bodyPost_ret (v := .tuple #[.agg #[.int .u8 0, .string ⟨#[]⟩, .int .i64 0, .slice none 0 0], .int .i64 151]) ?_ rfl ⟨_, rfl, Kd.R_nil _ _ _ _ _, below_four HB2.out (by omega) _ _ _ _⟩
    simp [results, Tryd.results8, go_sem, g0, g1, g2, g3]
  · have he : errT x = 0 := by simp [errT, ho]
    simp only [he] at hck
    have HCk := Aside0.mk hck
    by_cases hl : fr.length = tn.length
    · have hr : renR fr tn x = (renT fr tn x, 0) := by simp [renR, ho, hl]
      rw [hr, renT_eq]
      have l1 : ((fr.length : Int) == (tn.length : Int)) = true := beq_iff_eq.mpr (by omega)
      have l2 : (fr.length == tn.length) = true := beq_iff_eq.mpr hl
      have l3 : ((fr.length : Int) != (tn.length : Int)) = false := by rw [bne, l1]; rfl
      have l4 : (fr.length != tn.length) = false := by rw [bne, l2]; rfl
      have HFT := Aside0.mk hl
      clear hck hC hF hT hcf hct hc hN hb4 hs4 ho he hr hl
      go_enter Tryd.func8, Tryd.ntmps8
      go_wp2_with (first | (go_at_call 16; (refine (HCk.out _ (HB4.out _ _ _ _)).mono ?_); rintro e_ w2 ⟨rfl, hb2⟩; have hz := hb2.size; rw [HS4.out] at hz; have q3 := hb2.block (w.heap.size + 1 + 1 + 1) (by rw [HS4.out]; omega); have HB2 := Aside0.mk ((HB4.out _ _ _ _).trans (hb2.mono (HB4.out _ _ _ _).size)); have r3 := q3.trans (blk_new' _ (by simp)); have HR3 := Aside0.mk r3; have HZ := Aside0.mk hz; have c0 := blk_cell r3 0; have c1 := blk_cell r3 1; have c2 := blk_cell r3 2; have c3 := blk_cell r3 3; have z0 := blk_frozen r3 0; have z1 := blk_frozen r3 1; have z2 := blk_frozen r3 2; have z3 := blk_frozen r3 3; have r1 := (hb2.block (w.heap.size + 1) (by rw [HS4.out]; omega)).trans (blk_alloc (blk_alloc (blk_new' _ (by simp)) _) _); have r2 := (hb2.block (w.heap.size + 1 + 1) (by rw [HS4.out]; omega)).trans (blk_alloc (blk_new' _ (by simp)) _); have r0 := (hb2.block w.heap.size (by rw [HS4.out]; omega)).trans (blk_alloc (blk_alloc (blk_alloc (blk_new w _) _) _) _); have HR0 := Aside0.mk r0; have HR1 := Aside0.mk r1; have HR2 := Aside0.mk r2; have s1 := blk_cell r1 0; have s2 := blk_cell r2 0; have t0 := fun o => blk_cell (blk_alloc r0 o) 0; have t1 := fun o => blk_cell (blk_alloc r0 o) 1; have t2 := fun o => blk_cell (blk_alloc r0 o) 2; have t3 := fun o => blk_cell (blk_alloc r0 o) 3; clear r0 r1 r2; clear hz q3 r3 hb2) | (go_at_call 17; (refine (lics_Renamed1.calls fr tn HFT.out hfl (w.heap.size + 1) (w.heap.size + 1 + 1) w2.heap.size Af cf At ct 3000 x A c (w2.alloc (.cells #[.func (.func 17) #[] #[.pointer (some ⟨w.heap.size + 1, 0, none⟩), .pointer (some ⟨w.heap.size + 1 + 1, 0, none⟩), .pointer (some ⟨w2.heap.size, 0, none⟩)]] 28)) (by have := HN.out; omega) (Nat.le_refl _) HCc.out (Kd.C_below HC.out (HB2.out.alloc HB2.out.size _)) ⟨blk_alloc HR1.out _, blk_alloc HR2.out _, blk_new _ _, Kd.C_below HF.out (HB2.out.alloc HB2.out.size _), Kd.C_below HT.out (HB2.out.alloc HB2.out.size _), HCF.out, HCT.out⟩).mono ?_); rintro e_ w4 ⟨v2, rfl, hr, hb3⟩; obtain ⟨A4, cp4, rfl⟩ := Kd.R_slice hr; rw [List.length_map] at hr; have HR4 := Aside0.mk hr; have HB4' := Aside0.mk ((HB2.out.alloc HB2.out.size (.cells #[.func (.func 17) #[] #[.pointer (some ⟨w.heap.size + 1, 0, none⟩), .pointer (some ⟨w.heap.size + 1 + 1, 0, none⟩), .pointer (some ⟨w2.heap.size, 0, none⟩)]] 28)).trans (hb3.mono (by have := HB2.out.size; simp; omega))); have q3 := blk_below (blk_alloc HR3.out (.cells #[.func (.func 17) #[] #[.pointer (some ⟨w.heap.size + 1, 0, none⟩), .pointer (some ⟨w.heap.size + 1 + 1, 0, none⟩), .pointer (some ⟨w2.heap.size, 0, none⟩)]] 28)) hb3; have HQ3 := Aside0.mk q3; have cc0 := blk_cell q3 0; have cc1 := blk_cell q3 1; have cc2 := blk_cell q3 2; have cc3 := blk_cell q3 3; have zz0 := blk_frozen q3 0; have zz1 := blk_frozen q3 1; have zz2 := blk_frozen q3 2; have zz3 := blk_frozen q3 3; clear hr hb3 q3))
      have o5 := four_at HQ3.out (.int .u8 x.f0) (.string (textT fr tn x)) (.int .i64 x.f2) (.slice A4 x.f3.length cp4)
      have g0 := blk_cell o5 0
      have g1 := blk_cell o5 1
      have g2 := blk_cell o5 2
      have g3 := blk_cell o5 3
      unfold four at g0 g1 g2 g3
      have hz := HZ.out
      have zO : (w2.alloc (.cells #[.func (.func 17) #[] #[.pointer (some ⟨w.heap.size + 1, 0, none⟩), .pointer (some ⟨w.heap.size + 1 + 1, 0, none⟩), .pointer (some ⟨w2.heap.size, 0, none⟩)]] 28)).heap.size = w2.heap.size + 1 := by simp
      have hr := HR4.out
      rw [zO] at hr
      have hr2 := Kd.R_lower (Kd.R_mono (Kd.R_bound hr) (fun k hk => (by have := hk.2.1; omega : k ≠ w.heap.size + 1 + 1 + 1))) (by omega : w.heap.size ≤ w2.heap.size + 1)
      refine bodyPost_ret (v := .tuple #[.agg #[.int .u8 x.f0, .string (textT fr tn x), .int .i64 x.f2, .slice A4 x.f3.length cp4], .int .i64 0]) ?_ rfl ⟨_, rfl, Kd.R_mono (R_four hr2 (fun k hk => hk) _ _ _ _) (fun _ _ => trivial), below_four HB4'.out (by omega) _ _ _ _⟩
      simp [results, Tryd.results8, go_sem, g0, g1, g2, g3]
    · have hr : renR fr tn x = (⟨0, ⟨#[]⟩, 0, []⟩, 2) := by simp [renR, ho, hl]
      rw [hr]
      have l1 : ((fr.length : Int) == (tn.length : Int)) = false := beq_eq_false_iff_ne.mpr (by omega)
      have l2 : (fr.length == tn.length) = false := beq_eq_false_iff_ne.mpr hl
      have l3 : ((fr.length : Int) != (tn.length : Int)) = true := by rw [bne, l1]; rfl
      have l4 : (fr.length != tn.length) = true := by rw [bne, l2]; rfl
      clear hck hC hF hT hcf hct hc hN hb4 hs4 ho he hr hl
      go_enter Tryd.func8, Tryd.ntmps8
      go_wp2_with (first | (go_at_call 16; (refine (HCk.out _ (HB4.out _ _ _ _)).mono ?_); rintro e_ w2 ⟨rfl, hb2⟩; have hz := hb2.size; rw [HS4.out] at hz; have q3 := hb2.block (w.heap.size + 1 + 1 + 1) (by rw [HS4.out]; omega); have HB2 := Aside0.mk ((HB4.out _ _ _ _).trans (hb2.mono (HB4.out _ _ _ _).size)); have r3 := q3.trans (blk_new' _ (by simp)); have HR3 := Aside0.mk r3; have HZ := Aside0.mk hz; have c0 := blk_cell r3 0; have c1 := blk_cell r3 1; have c2 := blk_cell r3 2; have c3 := blk_cell r3 3; have z0 := blk_frozen r3 0; have z1 := blk_frozen r3 1; have z2 := blk_frozen r3 2; have z3 := blk_frozen r3 3; have r1 := (hb2.block (w.heap.size + 1) (by rw [HS4.out]; omega)).trans (blk_alloc (blk_alloc (blk_new' _ (by simp)) _) _); have r2 := (hb2.block (w.heap.size + 1 + 1) (by rw [HS4.out]; omega)).trans (blk_alloc (blk_new' _ (by simp)) _); have r0 := (hb2.block w.heap.size (by rw [HS4.out]; omega)).trans (blk_alloc (blk_alloc (blk_alloc (blk_new w _) _) _) _); have HR0 := Aside0.mk r0; have HR1 := Aside0.mk r1; have HR2 := Aside0.mk r2; have s1 := blk_cell r1 0; have s2 := blk_cell r2 0; clear r0 r1 r2; clear hz q3 r3 hb2))
      have o5 := four_at HR3.out (.int .u8 0) (.string ⟨#[]⟩) (.int .i64 0) (.slice none 0 0)
      have g0 := blk_cell o5 0
      have g1 := blk_cell o5 1
      have g2 := blk_cell o5 2
      have g3 := blk_cell o5 3
      unfold four at g0 g1 g2 g3
      refine bodyPost_ret (v := .tuple #[.agg #[.int .u8 0, .string ⟨#[]⟩, .int .i64 0, .slice none 0 0], .int .i64 2]) ?_ rfl ⟨_, rfl, Kd.R_nil _ _ _ _ _, below_four HB2.out (by omega) _ _ _ _⟩
      simp [results, Tryd.results8, go_sem, g0, g1, g2, g3]
end Go.Proofs.YtfaohklglblcbaaDoor.Q
