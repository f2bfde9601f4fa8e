/- The contracts of the reference's Renamed, of Same, Size and few. -/
import Derived.Test.YtfaohklglblcbaaDoorT18
namespace Go.Proofs.YtfaohklglblcbaaDoor.Q
open Go.RowKit Go.Proofs.YtfaohklglblcbaaDoorW.PrintWords Go.Proofs.YtfaohklglblcbaaDoorW.PrintLast Go.Proofs.YtfaohklglblcbaaDoorW.PrintMore
set_option linter.unusedVariables false
theorem place_ge (l : List ByteArray) (t : ByteArray) (hl : l.length ≤ 1000000) : ∀ j k, j ≤ l.length → l.length - j + 1 ≤ k → vouchref16_place.l0 k l t (j : Int) = some (placeS t (l.drop j) j) := by
  intro j k hj hk
  induction k generalizing j with
  | zero => omega
  | succ k ih =>
    unfold vouchref16_place.l0
    by_cases hlt : j < l.length
    · rw [if_pos (by omega), if_pos (by omega), List.drop_eq_getElem_cons hlt, rdOf_nat hlt]
      unfold placeS
      by_cases h : l[j].toList = t.toList
      · rw [if_pos h, if_pos h.symm]
      · rw [if_neg h, if_neg (fun h' => h h'.symm), IntWalk.wrap64_in _ (by omega)]
        exact ih (j + 1) (by omega) (by omega)
    · rw [if_neg (by omega), List.drop_eq_nil_of_le (by omega)]; rfl
theorem renamed_some (fr tn : List ByteArray) (hft : fr.length = tn.length) (hfl : fr.length ≤ 1000) (N : Nat) : ∀ x : S24, szT x < N → N ≤ 3000 → ∃ K, ∀ k, K ≤ k → vouchref16_renamed.f k x.f0 x.f1 x.f2 x.f3 fr tn = some (x.f0, textT fr tn x, x.f2, x.f3.map (renT fr tn)) := by
  induction N with
  | zero => exact fun x h => absurd h (Nat.not_lt_zero _)
  | succ N ih =>
    intro x hN hN2
    have hlen := szT_len x
    have hchild : ∀ j, j < x.f3.length → ∃ K, ∀ k, K ≤ k → vouchref16_renamed.f k (rd_T24 x.f3 (j : Int)).f0 (rd_T24 x.f3 (j : Int)).f1 (rd_T24 x.f3 (j : Int)).f2 (rd_T24 x.f3 (j : Int)).f3 fr tn = some ((rd_T24 x.f3 (j : Int)).f0, textT fr tn (rd_T24 x.f3 (j : Int)), (rd_T24 x.f3 (j : Int)).f2, (rd_T24 x.f3 (j : Int)).f3.map (renT fr tn)) := fun j hj => ih _ (by
      have hmem : rd_T24 x.f3 (j : Int) ∈ x.f3 := by rw [rd_nat hj]; exact List.getElem_mem hj
      have := szT_mem hmem; omega) (by omega)
    obtain ⟨K, hK⟩ := Kd.bounded (P := fun n j => j < x.f3.length → ∀ k, n ≤ k → vouchref16_renamed.f k (rd_T24 x.f3 (j : Int)).f0 (rd_T24 x.f3 (j : Int)).f1 (rd_T24 x.f3 (j : Int)).f2 (rd_T24 x.f3 (j : Int)).f3 fr tn = some ((rd_T24 x.f3 (j : Int)).f0, textT fr tn (rd_T24 x.f3 (j : Int)), (rd_T24 x.f3 (j : Int)).f2, (rd_T24 x.f3 (j : Int)).f3.map (renT fr tn))) (fun n m j hnm h hj k hk => h hj k (by omega)) x.f3.length (fun j hj => by
      obtain ⟨K, h⟩ := hchild j hj
      exact ⟨K, fun _ => h⟩)
    have hloop : ∀ d j, j + d = x.f3.length → ∀ k, K + d + 1 ≤ k → ∀ (a0 : Int) (a1 : ByteArray) (a2 : Int) (acc : List S24), acc.length = j → vouchref16_renamed.l0 k fr tn (j : Int) x.f0 x.f1 x.f2 x.f3 a0 a1 a2 acc = some (a0, a1, a2, acc ++ (x.f3.drop j).map (renT fr tn)) := by
      intro d
      induction d with
      | zero =>
        intro j hj k hk a0 a1 a2 acc hacc
        obtain ⟨k, rfl⟩ : ∃ k', k = k' + 1 := ⟨k - 1, by omega⟩
        unfold vouchref16_renamed.l0
        rw [if_neg (by omega), List.drop_eq_nil_of_le (by omega)]; simp
      | succ d ihd =>
        intro j hj k hk a0 a1 a2 acc hacc
        obtain ⟨k, rfl⟩ : ∃ k', k = k' + 1 := ⟨k - 1, by omega⟩
        have hlt : j < x.f3.length := by omega
        unfold vouchref16_renamed.l0
        rw [if_pos (by omega), if_pos (by omega), hK j hlt hlt k (by omega), Option.bind_some, if_pos (by omega), IntWalk.wrap64_in _ (by omega)]
        rw [show (j : Int) + 1 = ((j + 1 : Nat) : Int) from by omega, ihd (j + 1) (by omega) k (by omega) a0 a1 a2 _ (by simp; omega)]
        rw [List.drop_eq_getElem_cons hlt, List.map_cons, renT_eq fr tn x.f3[j], rd_nat hlt]
        simp
    refine ⟨K + x.f3.length + fr.length + 10, fun k hk => ?_⟩
    obtain ⟨k, rfl⟩ : ∃ k', k = k' + 3 := ⟨k - 3, by omega⟩
    have hp : vouchref16_place.f (k + 2) fr x.f1 = some (placeS x.f1 fr 0) := by
      have q := place_ge fr x.f1 (by omega) 0 (k + 2) (by omega) (by omega)
      rw [List.drop_zero, show ((0 : Nat) : Int) = 0 from rfl] at q
      exact q
    have hj1 : ∀ (a0 : Int) (a1 : ByteArray) (a2 : Int), vouchref16_renamed.j1 (k + 1) fr tn x.f0 x.f1 x.f2 x.f3 a0 a1 a2 = some (a0, a1, a2, x.f3.map (renT fr tn)) := fun a0 a1 a2 => by
      unfold vouchref16_renamed.j1
      have q := hloop x.f3.length 0 (by omega) k (by omega) a0 a1 a2 [] rfl
      rw [List.drop_zero, show ((0 : Nat) : Int) = 0 from rfl] at q
      exact q
    unfold vouchref16_renamed.f
    rw [hp, Option.bind_some]
    have hpl := placeS_lt x.f1 fr 0
    unfold textT
    by_cases h1 : x.f0 = 1
    · rw [if_pos h1]
      unfold vouchref16_renamed.j0
      by_cases h0 : 0 ≤ placeS x.f1 fr 0
      · rw [if_pos (decide_eq_true h0), if_pos h0, if_pos (by omega), hj1, if_pos ⟨h1, h0⟩]
      · rw [if_neg (by simpa using h0), hj1, if_neg (fun h => h0 h.2)]
    · rw [if_neg h1]
      unfold vouchref16_renamed.j0
      rw [if_neg (by simp), hj1, if_neg (fun h => h1 h.1)]
set_option maxHeartbeats 8000000 in
set_option maxRecDepth 100000 in
theorem vouchref16_Renamed.calls (fr tn : List ByteArray) (hfl : fr.length ≤ 1000) (Af : Option Addr) (cf : Nat) (At : Option Addr) (ct : Nat) (x : S24) (A : Option Addr) (c : Nat) (w : World) (hN : szT x ≤ 2000) (hc : x.f3.length ≤ c) (hC : Kd.C k24 w A x.f3.length x.f3)
    (hF : Kd.C Kd.string w Af fr.length fr) (hT : Kd.C Kd.string w At tn.length tn) (hcf : fr.length ≤ cf) (hct : tn.length ≤ ct) :
    Calls Tryd.prog 7 #[.agg #[.int .u8 x.f0, .string x.f1, .int .i64 x.f2, .slice A x.f3.length c], .slice Af fr.length cf, .slice At tn.length ct] w (RenOut (renR fr tn x) w) := by
  have hck := fun (W : World) (hb : Below w.heap.size w W) => vouchref16_Check.calls 3000 x A c W (by omega) (Nat.le_refl _) hc (Kd.C_below hC hb)
  have HC := Aside0.mk hC
  have HF := Aside0.mk hF
  have HT := Aside0.mk hT
  have HCF := Aside0.mk hcf
  have HCT := Aside0.mk hct
  have HCc := Aside0.mk hc
  have HN := Aside0.mk hN
  have hb4 : ∀ o o1 : Obj, Below w.heap.size w ((w.alloc o).alloc o1) := fun o o1 => ((Below.refl _ _).alloc (Nat.le_refl _) o).alloc (by simp) o1
  have HB4 := Aside0.mk hb4
  have hs4 : ∀ o o1 : Obj, ((w.alloc o).alloc o1).heap.size = w.heap.size + 2 := fun o o1 => by simp
  have HS4 := Aside0.mk hs4
  cases ho : okT x
  · have he : errT x = 151 := by simp [errT, ho]
    have hr : renR fr tn x = (⟨0, ⟨#[]⟩, 0, []⟩, 151) := by simp [renR, ho]
    rw [hr]
    simp only [he] at hck
    have HCk := Aside0.mk hck
    clear hck hC hF hT hcf hct hc hN hb4 hs4 ho he hr
    go_enter Tryd.func7, Tryd.ntmps7
    go_wp2_with (first | (go_at_call 14; (refine (HCk.out _ (HB4.out _ _)).mono ?_); rintro e_ w2 ⟨rfl, hb2⟩; have hz := hb2.size; rw [HS4.out] at hz; have r3 := (hb2.block (w.heap.size + 1) (by rw [HS4.out]; omega)).trans (blk_new' _ (by simp)); have HB2 := Aside0.mk ((HB4.out _ _).trans (hb2.mono (HB4.out _ _).size)); have HR3 := Aside0.mk r3; have HZ := Aside0.mk hz; have c0 := blk_cell r3 0; have c1 := blk_cell r3 1; have c2 := blk_cell r3 2; have c3 := blk_cell r3 3; have z0 := blk_frozen r3 0; have z1 := blk_frozen r3 1; have z2 := blk_frozen r3 2; have z3 := blk_frozen r3 3; clear hz r3 hb2))
    have o5 := four_at HR3.out (.int .u8 0) (.string ⟨#[]⟩) (.int .i64 0) (.slice none 0 0)
    have g0 := blk_cell o5 0
    have g1 := blk_cell o5 1
    have g2 := blk_cell o5 2
    have g3 := blk_cell o5 3
    unfold four at g0 g1 g2 g3
    refine bodyPost_ret (v := .tuple #[.agg #[.int .u8 0, .string ⟨#[]⟩, .int .i64 0, .slice none 0 0], .int .i64 151]) ?_ rfl ⟨_, rfl, Kd.R_nil _ _ _ _ _, below_four HB2.out (by omega) _ _ _ _⟩
    simp [results, Tryd.results7, go_sem, g0, g1, g2, g3]
  · have he : errT x = 0 := by simp [errT, ho]
    simp only [he] at hck
    have HCk := Aside0.mk hck
    by_cases hl : fr.length = tn.length
    · have hr : renR fr tn x = (renT fr tn x, 0) := by simp [renR, ho, hl]
      rw [hr, renT_eq]
      obtain ⟨K, hK⟩ := renamed_some fr tn hl hfl 3000 x (by omega) (Nat.le_refl _)
      have HK := Aside0.mk (hK K (Nat.le_refl _))
      have l1 : ((fr.length : Int) == (tn.length : Int)) = true := beq_iff_eq.mpr (by omega)
      have l2 : (fr.length == tn.length) = true := beq_iff_eq.mpr hl
      have l3 : ((fr.length : Int) != (tn.length : Int)) = false := by rw [bne, l1]; rfl
      have l4 : (fr.length != tn.length) = false := by rw [bne, l2]; rfl
      clear hck hC hF hT hcf hct hc hN hb4 hs4 ho he hr hl hK
      go_enter Tryd.func7, Tryd.ntmps7
      go_wp2_with (first | (go_at_call 14; (refine (HCk.out _ (HB4.out _ _)).mono ?_); rintro e_ w2 ⟨rfl, hb2⟩; have hz := hb2.size; rw [HS4.out] at hz; have r3 := (hb2.block (w.heap.size + 1) (by rw [HS4.out]; omega)).trans (blk_new' _ (by simp)); have HB2 := Aside0.mk ((HB4.out _ _).trans (hb2.mono (HB4.out _ _).size)); have HR3 := Aside0.mk r3; have HZ := Aside0.mk hz; have c0 := blk_cell r3 0; have c1 := blk_cell r3 1; have c2 := blk_cell r3 2; have c3 := blk_cell r3 3; have z0 := blk_frozen r3 0; have z1 := blk_frozen r3 1; have z2 := blk_frozen r3 2; have z3 := blk_frozen r3 3; have r0 := (hb2.block w.heap.size (by rw [HS4.out]; omega)).trans (blk_alloc (blk_new w _) _); have t0 := blk_cell r0 0; have t1 := blk_cell r0 1; have t2 := blk_cell r0 2; have t3 := blk_cell r0 3; clear r0; clear hz r3 hb2) | (go_at_call 15; (refine (vouchref16_renamed.calls K x.f0 x.f1 x.f2 A c x.f3 Af cf fr At ct tn x.f0 (textT fr tn x) x.f2 (x.f3.map (renT fr tn)) _ (Kd.C_below HC.out HB2.out) HCc.out (Kd.C_below HF.out HB2.out) HCF.out (Kd.C_below HT.out HB2.out) HCT.out HK.out).mono ?_); rintro e_ w4 ⟨v2, rfl, hr, hb3⟩; obtain ⟨A4, cp4, rfl⟩ := Kd.R_slice hr; rw [List.length_map] at hr; have HR4 := Aside0.mk hr; have HB4' := Aside0.mk (HB2.out.trans (hb3.mono HB2.out.size)); have q3 := blk_below HR3.out hb3; have HQ3 := Aside0.mk q3; have cc0 := blk_cell q3 0; have cc1 := blk_cell q3 1; have cc2 := blk_cell q3 2; have cc3 := blk_cell q3 3; have zz0 := blk_frozen q3 0; have zz1 := blk_frozen q3 1; have zz2 := blk_frozen q3 2; have zz3 := blk_frozen q3 3; clear hr hb3 q3))
      have o5 := four_at HQ3.out (.int .u8 x.f0) (.string (textT fr tn x)) (.int .i64 x.f2) (.slice A4 x.f3.length cp4)
      have g0 := blk_cell o5 0
      have g1 := blk_cell o5 1
      have g2 := blk_cell o5 2
      have g3 := blk_cell o5 3
      unfold four at g0 g1 g2 g3
      have hz := HZ.out
      have hr2 := Kd.R_lower (Kd.R_mono (Kd.R_bound HR4.out) (fun k hk => (by have := hk.2.1; omega : k ≠ w.heap.size + 1))) (by omega : w.heap.size ≤ w2.heap.size)
      refine bodyPost_ret (v := .tuple #[.agg #[.int .u8 x.f0, .string (textT fr tn x), .int .i64 x.f2, .slice A4 x.f3.length cp4], .int .i64 0]) ?_ rfl ⟨_, rfl, Kd.R_mono (R_four hr2 (fun k hk => hk) _ _ _ _) (fun _ _ => trivial), below_four HB4'.out (by omega) _ _ _ _⟩
      simp [results, Tryd.results7, go_sem, g0, g1, g2, g3]
    · have hr : renR fr tn x = (⟨0, ⟨#[]⟩, 0, []⟩, 2) := by simp [renR, ho, hl]
      rw [hr]
      have l1 : ((fr.length : Int) == (tn.length : Int)) = false := beq_eq_false_iff_ne.mpr (by omega)
      have l2 : (fr.length == tn.length) = false := beq_eq_false_iff_ne.mpr hl
      have l3 : ((fr.length : Int) != (tn.length : Int)) = true := by rw [bne, l1]; rfl
      have l4 : (fr.length != tn.length) = true := by rw [bne, l2]; rfl
      clear hck hC hF hT hcf hct hc hN hb4 hs4 ho he hr hl
      go_enter Tryd.func7, Tryd.ntmps7
      go_wp2_with (first | (go_at_call 14; (refine (HCk.out _ (HB4.out _ _)).mono ?_); rintro e_ w2 ⟨rfl, hb2⟩; have hz := hb2.size; rw [HS4.out] at hz; have r3 := (hb2.block (w.heap.size + 1) (by rw [HS4.out]; omega)).trans (blk_new' _ (by simp)); have HB2 := Aside0.mk ((HB4.out _ _).trans (hb2.mono (HB4.out _ _).size)); have HR3 := Aside0.mk r3; have HZ := Aside0.mk hz; have c0 := blk_cell r3 0; have c1 := blk_cell r3 1; have c2 := blk_cell r3 2; have c3 := blk_cell r3 3; have z0 := blk_frozen r3 0; have z1 := blk_frozen r3 1; have z2 := blk_frozen r3 2; have z3 := blk_frozen r3 3; have r0 := (hb2.block w.heap.size (by rw [HS4.out]; omega)).trans (blk_alloc (blk_new w _) _); have t0 := blk_cell r0 0; have t1 := blk_cell r0 1; have t2 := blk_cell r0 2; have t3 := blk_cell r0 3; clear r0; clear hz r3 hb2))
      have o5 := four_at HR3.out (.int .u8 0) (.string ⟨#[]⟩) (.int .i64 0) (.slice none 0 0)
      have g0 := blk_cell o5 0
      have g1 := blk_cell o5 1
      have g2 := blk_cell o5 2
      have g3 := blk_cell o5 3
      unfold four at g0 g1 g2 g3
      refine bodyPost_ret (v := .tuple #[.agg #[.int .u8 0, .string ⟨#[]⟩, .int .i64 0, .slice none 0 0], .int .i64 2]) ?_ rfl ⟨_, rfl, Kd.R_nil _ _ _ _ _, below_four HB2.out (by omega) _ _ _ _⟩
      simp [results, Tryd.results7, go_sem, g0, g1, g2, g3]
theorem szT_ren (fr tn : List ByteArray) (N : Nat) : ∀ x : S24, szT x < N → szT (renT fr tn x) = szT x := by
  induction N with
  | zero => exact fun x h => absurd h (Nat.not_lt_zero _)
  | succ N ih =>
    intro x hN
    rw [renT_eq, szT_eq, szT_eq x]
    congr 2
    simp only [List.map_map]
    refine List.map_congr_left (fun y hy => ?_)
    have := szT_mem hy
    exact ih y (by omega)
theorem same_some (N : Nat) : ∀ x : S24, szT x < N → N ≤ 3000 → ∃ K, ∀ k, K ≤ k → vouchref16_Same.f k x.f0 x.f1 x.f2 x.f3 x.f0 x.f1 x.f2 x.f3 = some true := by
  induction N with
  | zero => exact fun x h => absurd h (Nat.not_lt_zero _)
  | succ N ih =>
    intro x hN hN2
    have hlen := szT_len x
    obtain ⟨K, hK⟩ := Kd.bounded (P := fun n j => j < x.f3.length → ∀ k, n ≤ k → vouchref16_Same.f k (rd_T24 x.f3 (j : Int)).f0 (rd_T24 x.f3 (j : Int)).f1 (rd_T24 x.f3 (j : Int)).f2 (rd_T24 x.f3 (j : Int)).f3 (rd_T24 x.f3 (j : Int)).f0 (rd_T24 x.f3 (j : Int)).f1 (rd_T24 x.f3 (j : Int)).f2 (rd_T24 x.f3 (j : Int)).f3 = some true) (fun n m j hnm h hj k hk => h hj k (by omega)) x.f3.length (fun j hj => by
      have hmem : rd_T24 x.f3 (j : Int) ∈ x.f3 := by rw [rd_nat hj]; exact List.getElem_mem hj
      have := szT_mem hmem
      obtain ⟨K, h⟩ := ih _ (by omega : szT (rd_T24 x.f3 (j : Int)) < N) (by omega)
      exact ⟨K, fun _ => h⟩)
    have hloop : ∀ d j, j + d = x.f3.length → ∀ k, K + d + 1 ≤ k → vouchref16_Same.l0 k (j : Int) x.f0 x.f1 x.f2 x.f3 x.f0 x.f1 x.f2 x.f3 = some true := by
      intro d
      induction d with
      | zero =>
        intro j hj k hk
        obtain ⟨k, rfl⟩ : ∃ k', k = k' + 1 := ⟨k - 1, by omega⟩
        unfold vouchref16_Same.l0
        rw [if_neg (by omega)]
      | succ d ihd =>
        intro j hj k hk
        obtain ⟨k, rfl⟩ : ∃ k', k = k' + 1 := ⟨k - 1, by omega⟩
        have hlt : j < x.f3.length := by omega
        unfold vouchref16_Same.l0
        rw [if_pos (by omega), if_pos (by omega), if_pos (by omega), hK j hlt hlt k (by omega), Option.bind_some, if_pos rfl, IntWalk.wrap64_in _ (by omega)]
        exact ihd (j + 1) (by omega) k (by omega)
    refine ⟨K + x.f3.length + 10, fun k hk => ?_⟩
    obtain ⟨k, rfl⟩ : ∃ k', k = k' + 2 := ⟨k - 2, by omega⟩
    unfold vouchref16_Same.f
    rw [if_pos rfl, if_pos rfl, if_pos rfl]
    unfold vouchref16_Same.j0
    rw [if_neg (by simp)]
    exact hloop x.f3.length 0 (by omega) k (by omega)
theorem sum_take_succ (l : List S24) (j : Nat) (h : j < l.length) : ((l.take (j + 1)).map szT).sum = ((l.take j).map szT).sum + szT l[j] := by
  rw [List.take_succ_eq_append_getElem h, List.map_append, List.sum_append]; simp
theorem len_le_sum (l : List S24) (j : Nat) (h : j ≤ l.length) : j ≤ ((l.take j).map szT).sum := by
  induction j with
  | zero => omega
  | succ j ih =>
    rw [sum_take_succ l j (by omega)]
    have := ih (by omega)
    have := szT_pos l[j]
    omega
theorem sum_take_le (l : List S24) (j d : Nat) (h : j + d = l.length) : ((l.take j).map szT).sum ≤ (l.map szT).sum := by
  have e : l.map szT = (l.take j).map szT ++ (l.drop j).map szT := by rw [← List.map_append, List.take_append_drop]
  rw [e, List.sum_append]; omega
theorem size_some (N : Nat) : ∀ x : S24, szT x < N → ∃ K, ∀ most : Nat, most ≤ 2000 → ∀ k, K ≤ k → vouchref16_Size.f k x.f0 x.f1 x.f2 x.f3 (most : Int) = some ((min (szT x) (most + 1) : Nat) : Int) := by
  induction N with
  | zero => exact fun x h => absurd h (Nat.not_lt_zero _)
  | succ N ih =>
    intro x hN
    obtain ⟨K, hK⟩ := Kd.bounded (P := fun n j => j < x.f3.length → ∀ most : Nat, most ≤ 2000 → ∀ k, n ≤ k → vouchref16_Size.f k (rd_T24 x.f3 (j : Int)).f0 (rd_T24 x.f3 (j : Int)).f1 (rd_T24 x.f3 (j : Int)).f2 (rd_T24 x.f3 (j : Int)).f3 (most : Int) = some ((min (szT (rd_T24 x.f3 (j : Int))) (most + 1) : Nat) : Int)) (fun n m j hnm h hj most hm k hk => h hj most hm k (by omega)) x.f3.length (fun j hj => by
      have hmem : rd_T24 x.f3 (j : Int) ∈ x.f3 := by rw [rd_nat hj]; exact List.getElem_mem hj
      have := szT_mem hmem
      obtain ⟨K, h⟩ := ih _ (by omega : szT (rd_T24 x.f3 (j : Int)) < N)
      exact ⟨K, fun _ => h⟩)
    refine ⟨K + x.f3.length + 10, fun most hm => ?_⟩
    have hloop : ∀ d j, j + d = x.f3.length → ∀ k, K + d + 1 ≤ k → vouchref16_Size.l0 k (most : Int) ((min (1 + ((x.f3.take j).map szT).sum) (most + 1) : Nat) : Int) (j : Int) x.f0 x.f1 x.f2 x.f3 = some ((min (szT x) (most + 1) : Nat) : Int) := by
      intro d
      induction d with
      | zero =>
        intro j hj k hk
        obtain ⟨k, rfl⟩ : ∃ k', k = k' + 1 := ⟨k - 1, by omega⟩
        unfold vouchref16_Size.l0
        rw [if_neg (by omega), szT_eq, List.take_of_length_le (by omega)]
      | succ d ihd =>
        intro j hj k hk
        obtain ⟨k, rfl⟩ : ∃ k', k = k' + 1 := ⟨k - 1, by omega⟩
        have hlt : j < x.f3.length := by omega
        have h1 := len_le_sum x.f3 j (by omega)
        have h2 := sum_take_le x.f3 j (d + 1) hj
        have h3 := sum_take_succ x.f3 j hlt
        have h4 := szT_eq x
        unfold vouchref16_Size.l0
        rw [if_pos (by omega)]
        by_cases hle : 1 + ((x.f3.take j).map szT).sum ≤ most
        · rw [if_pos (by omega), if_pos (by omega), IntWalk.wrap64_in _ (by omega)]
          rw [show (most : Int) - ((min (1 + ((x.f3.take j).map szT).sum) (most + 1) : Nat) : Int) = ((most - (1 + ((x.f3.take j).map szT).sum) : Nat) : Int) from by omega]
          rw [hK j hlt hlt _ (by omega) k (by omega), Option.bind_some, rd_nat hlt, IntWalk.wrap64_in _ (by omega), IntWalk.wrap64_in _ (by omega)]
          have q := ihd (j + 1) (by omega) k (by omega)
          rw [h3] at q
          rw [← q]
          congr 1
          omega
        · rw [if_neg (by omega)]
          congr 1
          omega
    intro k hk
    obtain ⟨k, rfl⟩ : ∃ k', k = k' + 1 := ⟨k - 1, by omega⟩
    unfold vouchref16_Size.f
    have q := hloop x.f3.length 0 (by omega) k (by omega)
    rw [← q]
    congr 1
/-- a tree of at most 2000 parts, lists of at most 1000: what few answers. -/
theorem few_some (x : S24) (a b : Nat) : ∃ k, vouchlaw16_few.f k x.f0 x.f1 x.f2 x.f3 (a : Int) (b : Int) = some (decide (szT x ≤ 2000) && (decide (a ≤ 1000) && decide (b ≤ 1000))) := by
  obtain ⟨K, hK⟩ := size_some (szT x + 1) x (by omega)
  refine ⟨K, ?_⟩
  unfold vouchlaw16_few.f
  have q := hK 2000 (Nat.le_refl _) K (Nat.le_refl _)
  rw [show ((2000 : Nat) : Int) = 2000 from rfl] at q
  rw [q, Option.bind_some]
  by_cases h : szT x ≤ 2000
  · rw [if_pos (by omega), decide_eq_true h]
    by_cases ha : a ≤ 1000
    · rw [if_pos (by omega), decide_eq_true ha]
      simp only [Bool.true_and]
      congr 1
      by_cases hb : b ≤ 1000
      · rw [decide_eq_true hb, decide_eq_true (by omega : (b : Int) ≤ 1000)]
      · rw [decide_eq_false hb, decide_eq_false (by omega : ¬ (b : Int) ≤ 1000)]
    · rw [if_neg (by omega), decide_eq_false ha]; rfl
  · rw [if_neg (by omega), decide_eq_false h]; rfl
end Go.Proofs.YtfaohklglblcbaaDoor.Q
