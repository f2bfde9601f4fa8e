/- The contract of the law LicsTells: every call answers true and leaves what was there. -/
import Derived.Test.YtjapfefiaijfcaaGreatDoorT36
import Derived.Test.YtjapfefiaijfcaaGreatDoorT25
import Derived.Test.YtjapfefiaijfcaaGreatDoorT24
import Derived.Test.YtjapfefiaijfcaaGreatDoorQx17
import Derived.Test.YtjapfefiaijfcaaGreatDoorQx4
import Derived.Deep.CutRange
import Derived.Deep.CutBlock
import Derived.BigRegion

namespace Go.Proofs.YtjapfefiaijfcaaGreatDoor.Q
open Go.RowKit Go.Proofs.YtjapfefiaijfcaaGreatDoorW.PrintWords Go.Proofs.YtjapfefiaijfcaaGreatDoorW.PrintLast Go.Proofs.YtjapfefiaijfcaaGreatDoorW.PrintMore
set_option linter.unusedVariables false
theorem texts_same (l : List ByteArray) (hl : l.length ≤ 1000000) : vouchkit_SameTexts.f (l.length + 1) l l = some true := by
  unfold vouchkit_SameTexts.f
  rw [if_pos rfl]
  have h : ∀ d j, j + d = l.length → vouchkit_SameTexts.l0 (d + 1) l l (j : Int) = some true := by
    intro d
    induction d with
    | zero => intro j hj; unfold vouchkit_SameTexts.l0; rw [if_neg (by omega)]
    | succ d ih =>
      intro j hj
      unfold vouchkit_SameTexts.l0
      rw [if_pos (by omega), if_pos (by omega), if_pos (by omega), if_pos rfl, IntWalk.wrap64_in _ (by omega)]
      exact ih (j + 1) (by omega)
  exact h l.length 0 (by omega)
theorem prinR_len (x : S24) : (prinR x).1.length ≤ szT x := by
  unfold prinR
  split
  · show (prinB x).length ≤ _
    rw [prinB_length]
    exact Nat.le_trans (sortB_length _) (leaves_len (szT x + 1) x (Nat.lt_succ_self _))
  · simp
theorem szT_one (x : S24) : szT (⟨x.f0, x.f1, x.f2, x.f3⟩ : S24) = szT x := by cases x; rfl
/-- What stays while the law runs on: the boxes of l and in, and what they hold; the texts that are wanted. -/
structure PersT (x : S24) (want : List ByteArray) (w : World) (A : Option Addr) (c : Nat) (ad : Addr) (ca : Nat) (A3 : Option Addr) (bi : Nat) (V : World) : Prop where
  b : Below w.heap.size w V
  l : V.heap[w.heap.size]? = some (.cells #[.int .u8 x.f0, .string x.f1, .int .i64 x.f2, .slice A x.f3.length c] 24 (0, 0))
  i : V.heap[bi]? = some (.cells #[.int .u8 x.f0, .string x.f1, .int .i64 x.f2, .slice (some ad) x.f3.length ca] 24 (0, 0))
  m : Kd.C (optk km) V (some ad) (x.f3.length + 1) (x.f3.map some ++ [none])
  a : Kd.C k24 V A x.f3.length x.f3
  y : Kd.C Kd.string V A3 want.length want
theorem PersT.below {x : S24} {want : List ByteArray} {w : World} {A : Option Addr} {c : Nat} {ad : Addr} {ca : Nat} {A3 : Option Addr} {bi : Nat} {V W : World} (h : PersT x want w A c ad ca A3 bi V) (hb : Below V.heap.size V W) : PersT x want w A c ad ca A3 bi W :=
  ⟨below_step h.b hb, blk_below h.l hb, blk_below h.i hb, Kd.C_below h.m hb, Kd.C_below h.a hb, Kd.C_below h.y hb⟩
theorem below_drawn {w V W : World} (h : Below w.heap.size w V) (d : Drawn0 V W) : Below w.heap.size w W := by
  obtain ⟨n, rfl⟩ := d.out
  exact pw_below_drewN h n
set_option maxHeartbeats 8000000 in
set_option maxRecDepth 100000 in
theorem tells_no (x : S24) (A : Option Addr) (c : Nat) (w : World) (hc : x.f3.length ≤ c) (hC : Kd.C k24 w A x.f3.length x.f3)
    (hno : (decide (szT x ≤ 2000) && (decide (0 ≤ 1000) && decide (0 ≤ 1000))) = false) :
    Calls Tryz.prog 4 #[.agg #[.int .u8 x.f0, .string x.f1, .int .i64 x.f2, .slice A x.f3.length c]] w fun e w' => e = .returned (.bool true) ∧ Below w.heap.size w w' := by
  obtain ⟨k, hk⟩ := few_some x 0 0
  rw [hno] at hk
  have HK := Aside0.mk hk
  have HC := Aside0.mk hC
  have Hc := Aside0.mk hc
  have hb : ∀ o : Obj, Below w.heap.size w (w.alloc o) := fun o => (Below.refl _ _).alloc (Nat.le_refl _) o
  have HB := Aside0.mk hb
  clear hk hC hc hno hb
  go_enter Tryz.func4, Tryz.ntmps4
  go_wp2_with (first | (go_at_call 12; refine (vouchlaw16_few.calls k _ _ _ _ _ _ _ _ false _ (Kd.C_below HC.out (HB.out _)) Hc.out HK.out).mono ?_; rintro e_ w1 ⟨rfl, hb1⟩; have HB1 := Aside0.mk (below_step (HB.out _) hb1); clear hb1) | (go_at_call 13; refine (vouchlaw16_works.calls true _ rfl).mono ?_; rintro e_ w2 ⟨rfl, hb2⟩; have HB2 := Aside0.mk hb2; clear hb2))
  go_ret
  exact ⟨rfl, HB1.out.trans (HB2.out.mono HB1.out.size)⟩
set_option maxHeartbeats 8000000 in
set_option maxRecDepth 100000 in
theorem tells_yes (x : S24) (A : Option Addr) (c : Nat) (w : World) (hc : x.f3.length ≤ c) (hC : Kd.C k24 w A x.f3.length x.f3) (hN : szT x ≤ 2000) :
    Calls Tryz.prog 4 #[.agg #[.int .u8 x.f0, .string x.f1, .int .i64 x.f2, .slice A x.f3.length c]] w fun e w' => e = .returned (.bool true) ∧ Below w.heap.size w w' := by
  obtain ⟨k, hk⟩ := few_some x 0 0
  rw [decide_eq_true hN] at hk
  have HK := Aside0.mk hk
  have HC := Aside0.mk hC
  have Hc := Aside0.mk hc
  have HN := Aside0.mk hN
  have HNe : Aside0 (szT (⟨x.f0, x.f1, x.f2, x.f3⟩ : S24) < 3000) := ⟨by rw [szT_one]; omega⟩
  obtain ⟨r, hr⟩ : ∃ r, r = prinR x := ⟨_, rfl⟩
  have hrl := prinR_len x
  rw [← hr] at hrl
  have HS := Aside0.mk (texts_same r.1 (by omega))
  have HRl := Aside0.mk (by omega : r.1.length ≤ 2000)
  have HR := Aside0.mk hr
  obtain ⟨et, het⟩ : ∃ et, et = errT x := ⟨_, rfl⟩
  have HEt := Aside0.mk het
  have hb : ∀ o : Obj, Below w.heap.size w (w.alloc o) := fun o => (Below.refl _ _).alloc (Nat.le_refl _) o
  have HB := Aside0.mk hb
  have HNew := Aside0.mk (fun o : Obj => blk_new w o)
  clear hk hC hc hN hr hrl het hb
  go_enter Tryz.func4, Tryz.ntmps4
  go_wp2_with ((go_at_call 12; go_loud ((with_reducible refine (vouchlaw16_few.calls k _ _ _ _ _ _ _ _ true _ (Kd.C_below HC.out (HB.out _)) Hc.out HK.out).mono ?_); rintro e_ w1 ⟨rfl, hb1⟩; have HB1 := Aside0.mk (below_step (HB.out _) hb1); have BL1 := Aside0.mk (blk_below (HNew.out _) hb1); clear hb1; have fl0 : w1.cell? ⟨w.heap.size, 0, none⟩ = some (.int .u8 x.f0) := (blk_cell BL1.out 0).trans rfl; have fl1 : w1.cell? ⟨w.heap.size, 1, none⟩ = some (.string x.f1) := (blk_cell BL1.out 1).trans rfl; have fl2 : w1.cell? ⟨w.heap.size, 2, none⟩ = some (.int .i64 x.f2) := (blk_cell BL1.out 2).trans rfl; have fl3 : w1.cell? ⟨w.heap.size, 3, none⟩ = some (.slice A x.f3.length c) := (blk_cell BL1.out 3).trans rfl)))
  go_wp2_with ((go_at_call 8; go_loud ((with_reducible refine (vouchkit_LentLic.marks 3000 _ _ _ _ _ _ _ (Kd.C_below HC.out HB1.out) Hc.out HNe.out (Nat.le_refl _)).mono ?_); rintro e_ w2 ⟨ad, ca, rfl, hr2, hb2⟩; clear fl0 fl1 fl2 fl3; have HB2 := Aside0.mk (below_step HB1.out hb2); have BL2 := Aside0.mk (blk_below BL1.out hb2); have HM := Aside0.mk (hr2); have HB2a := Aside0.mk (fun o => (below_step HB1.out hb2).alloc (below_step HB1.out hb2).size o); have HBN2 := Aside0.mk (fun o => blk_new w2 o); clear hb2 hr2; have fl0 : ∀ o, (w2.alloc o).cell? ⟨w.heap.size, 0, none⟩ = some (.int .u8 x.f0) := fun o => (blk_cell (blk_alloc BL2.out o) 0).trans rfl; have fl1 : ∀ o, (w2.alloc o).cell? ⟨w.heap.size, 1, none⟩ = some (.string x.f1) := fun o => (blk_cell (blk_alloc BL2.out o) 1).trans rfl; have fl2 : ∀ o, (w2.alloc o).cell? ⟨w.heap.size, 2, none⟩ = some (.int .i64 x.f2) := fun o => (blk_cell (blk_alloc BL2.out o) 2).trans rfl; have fl3 : ∀ o, (w2.alloc o).cell? ⟨w.heap.size, 3, none⟩ = some (.slice A x.f3.length c) := fun o => (blk_cell (blk_alloc BL2.out o) 3).trans rfl)))
  go_wp2_with ((go_at_call 14; go_loud ((with_reducible refine (vouchref16_Principals.calls x _ _ _ (Nat.le_trans HN.out (by decide)) Hc.out (Kd.C_below HC.out (HB2a.out _))).mono ?_); rintro e_ w3 ⟨v3, rfl, hr3, hb3⟩; rw [← HR.out] at hr3 ⊢; obtain ⟨A3, c3, rfl⟩ := Kd.R_slice hr3; clear fl0 fl1 fl2 fl3; have hmm := (Kd.R_reads' HM.out).2; rw [len_some] at hmm; have HCa := Aside0.mk (Nat.le_of_succ_le hmm.1); have HCa1 := Aside0.mk (hmm.1); have HC3 := Aside0.mk ((Kd.R_reads' hr3).2.1); have P3 : Aside0 (PersT x r.1 w A c ad ca A3 w2.heap.size w3) := ⟨⟨below_step (HB2a.out _) hb3, blk_below (blk_alloc BL2.out _) hb3, blk_below (HBN2.out _) hb3, Kd.C_below (Kd.C_alloc hmm.2 _) hb3, (Kd.C_below (Kd.C_below HC.out (HB2a.out _)) hb3), (Kd.R_reads' hr3).2.2⟩⟩; clear hb3 hr3 hmm; have fi0 : w3.cell? ⟨w2.heap.size, 0, none⟩ = some (.int .u8 x.f0) := (blk_cell P3.out.i 0).trans rfl; have fi1 : w3.cell? ⟨w2.heap.size, 1, none⟩ = some (.string x.f1) := (blk_cell P3.out.i 1).trans rfl; have fi2 : w3.cell? ⟨w2.heap.size, 2, none⟩ = some (.int .i64 x.f2) := (blk_cell P3.out.i 2).trans rfl; have fi3 : w3.cell? ⟨w2.heap.size, 3, none⟩ = some (.slice (some ad) x.f3.length ca) := (blk_cell P3.out.i 3).trans rfl)))
  go_wp2_with ((go_at_call 15; go_loud ((with_reducible refine (lics_Principals.calls x _ _ _ (Nat.le_trans HN.out (by decide)) HCa.out (km_C_k24 P3.out.m)).mono ?_); rintro e_ w4 ⟨v4, rfl, hr4, hb4⟩; rw [← HR.out] at hr4 ⊢; obtain ⟨A4, c4, rfl⟩ := Kd.R_slice hr4; clear fi0 fi1 fi2 fi3; have HC4 := Aside0.mk ((Kd.R_reads' hr4).2); have HR4 := Aside0.mk (hr4); have HB4 := Aside0.mk (hb4); have P4 := Aside0.mk (P3.out.below hb4); clear hb4 hr4)))
  go_cut [42] (fun s wc => s = .bool false ∧ Below w4.heap.size w4 wc)
  case first =>
    have hcT : ∀ W, Below w4.heap.size w4 W → Calls Tryz.prog 16 #[.slice A4 r.1.length c4, .slice A3 r.1.length c3] W fun e w' => e = .returned (.bool true) ∧ Drawn0 W w' := fun W hW => vouchkit_SameTexts.calls (r.1.length + 1) A4 c4 r.1 A3 c3 r.1 true W (Kd.C_below HC4.out.2 hW) HC4.out.1 (P4.out.below hW).y HC3.out HS.out
    have hcI : ∀ W, Below w4.heap.size w4 W → Calls Tryz.prog 17 #[.agg #[.int .u8 x.f0, .string x.f1, .int .i64 x.f2, .slice (some ad) x.f3.length ca]] W fun e w' => e = .returned (.int .i64 et) ∧ Below W.heap.size W w' := fun W hW => by rw [HEt.out]; exact lics_Check.calls 10000 x (some ad) ca W (Nat.lt_of_le_of_lt HN.out (by decide)) (Nat.le_refl _) HCa.out (km_C_k24 (P4.out.below hW).m)
    have hcL : ∀ W, Below w4.heap.size w4 W → Calls Tryz.prog 18 #[.agg #[.int .u8 x.f0, .string x.f1, .int .i64 x.f2, .slice A x.f3.length c]] W fun e w' => e = .returned (.int .i64 et) ∧ Below W.heap.size W w' := fun W hW => by rw [HEt.out]; exact vouchref16_Check.calls 10000 x A c W (Nat.lt_of_le_of_lt HN.out (by decide)) (Nat.le_refl _) Hc.out (P4.out.below hW).a
    have HT := Aside0.mk hcT
    have HI := Aside0.mk hcI
    have HL := Aside0.mk hcL
    clear hcT hcI hcL
    have HBW := Aside0.mk (Below.refl w4.heap.size w4)
    have fi0 : w4.cell? ⟨w2.heap.size, 0, none⟩ = some (.int .u8 x.f0) := (blk_cell P4.out.i 0).trans rfl; have fi1 : w4.cell? ⟨w2.heap.size, 1, none⟩ = some (.string x.f1) := (blk_cell P4.out.i 1).trans rfl; have fi2 : w4.cell? ⟨w2.heap.size, 2, none⟩ = some (.int .i64 x.f2) := (blk_cell P4.out.i 2).trans rfl; have fi3 : w4.cell? ⟨w2.heap.size, 3, none⟩ = some (.slice (some ad) x.f3.length ca) := (blk_cell P4.out.i 3).trans rfl; have fl0 : w4.cell? ⟨w.heap.size, 0, none⟩ = some (.int .u8 x.f0) := (blk_cell P4.out.l 0).trans rfl; have fl1 : w4.cell? ⟨w.heap.size, 1, none⟩ = some (.string x.f1) := (blk_cell P4.out.l 1).trans rfl; have fl2 : w4.cell? ⟨w.heap.size, 2, none⟩ = some (.int .i64 x.f2) := (blk_cell P4.out.l 2).trans rfl; have fl3 : w4.cell? ⟨w.heap.size, 3, none⟩ = some (.slice A x.f3.length c) := (blk_cell P4.out.l 3).trans rfl
    go_region_with (first | (go_at_call 16; (refine (HT.out _ ?sb).mono ?_); (case sb => repeat (first | exact HBW.out | apply below_drew1 | apply pw_below_drewN)); rintro e_ w_ ⟨rfl, hd⟩; obtain ⟨nd, rfl⟩ := hd.out; clear hd) | (go_at_call 17; (refine (HI.out _ ?sb).mono ?_); (case sb => repeat (first | exact HBW.out | apply below_drew1 | apply pw_below_drewN)); rintro e_ w5 ⟨rfl, hb5⟩; have hq : Below w4.heap.size w4 w5 := below_step (by repeat (first | exact HBW.out | apply below_drew1 | apply pw_below_drewN)) hb5; clear HBW; have HBW := Aside0.mk hq; have P5 := Aside0.mk (P4.out.below hq); clear hb5 hq; have fi0 : w5.cell? ⟨w2.heap.size, 0, none⟩ = some (.int .u8 x.f0) := (blk_cell P5.out.i 0).trans rfl; have fi1 : w5.cell? ⟨w2.heap.size, 1, none⟩ = some (.string x.f1) := (blk_cell P5.out.i 1).trans rfl; have fi2 : w5.cell? ⟨w2.heap.size, 2, none⟩ = some (.int .i64 x.f2) := (blk_cell P5.out.i 2).trans rfl; have fi3 : w5.cell? ⟨w2.heap.size, 3, none⟩ = some (.slice (some ad) x.f3.length ca) := (blk_cell P5.out.i 3).trans rfl; have fl0 : w5.cell? ⟨w.heap.size, 0, none⟩ = some (.int .u8 x.f0) := (blk_cell P5.out.l 0).trans rfl; have fl1 : w5.cell? ⟨w.heap.size, 1, none⟩ = some (.string x.f1) := (blk_cell P5.out.l 1).trans rfl; have fl2 : w5.cell? ⟨w.heap.size, 2, none⟩ = some (.int .i64 x.f2) := (blk_cell P5.out.l 2).trans rfl; have fl3 : w5.cell? ⟨w.heap.size, 3, none⟩ = some (.slice A x.f3.length c) := (blk_cell P5.out.l 3).trans rfl) | (go_at_call 18; (refine (HL.out _ ?sb).mono ?_); (case sb => repeat (first | exact HBW.out | apply below_drew1 | apply pw_below_drewN)); rintro e_ w5 ⟨rfl, hb5⟩; have hq : Below w4.heap.size w4 w5 := below_step (by repeat (first | exact HBW.out | apply below_drew1 | apply pw_below_drewN)) hb5; clear HBW; have HBW := Aside0.mk hq; have P5 := Aside0.mk (P4.out.below hq); clear hb5 hq; have fi0 : w5.cell? ⟨w2.heap.size, 0, none⟩ = some (.int .u8 x.f0) := (blk_cell P5.out.i 0).trans rfl; have fi1 : w5.cell? ⟨w2.heap.size, 1, none⟩ = some (.string x.f1) := (blk_cell P5.out.i 1).trans rfl; have fi2 : w5.cell? ⟨w2.heap.size, 2, none⟩ = some (.int .i64 x.f2) := (blk_cell P5.out.i 2).trans rfl; have fi3 : w5.cell? ⟨w2.heap.size, 3, none⟩ = some (.slice (some ad) x.f3.length ca) := (blk_cell P5.out.i 3).trans rfl; have fl0 : w5.cell? ⟨w.heap.size, 0, none⟩ = some (.int .u8 x.f0) := (blk_cell P5.out.l 0).trans rfl; have fl1 : w5.cell? ⟨w.heap.size, 1, none⟩ = some (.string x.f1) := (blk_cell P5.out.l 1).trans rfl; have fl2 : w5.cell? ⟨w.heap.size, 2, none⟩ = some (.int .i64 x.f2) := (blk_cell P5.out.l 2).trans rfl; have fl3 : w5.cell? ⟨w.heap.size, 3, none⟩ = some (.slice A x.f3.length c) := (blk_cell P5.out.l 3).trans rfl))
    all_goals go_wp2_with (fail)
    all_goals go_meet
    all_goals (case rel => exact ⟨rfl, by repeat (first | exact HBW.out | apply below_drew1 | apply pw_below_drewN)⟩)
  case rest =>
    obtain ⟨rfl, hbc⟩ := hcut
    have hR4 := Kd.R_below HR4.out hbc
    have hB4 := below_step HB4.out hbc
    have HRc := Aside0.mk hR4
    have HBc := Aside0.mk hB4
    clear hbc hR4 hB4
    go_wp2
    go_loopw [8] (fun i wr => ∃ (k : Nat) (ys : List ByteArray), i = .int .i64 k ∧ k ≤ r.1.length ∧ Kd.R Kd.string 9 wr w3.heap.size (fun _ => True) (.slice A4 r.1.length c4) ys ∧ Below w3.heap.size w3 wr) (fun i wr => r.1.length - (intOf i).toNat)
    case atStart => exact ⟨0, r.1, rfl, Nat.zero_le _, HRc.out, HBc.out⟩
    case round =>
      obtain ⟨k, ys, rfl, hk, hR, hb⟩ := hrel
      by_cases hlt : k < r.1.length
      · have d1 : decide ((k : Int) < (r.1.length : Int)) = true := decide_eq_true (by omega)
        have d2 : (k < r.1.length) = True := eq_true hlt
        have d3 : ((k : Int) < (r.1.length : Int)) = True := eq_true (by omega)
        have d4 : (0 ≤ (k : Int)) = True := eq_true (by omega)
        have q4 : IntKind.i64.wrap ((k : Int) + 1) = (k : Int) + 1 := IntWalk.i64_in _ (by have := HRl.out; omega)
        obtain ⟨g, hg⟩ : ∃ g, A4 = some ⟨g, 0, none⟩ := by
          rcases (Kd.own_of_R (enc := Value.string) (h1 := fun _ => rfl) hR).2 with ⟨hv, hn⟩ | ⟨g, cap, cur, hv, -⟩
          · injection hv with h1 h2 h3; omega
          · injection hv with h1 h2 h3; exact ⟨g, h1⟩
        subst hg
        obtain ⟨c1, z1⟩ := Kd.R_celln (enc := Value.string) (h1 := fun _ => rfl) ByteArray.empty hR (k : Int) (by omega) (by omega)
        rw [Int.toNat_natCast] at c1 z1
        have hgb := Kd.R_base hR g rfl
        have HRk := Aside0.mk (Kd.R_putn (enc := Value.string) (h1 := fun _ => rfl) hR (k : Int) ⟨#[119, 114, 105, 116, 116, 101, 110, 32, 111, 118, 101, 114]⟩)
        have HBk := Aside0.mk (fun v => hb.setCell (p := ⟨g, k, none⟩) hgb v)
        clear hR hb hgb
        go_wp2
        refine ⟨⟨k + 1, _, by go_num, by omega, HRk.out, HBk.out _⟩, ?_⟩
        simp [intOf]; omega
      · have d1 : decide ((k : Int) < (r.1.length : Int)) = false := decide_eq_false (by omega)
        have d2 : (k < r.1.length) = False := eq_false hlt
        have P5 := Aside0.mk (P3.out.below hb)
        have fi0 : wr.cell? ⟨w2.heap.size, 0, none⟩ = some (.int .u8 x.f0) := (blk_cell P5.out.i 0).trans rfl; have fi1 : wr.cell? ⟨w2.heap.size, 1, none⟩ = some (.string x.f1) := (blk_cell P5.out.i 1).trans rfl; have fi2 : wr.cell? ⟨w2.heap.size, 2, none⟩ = some (.int .i64 x.f2) := (blk_cell P5.out.i 2).trans rfl; have fi3 : wr.cell? ⟨w2.heap.size, 3, none⟩ = some (.slice (some ad) x.f3.length ca) := (blk_cell P5.out.i 3).trans rfl
        clear hR hb hlt hk
        go_wp2_with ((go_at_call 15; go_loud ((with_reducible refine (lics_Principals.calls x _ _ _ (Nat.le_trans HN.out (by decide)) HCa.out (km_C_k24 P5.out.m)).mono ?_); rintro e_ w6 ⟨v6, rfl, hr6, hb6⟩; rw [← HR.out] at hr6 ⊢; obtain ⟨A6, c6, rfl⟩ := Kd.R_slice hr6; clear fi0 fi1 fi2 fi3; have HC6 := Aside0.mk ((Kd.R_reads' hr6).2); have P6 := Aside0.mk (P5.out.below hb6); clear hb6 hr6; have fi0 : w6.cell? ⟨w2.heap.size, 0, none⟩ = some (.int .u8 x.f0) := (blk_cell P6.out.i 0).trans rfl; have fi1 : w6.cell? ⟨w2.heap.size, 1, none⟩ = some (.string x.f1) := (blk_cell P6.out.i 1).trans rfl; have fi2 : w6.cell? ⟨w2.heap.size, 2, none⟩ = some (.int .i64 x.f2) := (blk_cell P6.out.i 2).trans rfl; have fi3 : w6.cell? ⟨w2.heap.size, 3, none⟩ = some (.slice (some ad) x.f3.length ca) := (blk_cell P6.out.i 3).trans rfl; have fl0 : w6.cell? ⟨w.heap.size, 0, none⟩ = some (.int .u8 x.f0) := (blk_cell P6.out.l 0).trans rfl; have fl1 : w6.cell? ⟨w.heap.size, 1, none⟩ = some (.string x.f1) := (blk_cell P6.out.l 1).trans rfl; have fl2 : w6.cell? ⟨w.heap.size, 2, none⟩ = some (.int .i64 x.f2) := (blk_cell P6.out.l 2).trans rfl; have fl3 : w6.cell? ⟨w.heap.size, 3, none⟩ = some (.slice A x.f3.length c) := (blk_cell P6.out.l 3).trans rfl)))
        go_wp2_with ((go_at_call 16; go_loud ((with_reducible refine (vouchkit_SameTexts.calls (r.1.length + 1) A6 c6 r.1 A3 c3 r.1 true _ HC6.out.2 HC6.out.1 P6.out.y HC3.out HS.out).mono ?_); rintro e_ w7 ⟨rfl, hd⟩; obtain ⟨nd, rfl⟩ := hd.out; clear hd)))
        go_wp2_with ((go_at_call 11; go_loud ((with_reducible refine (vouchkit_KeptLic.calls 3000 x _ _ _ _ _ (Nat.lt_of_le_of_lt HN.out (by decide)) (Nat.le_refl _) HCa1.out (Kd.C_drewN P6.out.m nd) Hc.out (Kd.C_drewN P6.out.a nd)).mono ?_); rintro e_ w8 ⟨rfl, hb8⟩; clear fi0 fi1 fi2 fi3 fl0 fl1 fl2 fl3; have HB8 := Aside0.mk (below_step (pw_below_drewN P6.out.b nd) hb8); clear hb8)))
        go_wp2_with ((go_at_call 13; go_loud ((with_reducible refine (vouchlaw16_works.calls true _ rfl).mono ?_); rintro e_ w9 ⟨rfl, hb9⟩; have HB9 := Aside0.mk (below_step HB8.out hb9); clear hb9)))
        go_ret
        exact ⟨rfl, HB9.out⟩
end Go.Proofs.YtjapfefiaijfcaaGreatDoor.Q
