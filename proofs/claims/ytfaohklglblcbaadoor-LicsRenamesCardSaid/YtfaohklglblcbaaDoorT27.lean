/- The contract of the law: every call answers true and leaves what was there. -/
import Derived.Test.YtfaohklglblcbaaDoorT24
import Derived.Test.YtfaohklglblcbaaDoorT25
namespace Go.Proofs.YtfaohklglblcbaaDoor.Q
open Go.RowKit Go.Proofs.YtfaohklglblcbaaDoorW.PrintWords Go.Proofs.YtfaohklglblcbaaDoorW.PrintLast Go.Proofs.YtfaohklglblcbaaDoorW.PrintMore
set_option linter.unusedVariables false
/-- What stays while the law runs on: the boxes of l, in and want, and what they hold. -/
structure Pers (x : S24) (r : S24 × Int) (fr tn : List ByteArray) (w : World) (A : Option Addr) (c : Nat) (Af At : Option Addr) (ad : Addr) (ca : Nat) (A3 : Option Addr) (c3 bi bq : Nat) (V : World) : Prop where
  b : Below w.heap.size w V
  l : V.heap[w.heap.size]? = some (.cells #[.int .u8 x.f0, .string x.f1, .int .i64 x.f2, .slice A x.f3.length c] 24 (0, 0))
  i : V.heap[bi]? = some (.cells #[.int .u8 x.f0, .string x.f1, .int .i64 x.f2, .slice (some ad) x.f3.length ca] 24 (0, 0))
  q : V.heap[bq]? = some (.cells #[.int .u8 r.1.f0, .string r.1.f1, .int .i64 r.1.f2, .slice A3 r.1.f3.length c3] 24 (0, 0))
  m : Kd.C (optk km) V (some ad) (x.f3.length + 1) (x.f3.map some ++ [none])
  y : Kd.C k24 V A3 r.1.f3.length r.1.f3
  a : Kd.C k24 V A x.f3.length x.f3
  f : Kd.C Kd.string V Af fr.length fr
  t : Kd.C Kd.string V At tn.length tn
theorem Pers.below {x : S24} {r : S24 × Int} {fr tn : List ByteArray} {w : World} {A : Option Addr} {c : Nat} {Af At : Option Addr} {ad : Addr} {ca : Nat} {A3 : Option Addr} {c3 bi bq : Nat} {V W : World} (h : Pers x r fr tn w A c Af At ad ca A3 c3 bi bq V) (hb : Below V.heap.size V W) : Pers x r fr tn w A c Af At ad ca A3 c3 bi bq W :=
  ⟨below_step h.b hb, blk_below h.l hb, blk_below h.i hb, blk_below h.q hb, Kd.C_below h.m hb, Kd.C_below h.y hb, Kd.C_below h.a hb, Kd.C_below h.f hb, Kd.C_below h.t hb⟩
theorem Pers.alloc {x : S24} {r : S24 × Int} {fr tn : List ByteArray} {w : World} {A : Option Addr} {c : Nat} {Af At : Option Addr} {ad : Addr} {ca : Nat} {A3 : Option Addr} {c3 bi bq : Nat} {V : World} (h : Pers x r fr tn w A c Af At ad ca A3 c3 bi bq V) (o : Obj) : Pers x r fr tn w A c Af At ad ca A3 c3 bi bq (V.alloc o) :=
  h.below ((Below.refl _ _).alloc (Nat.le_refl _) o)
theorem below_KB {a b c : World} {U : Nat} (h : Below a.heap.size a b) (k : KB a.heap.size U b c) : Below a.heap.size a c :=
  ⟨k.os.trans h.os, k.tape.trans h.tape, k.output.trans h.output, Nat.le_trans h.size k.size, fun i hi => (k.block i (Nat.lt_of_lt_of_le hi h.size) (.inl hi)).trans (h.block i hi)⟩
theorem Sh.below {n : Nat} {w W : World} {B : Nat} {v : Value} (h : Sh n w B w.heap.size v) (hb : Below w.heap.size w W) : Sh n W B w.heap.size v := h.keep n (fun k _ _ o ho => blk_below ho hb)
set_option maxHeartbeats 8000000 in
set_option maxRecDepth 100000 in
theorem law_no (x : S24) (A : Option Addr) (c : Nat) (fr : List ByteArray) (Af : Option Addr) (cf : Nat) (tn : List ByteArray) (At : Option Addr) (ct : Nat) (w : World) (hc : x.f3.length ≤ c) (hC : Kd.C k24 w A x.f3.length x.f3)
    (hno : (decide (szT x ≤ 2000) && (decide (fr.length ≤ 1000) && decide (tn.length ≤ 1000))) = false) :
    Calls Tryd.prog 3 #[.agg #[.int .u8 x.f0, .string x.f1, .int .i64 x.f2, .slice A x.f3.length c], .slice Af fr.length cf, .slice At tn.length ct] w fun e w' => e = .returned (.bool true) ∧ Below w.heap.size w w' := by
  obtain ⟨k, hk⟩ := few_some x fr.length tn.length
  rw [hno] at hk
  have HK := Aside0.mk hk
  have HC := Aside0.mk hC
  have Hc := Aside0.mk hc
  have hb : ∀ o : Obj, Below w.heap.size w (w.alloc o) := fun o => (Below.refl _ _).alloc (Nat.le_refl _) o
  have HB := Aside0.mk hb
  clear hk hC hc hno hb
  go_enter Tryd.func3, Tryd.ntmps3
  go_wp2_with (first | (go_at_call 4; refine (vouchlaw16_few.calls k _ _ _ _ _ _ _ _ false _ (Kd.C_below HC.out (HB.out _)) Hc.out HK.out).mono ?_; rintro e_ w1 ⟨rfl, hb1⟩; have HB1 := Aside0.mk (below_step (HB.out _) hb1); clear hb1) | (go_at_call 5; refine (vouchlaw16_works.calls true _ rfl).mono ?_; rintro e_ w2 ⟨rfl, hb2⟩; have HB2 := Aside0.mk hb2; clear hb2))
  go_ret
  exact ⟨rfl, HB1.out.trans (HB2.out.mono HB1.out.size)⟩
set_option maxHeartbeats 8000000 in
set_option maxRecDepth 100000 in
theorem law_yes (x : S24) (A : Option Addr) (c : Nat) (fr : List ByteArray) (Af : Option Addr) (cf : Nat) (tn : List ByteArray) (At : Option Addr) (ct : Nat) (w : World) (hc : x.f3.length ≤ c) (hC : Kd.C k24 w A x.f3.length x.f3)
    (hF : Kd.C Kd.string w Af fr.length fr) (hT : Kd.C Kd.string w At tn.length tn) (hcf : fr.length ≤ cf) (hct : tn.length ≤ ct) (hN : szT x ≤ 2000) (hfl : fr.length ≤ 1000) (htl : tn.length ≤ 1000) :
    Calls Tryd.prog 3 #[.agg #[.int .u8 x.f0, .string x.f1, .int .i64 x.f2, .slice A x.f3.length c], .slice Af fr.length cf, .slice At tn.length ct] w fun e w' => e = .returned (.bool true) ∧ Below w.heap.size w w' := by
  obtain ⟨k, hk⟩ := few_some x fr.length tn.length
  rw [decide_eq_true hN, decide_eq_true hfl, decide_eq_true htl] at hk
  have HK := Aside0.mk hk
  have HC := Aside0.mk hC
  have Hc := Aside0.mk hc
  clear hk hC hc 
  have HN := Aside0.mk hN
  have HF := Aside0.mk hF
  have HT := Aside0.mk hT
  have Hfl := Aside0.mk hfl
  have Hcf := Aside0.mk hcf
  have Hct := Aside0.mk hct
  have HNe : Aside0 (szT (⟨x.f0, x.f1, x.f2, x.f3⟩ : S24) < 3000) := ⟨by have e : (⟨x.f0, x.f1, x.f2, x.f3⟩ : S24) = x := by { cases x; rfl }; rw [e]; omega⟩
  obtain ⟨r, hr⟩ : ∃ r, r = renR fr tn x := ⟨_, rfl⟩
  have hrs : szT r.1 ≤ 2000 := by
    rw [hr]; unfold renR
    split
    · split
      · show szT (renT fr tn x) ≤ 2000
        rw [szT_ren fr tn (szT x + 1) x (by omega)]; exact hN
      · rw [szT_eq]; simp
    · rw [szT_eq]; simp
  obtain ⟨ks, hks⟩ := same_some (szT r.1 + 1) r.1 (by omega) (by omega)
  have HS := Aside0.mk (hks ks (Nat.le_refl _))
  have HRs := Aside0.mk hrs
  have HR := Aside0.mk hr
  clear hks hrs hr
  clear hN hF hT hfl htl hcf hct
  have hb : ∀ o : Obj, Below w.heap.size w (w.alloc o) := fun o => (Below.refl _ _).alloc (Nat.le_refl _) o
  have HB := Aside0.mk hb
  have hn : ∀ o : Obj, (w.alloc o).heap[w.heap.size]? = some o := fun o => blk_new w o
  have HNew := Aside0.mk hn
  clear hb hn
  go_enter Tryd.func3, Tryd.ntmps3
  go_wp2_with ((go_at_call 4; go_loud ((with_reducible refine (vouchlaw16_few.calls k _ _ _ _ _ _ _ _ true _ (Kd.C_below HC.out (HB.out _)) Hc.out HK.out).mono ?_); rintro e_ w1 ⟨rfl, hb1⟩; have HB1 := Aside0.mk (below_step (HB.out _) hb1); have BL1 := Aside0.mk (blk_below (HNew.out _) hb1); clear hb1; have fl0 : w1.cell? ⟨w.heap.size, 0, none⟩ = some (.int .u8 x.f0) := (blk_cell BL1.out 0).trans rfl; have fl1 : w1.cell? ⟨w.heap.size, 1, none⟩ = some (.string x.f1) := (blk_cell BL1.out 1).trans rfl; have fl2 : w1.cell? ⟨w.heap.size, 2, none⟩ = some (.int .i64 x.f2) := (blk_cell BL1.out 2).trans rfl; have fl3 : w1.cell? ⟨w.heap.size, 3, none⟩ = some (.slice A x.f3.length c) := (blk_cell BL1.out 3).trans rfl)))
  go_wp2_with ((go_at_call 6; go_loud ((with_reducible refine (vouchkit_LentLic.marks 3000 _ _ _ _ _ _ _ (Kd.C_below HC.out HB1.out) Hc.out HNe.out (Nat.le_refl _)).mono ?_); rintro e_ w2 ⟨ad, ca, rfl, hr2, hb2⟩; clear fl0 fl1 fl2 fl3; have HB2 := Aside0.mk (below_step HB1.out hb2); have BL2 := Aside0.mk (blk_below BL1.out hb2); have HM := Aside0.mk (hr2); have HB2a := Aside0.mk (fun o => (below_step HB1.out hb2).alloc (below_step HB1.out hb2).size o); have HBN2 := Aside0.mk (fun o => blk_new w2 o); clear hb2 hr2; have fl0 : ∀ o, (w2.alloc o).cell? ⟨w.heap.size, 0, none⟩ = some (.int .u8 x.f0) := fun o => (blk_cell (blk_alloc BL2.out o) 0).trans rfl; have fl1 : ∀ o, (w2.alloc o).cell? ⟨w.heap.size, 1, none⟩ = some (.string x.f1) := fun o => (blk_cell (blk_alloc BL2.out o) 1).trans rfl; have fl2 : ∀ o, (w2.alloc o).cell? ⟨w.heap.size, 2, none⟩ = some (.int .i64 x.f2) := fun o => (blk_cell (blk_alloc BL2.out o) 2).trans rfl; have fl3 : ∀ o, (w2.alloc o).cell? ⟨w.heap.size, 3, none⟩ = some (.slice A x.f3.length c) := fun o => (blk_cell (blk_alloc BL2.out o) 3).trans rfl)))
  go_wp2_with ((go_at_call 7; go_loud ((with_reducible refine (vouchref16_Renamed.calls fr tn Hfl.out _ _ _ _ x _ _ _ HN.out Hc.out (Kd.C_below HC.out (HB2a.out _)) (Kd.C_below HF.out (HB2a.out _)) (Kd.C_below HT.out (HB2a.out _)) Hcf.out Hct.out).mono ?_); rintro e_ w3 ⟨v3, rfl, hr3, hb3⟩; rw [← HR.out] at hr3 ⊢; obtain ⟨A3, c3, rfl⟩ := Kd.R_slice hr3; clear fl0 fl1 fl2 fl3; have hmm := (Kd.R_reads' HM.out).2; rw [len_some] at hmm; have HCa := Aside0.mk (Nat.le_of_succ_le hmm.1); have HCa1 := Aside0.mk (hmm.1); have HC3 := Aside0.mk ((Kd.R_reads' hr3).2.1); have P4 : Aside0 (Pers x r fr tn w A c Af At ad ca A3 c3 w2.heap.size w3.heap.size (w3.alloc (.cells #[.int .u8 r.1.f0, .string r.1.f1, .int .i64 r.1.f2, .slice A3 r.1.f3.length c3] 24 (0, 0)))) := ⟨⟨below_alloc (below_step (HB2a.out _) hb3) _, blk_alloc (blk_below (blk_alloc BL2.out _) hb3) _, blk_alloc (blk_below (HBN2.out _) hb3) _, blk_new _ _, Kd.C_alloc (Kd.C_below (Kd.C_alloc hmm.2 _) hb3) _, Kd.C_alloc (Kd.R_reads' hr3).2.2 _, Kd.C_alloc (Kd.C_below (Kd.C_below HC.out (HB2a.out _)) hb3) _, Kd.C_alloc (Kd.C_below (Kd.C_below HF.out (HB2a.out _)) hb3) _, Kd.C_alloc (Kd.C_below (Kd.C_below HT.out (HB2a.out _)) hb3) _⟩⟩; have BI3 := Aside0.mk (blk_below (HBN2.out _) hb3); clear hb3 hr3 hmm; have fi0 : ∀ o, (w3.alloc o).cell? ⟨w2.heap.size, 0, none⟩ = some (.int .u8 x.f0) := fun o => (blk_cell (blk_alloc BI3.out o) 0).trans rfl; have fi1 : ∀ o, (w3.alloc o).cell? ⟨w2.heap.size, 1, none⟩ = some (.string x.f1) := fun o => (blk_cell (blk_alloc BI3.out o) 1).trans rfl; have fi2 : ∀ o, (w3.alloc o).cell? ⟨w2.heap.size, 2, none⟩ = some (.int .i64 x.f2) := fun o => (blk_cell (blk_alloc BI3.out o) 2).trans rfl; have fi3 : ∀ o, (w3.alloc o).cell? ⟨w2.heap.size, 3, none⟩ = some (.slice (some ad) x.f3.length ca) := fun o => (blk_cell (blk_alloc BI3.out o) 3).trans rfl)))
  go_wp2_with ((go_at_call 8; go_loud ((with_reducible refine (lics_Renamed.calls fr tn Hfl.out _ _ _ _ x _ _ _ HN.out HCa.out (km_C_k24 P4.out.m) P4.out.f P4.out.t Hcf.out Hct.out).mono ?_); rintro e_ w4 ⟨v4, rfl, hr4, hb4⟩; rw [← HR.out] at hr4 ⊢; obtain ⟨A4, c4, rfl⟩ := Kd.R_slice hr4; clear fi0 fi1 fi2 fi3; have HC4 := Aside0.mk ((Kd.R_reads' hr4).2); have HR4 := Aside0.mk (hr4); have HB4 := Aside0.mk (hb4); have P4a := Aside0.mk (P4.out.below hb4); have BN4 := Aside0.mk (fun o => blk_new w4 o); clear hb4 hr4; have fw0 : ∀ o, (w4.alloc o).cell? ⟨w3.heap.size, 0, none⟩ = some (.int .u8 r.1.f0) := fun o => (blk_cell (blk_alloc P4a.out.q o) 0).trans rfl; have fw1 : ∀ o, (w4.alloc o).cell? ⟨w3.heap.size, 1, none⟩ = some (.string r.1.f1) := fun o => (blk_cell (blk_alloc P4a.out.q o) 1).trans rfl; have fw2 : ∀ o, (w4.alloc o).cell? ⟨w3.heap.size, 2, none⟩ = some (.int .i64 r.1.f2) := fun o => (blk_cell (blk_alloc P4a.out.q o) 2).trans rfl; have fw3 : ∀ o, (w4.alloc o).cell? ⟨w3.heap.size, 3, none⟩ = some (.slice A3 r.1.f3.length c3) := fun o => (blk_cell (blk_alloc P4a.out.q o) 3).trans rfl)))
  go_wp2_with ((go_at_call 9; go_loud ((with_reducible refine (vouchref16_Same.calls ks _ _ _ _ _ r.1.f3 _ _ _ _ _ r.1.f3 true _ (Kd.C_alloc HC4.out.2 _) HC4.out.1 (P4a.out.alloc _).y HC3.out HS.out).mono ?_); rintro e_ w5 ⟨rfl, hb5⟩; clear fw0 fw1 fw2 fw3; have HB5 := Aside0.mk (below_step (below_alloc HB4.out _) hb5); have BA5 := Aside0.mk (blk_below (BN4.out _) hb5); have SH5 := Aside0.mk ((R_Sh 3000 r.1.f3 _ _ _ _ (by have h_ := HRs.out; rw [szT_eq] at h_; omega) (Nat.le_refl _) HR4.out).below (below_step ((Below.refl _ _).alloc (Nat.le_refl _) _) hb5)); have SZ5 : Aside0 (w4.heap.size ≤ w5.heap.size) := ⟨(below_step ((Below.refl _ _).alloc (Nat.le_refl _) _) hb5).size⟩; clear hb5; have fa0 : w5.cell? ⟨w4.heap.size, 0, none⟩ = some (.int .u8 r.1.f0) := (blk_cell BA5.out 0).trans rfl; have fa1 : w5.cell? ⟨w4.heap.size, 1, none⟩ = some (.string r.1.f1) := (blk_cell BA5.out 1).trans rfl; have fa2 : w5.cell? ⟨w4.heap.size, 2, none⟩ = some (.int .i64 r.1.f2) := (blk_cell BA5.out 2).trans rfl; have fa3 : w5.cell? ⟨w4.heap.size, 3, none⟩ = some (.slice A4 r.1.f3.length c4) := (blk_cell BA5.out 3).trans rfl)))
  go_wp2_with ((go_at_call 10; go_loud ((with_reducible refine (vouchkit_SpoilLic.calls _ w4.heap.size 3000 _ _ _ _ _ _ _ SH5.out SZ5.out).mono ?_); rintro e_ w6 ⟨rfl, hk6, -⟩; clear fa0 fa1 fa2 fa3; have P6 := Aside0.mk (P4.out.below (below_KB HB5.out hk6)); clear hk6; have fi0 : w6.cell? ⟨w2.heap.size, 0, none⟩ = some (.int .u8 x.f0) := (blk_cell P6.out.i 0).trans rfl; have fi1 : w6.cell? ⟨w2.heap.size, 1, none⟩ = some (.string x.f1) := (blk_cell P6.out.i 1).trans rfl; have fi2 : w6.cell? ⟨w2.heap.size, 2, none⟩ = some (.int .i64 x.f2) := (blk_cell P6.out.i 2).trans rfl; have fi3 : w6.cell? ⟨w2.heap.size, 3, none⟩ = some (.slice (some ad) x.f3.length ca) := (blk_cell P6.out.i 3).trans rfl)))
  go_wp2_with ((go_at_call 8; go_loud ((with_reducible refine (lics_Renamed.calls fr tn Hfl.out _ _ _ _ x _ _ _ HN.out HCa.out (km_C_k24 P6.out.m) P6.out.f P6.out.t Hcf.out Hct.out).mono ?_); rintro e_ w7 ⟨v7, rfl, hr7, hb7⟩; rw [← HR.out] at hr7 ⊢; obtain ⟨A7, c7, rfl⟩ := Kd.R_slice hr7; clear fi0 fi1 fi2 fi3; have HC7 := Aside0.mk ((Kd.R_reads' hr7).2); have P7 := Aside0.mk (P6.out.below hb7); have BN7 := Aside0.mk (fun o => blk_new w7 o); clear hb7 hr7; have fw0 : ∀ o, (w7.alloc o).cell? ⟨w3.heap.size, 0, none⟩ = some (.int .u8 r.1.f0) := fun o => (blk_cell (blk_alloc P7.out.q o) 0).trans rfl; have fw1 : ∀ o, (w7.alloc o).cell? ⟨w3.heap.size, 1, none⟩ = some (.string r.1.f1) := fun o => (blk_cell (blk_alloc P7.out.q o) 1).trans rfl; have fw2 : ∀ o, (w7.alloc o).cell? ⟨w3.heap.size, 2, none⟩ = some (.int .i64 r.1.f2) := fun o => (blk_cell (blk_alloc P7.out.q o) 2).trans rfl; have fw3 : ∀ o, (w7.alloc o).cell? ⟨w3.heap.size, 3, none⟩ = some (.slice A3 r.1.f3.length c3) := fun o => (blk_cell (blk_alloc P7.out.q o) 3).trans rfl)))
  go_wp2_with ((go_at_call 9; go_loud ((with_reducible refine (vouchref16_Same.calls ks _ _ _ _ _ r.1.f3 _ _ _ _ _ r.1.f3 true _ (Kd.C_alloc HC7.out.2 _) HC7.out.1 (P7.out.alloc _).y HC3.out HS.out).mono ?_); rintro e_ w8 ⟨rfl, hb8⟩; clear fw0 fw1 fw2 fw3; have P8 := Aside0.mk ((P7.out.alloc _).below hb8); clear hb8; have fi0 : w8.cell? ⟨w2.heap.size, 0, none⟩ = some (.int .u8 x.f0) := (blk_cell P8.out.i 0).trans rfl; have fi1 : w8.cell? ⟨w2.heap.size, 1, none⟩ = some (.string x.f1) := (blk_cell P8.out.i 1).trans rfl; have fi2 : w8.cell? ⟨w2.heap.size, 2, none⟩ = some (.int .i64 x.f2) := (blk_cell P8.out.i 2).trans rfl; have fi3 : w8.cell? ⟨w2.heap.size, 3, none⟩ = some (.slice (some ad) x.f3.length ca) := (blk_cell P8.out.i 3).trans rfl; have fl0 : w8.cell? ⟨w.heap.size, 0, none⟩ = some (.int .u8 x.f0) := (blk_cell P8.out.l 0).trans rfl; have fl1 : w8.cell? ⟨w.heap.size, 1, none⟩ = some (.string x.f1) := (blk_cell P8.out.l 1).trans rfl; have fl2 : w8.cell? ⟨w.heap.size, 2, none⟩ = some (.int .i64 x.f2) := (blk_cell P8.out.l 2).trans rfl; have fl3 : w8.cell? ⟨w.heap.size, 3, none⟩ = some (.slice A x.f3.length c) := (blk_cell P8.out.l 3).trans rfl)))
  go_wp2_with ((go_at_call 11; go_loud ((with_reducible refine (vouchkit_KeptLic.calls 3000 x _ _ _ _ _ (Nat.lt_of_le_of_lt HN.out (by omega)) (Nat.le_refl _) HCa1.out P8.out.m Hc.out P8.out.a).mono ?_); rintro e_ w9 ⟨rfl, hb9⟩; clear fi0 fi1 fi2 fi3 fl0 fl1 fl2 fl3; have P9 := Aside0.mk (P8.out.below hb9); clear hb9)))
  go_wp2_with ((go_at_call 5; go_loud ((with_reducible refine (vouchlaw16_works.calls true _ rfl).mono ?_); rintro e_ w10 ⟨rfl, hb10⟩; have P10 := Aside0.mk (P9.out.below hb10); clear hb10)))
  go_ret
  exact ⟨rfl, P10.out.b⟩
end Go.Proofs.YtfaohklglblcbaaDoor.Q
