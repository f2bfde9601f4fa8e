/- The parser: one part that is such a count. -/
import Derived.Test.YtjapfefiaijfcaaGreatDoorQx0
import Derived.Test.YtjapfefiaijfcaaGreatDoorT11
import Derived.BigRegion
namespace Go.Proofs.YtjapfefiaijfcaaGreatDoor.Q
open Go.RowKit Go.Proofs.YtjapfefiaijfcaaGreatDoorW.PrintWords Go.Proofs.YtjapfefiaijfcaaGreatDoorW.PrintLast Go.Proofs.YtjapfefiaijfcaaGreatDoorW.PrintMore
set_option linter.unusedVariables false
set_option maxHeartbeats 8000000 in
set_option maxRecDepth 100000 in
theorem lics_one_of.calls (toks : List S70) (cs : List S138) (i : Nat) (dp : Int) (x : S70) (r : S24) (n : Int) (hi : i < toks.length) (hm : toks.length ≤ 8192) (hx : x = rd_T70 toks i) (hk : x.f0 = 5) (hP : PartOK toks cs 104 i dp r n) : PartOK toks cs 81 i dp r n := by
  intro g w0 w hI hB
  have HI := Aside0.mk hI
  have HB := Aside0.mk hB
  have HX := Aside0.mk hx
  have HP := Aside0.mk hP
  clear hP
  have q1 : decide ((i : Int) < (toks.length : Int)) = true := decide_eq_true (by omega)
  have q2 : ((i : Int) == (toks.length : Int)) = false := beq_eq_false_iff_ne.mpr (by omega)
  have q3 : (i == toks.length) = false := beq_eq_false_iff_ne.mpr (by omega)
  have q4 : IntKind.i64.wrap ((i : Int) + 1) = (i : Int) + 1 := IntWalk.i64_in _ (by omega)
  obtain ⟨A0, c0, A1, c1, hG, hge, hS0, hS1⟩ := hI
  obtain ⟨ad, e0, x0, x1, x2, x3⟩ := at_T70 hS0 (i : Int) (by omega) (by omega)
  subst e0
  rw [← hx] at x0 x1 x2 x3
  rw [hk] at x0
  replace x0 := pw_cell_below hB x0
  replace x1 := pw_cell_below hB x1
  replace x2 := pw_cell_below hB x2
  replace x3 := pw_cell_below hB x3
  have p1 : (0 ≤ (i : Int)) = True := eq_true (by omega)
  have p2 : ((i : Int) < (toks.length : Int)) = True := eq_true (by omega)
  have p3 : (i < toks.length) = True := eq_true hi
  have g0 := cellS67_0 hG
  have g1 := cellS67_1 hG
  have g2 := cellS67_2 hG
  have g3 := cellS67_3 hG
  have gf := blk_frozen hG 2
  have HG := Aside0.mk hG
  clear hG hge hS0 hS1 hB hx hi
  have up : ∀ (o : Obj) {a : Addr} {v : Value}, w.cell? a = some v → (w.alloc o).cell? a = some v := fun o {a} {v} h => pw_cell_below ((Below.refl _ w).alloc (Nat.le_refl _) o) h
  have m0 := fun o => up o g0
  have m2 := fun o => up o g2
  have y0 := fun o => up o x0
  have y1 := fun o => up o x1
  have y2 := fun o => up o x2
  have y3 := fun o => up o x3
  clear up
  go_enter Tryz.func81, Tryz.ntmps81
  go_wp2_with (fail)
  go_quiet (fail)
  go_wp2_with (fail)
  generalize hW : (w.alloc (.cells #[.int .u8 0, .string ⟨#[]⟩, .int .i64 0, .slice none 0 0] 24)).drewN _ = W
  have m0' : W.cell? ⟨g, 0, none⟩ = some (.slice (some ad) toks.length c0) := by rw [← hW]; exact m0 _
  have m2' : W.cell? ⟨g, 2, none⟩ = some (.int .i64 i) := by rw [← hW]; exact m2 _
  have y0' : W.cell? (ad.add (i * 4)) = some (.int .u8 5) := by rw [← hW]; exact y0 _
  have y1' : W.cell? ⟨(ad.add (i * 4)).block, (ad.add (i * 4)).off + 1, none⟩ = some (.string x.f1) := by rw [← hW]; exact y1 _
  have y2' : W.cell? ⟨(ad.add (i * 4)).block, (ad.add (i * 4)).off + 2, none⟩ = some (.int .i64 x.f2) := by rw [← hW]; exact y2 _
  have y3' : W.cell? ⟨(ad.add (i * 4)).block, (ad.add (i * 4)).off + 3, none⟩ = some (.int .i64 x.f3) := by rw [← hW]; exact y3 _
  have HW := Aside0.mk hW
  have up2 : ∀ (o : Obj) {a : Addr} {v : Value}, W.cell? a = some v → (W.alloc o).cell? a = some v := fun o {a} {v} h => pw_cell_below ((Below.refl _ W).alloc (Nat.le_refl _) o) h
  have m0'' := fun o => up2 o m0'
  have m2'' := fun o => up2 o m2'
  have y0'' := fun o => up2 o y0'
  have y1'' := fun o => up2 o y1'
  have y2'' := fun o => up2 o y2'
  have y3'' := fun o => up2 o y3'
  clear hW m0 m2 y0 y1 y2 y3 up2
  go_region
  generalize hW2 : (W.alloc (.cells #[.int .u8 5, .string x.f1, .int .i64 x.f2, .int .i64 x.f3] 70)).drew = W2
  have b1 : W2.heap[W.heap.size]? = some (.cells #[.int .u8 5, .string x.f1, .int .i64 x.f2, .int .i64 x.f3] 70 (0, 0)) := by rw [← hW2]; exact blk_new W _
  have B1 : Below w.heap.size w W := by rw [← HW.out]; exact pw_below_drewN ((Below.refl _ w).alloc (Nat.le_refl _) _) _
  have s1 : W.heap.size = w.heap.size + 1 := by rw [← HW.out]; simp
  have HS1 := Aside0.mk s1
  have B2 : Below w.heap.size w W2 := by rw [← hW2]; exact below_drew1 (B1.alloc B1.size _)
  have b2 : W2.heap[w.heap.size]? = some (.cells #[.int .u8 0, .string ⟨#[]⟩, .int .i64 0, .slice none 0 0] 24 (0, 0)) := by
    rw [← hW2]
    refine blk_drew (blk_alloc ?_ _)
    rw [← HW.out]; exact blk_drewN (blk_new w _) _
  have IW2 : IsS67 w0 W2 g toks cs i dp := HI.out.below B2
  have hG := (B2.block g HI.out.lt).trans HG.out
  have c1 := blk_cell b1 0
  have c2 := blk_cell b1 1
  have c3 := cellS67_2 hG
  have c4 := blk_frozen hG 2
  have gl := HI.out.lt
  have n1 : g ≠ W.heap.size := by omega
  have HI2 := Aside0.mk IW2
  have Hb1 := Aside0.mk b1
  have Hb2 := Aside0.mk b2
  have HB2 := Aside0.mk B2
  clear s1 c2 c3 c4 hG b1 b2 B1 B2 IW2 m0' m2' y0' y1' y2' y3' m0'' m2'' y0'' y1'' y2'' y3'' g0 g1 g2 g3 x0 x1 x2 x3 hW2
  go_wp2_with (first | (go_at_call 104; (refine (HP.out g w0 _ HI2.out (HB.out.trans (HB2.out.mono HB.out.size))).mono ?_); rintro e_ w3 ⟨v1, rfl, hi, hb, hk, hr⟩; obtain ⟨A3, cp3, rfl⟩ := Kd.R_slice hr; have HI3 := Aside0.mk hi; have HB3 := Aside0.mk hb; have HK3 := Aside0.mk ((KeepBut.of_below HB2.out g none).trans hk (.inl rfl)); have HR3 := Aside0.mk hr; have hr0 := hk.blk Hb2.out (by have := HI.out.lt; omega) (by simp); have HR0 := Aside0.mk hr0; have HZ := Aside0.mk (blk_lt Hb2.out); have d0 := blk_cell hr0 0; have d1 := blk_cell hr0 1; have d2 := blk_cell hr0 2; have d3 := blk_cell hr0 3; have k0 := blk_frozen hr0 0; have k1 := blk_frozen hr0 1; have k2 := blk_frozen hr0 2; have k3 := blk_frozen hr0 3; clear hi hb hk hr hr0))
  have hr2 := Kd.R_lower (Kd.R_mono (Kd.R_bound HR3.out) (fun k hk => (by have := hk.2.1; have := HZ.out; omega : k ≠ w.heap.size))) (Nat.le_of_lt HZ.out)
  obtain ⟨o1, o2, o3, o4, o5⟩ := lic_out (r := r) HI3.out HB3.out HK3.out HR0.out hr2 HB.out.size HI.out.lt
  have e0 := blk_cell o5 0
  have e1 := blk_cell o5 1
  have e2 := blk_cell o5 2
  have e3 := blk_cell o5 3
  refine bodyPost_ret (v := .tuple #[.agg #[.int .u8 r.f0, .string r.f1, .int .i64 r.f2, .slice A3 r.f3.length cp3], .int .i64 0]) ?_ rfl ⟨_, rfl, o1, o2, o3, o4⟩
  simp [results, Tryz.results81, go_sem, e0, e1, e2, e3]
end Go.Proofs.YtjapfefiaijfcaaGreatDoor.Q
