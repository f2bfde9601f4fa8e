/- The parser: counts that do not go through. The parser: a count without its parenthesis. The parser: a count whose parts fail. The parser: all and some, where their chain does not go through. -/
import Derived.Test.YtjapfefiaijfcaaGreatDoorQx0
import Derived.Test.YtjapfefiaijfcaaGreatDoorU6
import Derived.BigRegion
namespace Go.Proofs.YtjapfefiaijfcaaGreatDoor.Q
open Go.RowKit Go.Proofs.YtjapfefiaijfcaaGreatDoorW.PrintWords Go.Proofs.YtjapfefiaijfcaaGreatDoorW.PrintLast Go.Proofs.YtjapfefiaijfcaaGreatDoorW.PrintMore
set_option linter.unusedVariables false
set_option maxHeartbeats 8000000 in
set_option maxRecDepth 100000 in
theorem lics_of_empty.calls (toks : List S70) (cs : List S138) (hm : toks.length ≤ 8192) (i : Nat) (dp : Int) (x : S70) (d : ByteArray) (hi : i < toks.length) (hx : x = rd_T70 toks i) (hd : d = ⟨(Lib.trimLeftB x.f1.data.toList 48).toArray⟩) (hd0 : d.toList = []) : PartNo toks cs 104 i dp := by
  have HIn := Aside0.mk hi
  intro g w0 w hI hB
  have HI := Aside0.mk hI
  have HB := Aside0.mk hB
  have HX := Aside0.mk hx
  have HD := Aside0.mk hd
  have q4 : IntKind.i64.wrap ((i : Int) + 1) = (i : Int) + 1 := IntWalk.i64_in _ (by omega)
  obtain ⟨A0, c0, A1, c1, hG, hge, hS0, hS1⟩ := hI
  obtain ⟨ad, e0, x0, x1, x2, x3⟩ := at_T70 hS0 (i : Int) (by omega) (by omega)
  subst e0
  rw [← hx] at x1
  replace x1 := pw_cell_below hB x1
  rw [Int.toNat_natCast] at x1
  have p1 : (0 ≤ (i : Int)) = True := eq_true (by omega)
  have p2 : ((i : Int) < (toks.length : Int)) = True := eq_true (by omega)
  have p3 : (i < toks.length) = True := eq_true (by omega)
  have g0 := cellS67_0 hG
  have g2 := cellS67_2 hG
  have gf := blk_frozen hG 2
  have up : ∀ (o : Obj) {a : Addr} {v : Value}, w.cell? a = some v → (w.alloc o).cell? a = some v := fun o {a} {v} h => pw_cell_below ((Below.refl _ w).alloc (Nat.le_refl _) o) h
  have m0 := fun o => up o g0
  have m2 := fun o => up o g2
  have y1 := fun o => up o x1
  have t1 : (d.toList = []) = True := eq_true hd0
  have t2 : (d.toList == []) = true := by rw [hd0]; rfl
  have HG := Aside0.mk hG
  clear hd0 up hG hge hS0 hS1 hB hx x0 x1 x2 x3 g0 g2 hd
  go_enter Tryz.func104, Tryz.ntmps104
  go_wp2_with (fail)
  go_quiet ((refine (Tryz.strings_TrimLeft_one _ 48 (by decide) _).mono ?_; rintro e_ w_ ⟨rfl, rfl⟩; exact ⟨by rw [← HD.out], _, rfl⟩))
  generalize hW2 : (w.alloc (.cells #[.int .u8 0, .string ⟨#[]⟩, .int .i64 0, .slice none 0 0] 24)).drewN _ = W2
  have B2 : Below w.heap.size w W2 := by rw [← hW2]; exact pw_below_drewN ((Below.refl _ w).alloc (Nat.le_refl _) _) _
  have s2 : W2.heap.size = w.heap.size + 1 := by rw [← hW2]; simp
  have b2 : W2.heap[w.heap.size]? = some (.cells #[.int .u8 0, .string ⟨#[]⟩, .int .i64 0, .slice none 0 0] 24 (0, 0)) := by rw [← hW2]; exact blk_drewN (blk_new w _) _
  have HS2 := Aside0.mk s2
  have HB2 := Aside0.mk B2
  have Hb2 := Aside0.mk b2
  clear s2 B2 b2 hW2 m0 m2 y1 gf
  have d0 := blk_cell Hb2.out 0
  have d1 := blk_cell Hb2.out 1
  have d2 := blk_cell Hb2.out 2
  have d3 := blk_cell Hb2.out 3
  have k0 := blk_frozen Hb2.out 0
  have k1 := blk_frozen Hb2.out 1
  have k2 := blk_frozen Hb2.out 2
  have k3 := blk_frozen Hb2.out 3
  go_wp2_with (fail)
  obtain ⟨o1, o2, o3, o5⟩ := lic_bad (HI.out.below HB2.out) (HB.out.trans (HB2.out.mono HB.out.size)) (KeepBut.of_below HB2.out g none) Hb2.out HB.out.size HI.out.lt (.int .u8 0) (.string ⟨#[]⟩) (.int .i64 0) (.slice none 0 0)
  have e0 := blk_cell o5 0
  have e1 := blk_cell o5 1
  have e2 := blk_cell o5 2
  have e3 := blk_cell o5 3
  refine bodyPost_ret (v := .tuple #[.agg #[.int .u8 0, .string ⟨#[]⟩, .int .i64 0, .slice none 0 0], .int .i64 150]) ?_ rfl ⟨0, ⟨#[]⟩, 0, none, 0, 0, 150, i, dp, rfl, by decide, Nat.le_of_lt HIn.out, o1, o2, o3⟩
  simp [results, Tryz.results104, go_sem, e0, e1, e2, e3]
set_option maxHeartbeats 8000000 in
set_option maxRecDepth 100000 in
theorem lics_of_long.calls (toks : List S70) (cs : List S138) (hm : toks.length ≤ 8192) (i : Nat) (dp : Int) (x : S70) (d : ByteArray) (hi : i < toks.length) (hx : x = rd_T70 toks i) (hd : d = ⟨(Lib.trimLeftB x.f1.data.toList 48).toArray⟩) (hd0 : d.toList ≠ []) (hd4 : 4 < d.size) : PartNo toks cs 104 i dp := by
  have HIn := Aside0.mk hi
  intro g w0 w hI hB
  have HI := Aside0.mk hI
  have HB := Aside0.mk hB
  have HX := Aside0.mk hx
  have HD := Aside0.mk hd
  have q4 : IntKind.i64.wrap ((i : Int) + 1) = (i : Int) + 1 := IntWalk.i64_in _ (by omega)
  obtain ⟨A0, c0, A1, c1, hG, hge, hS0, hS1⟩ := hI
  obtain ⟨ad, e0, x0, x1, x2, x3⟩ := at_T70 hS0 (i : Int) (by omega) (by omega)
  subst e0
  rw [← hx] at x1
  replace x1 := pw_cell_below hB x1
  rw [Int.toNat_natCast] at x1
  have p1 : (0 ≤ (i : Int)) = True := eq_true (by omega)
  have p2 : ((i : Int) < (toks.length : Int)) = True := eq_true (by omega)
  have p3 : (i < toks.length) = True := eq_true (by omega)
  have g0 := cellS67_0 hG
  have g2 := cellS67_2 hG
  have gf := blk_frozen hG 2
  have up : ∀ (o : Obj) {a : Addr} {v : Value}, w.cell? a = some v → (w.alloc o).cell? a = some v := fun o {a} {v} h => pw_cell_below ((Below.refl _ w).alloc (Nat.le_refl _) o) h
  have m0 := fun o => up o g0
  have m2 := fun o => up o g2
  have y1 := fun o => up o x1
  have t1 : (d.toList = []) = False := eq_false hd0
  have t2 : (d.toList == []) = false := beq_eq_false_iff_ne.mpr hd0
  have b2 : decide ((4 : Int) < (d.size : Int)) = true := decide_eq_true (by omega)
  have b3 : decide (4 < d.size) = true := decide_eq_true (by omega)
  have HG := Aside0.mk hG
  clear hd0 up hG hge hS0 hS1 hB hx x0 x1 x2 x3 g0 g2 hd
  go_enter Tryz.func104, Tryz.ntmps104
  go_wp2_with (fail)
  go_quiet ((refine (Tryz.strings_TrimLeft_one _ 48 (by decide) _).mono ?_; rintro e_ w_ ⟨rfl, rfl⟩; exact ⟨by rw [← HD.out], _, rfl⟩))
  generalize hW2 : (w.alloc (.cells #[.int .u8 0, .string ⟨#[]⟩, .int .i64 0, .slice none 0 0] 24)).drewN _ = W2
  have B2 : Below w.heap.size w W2 := by rw [← hW2]; exact pw_below_drewN ((Below.refl _ w).alloc (Nat.le_refl _) _) _
  have s2 : W2.heap.size = w.heap.size + 1 := by rw [← hW2]; simp
  have b2 : W2.heap[w.heap.size]? = some (.cells #[.int .u8 0, .string ⟨#[]⟩, .int .i64 0, .slice none 0 0] 24 (0, 0)) := by rw [← hW2]; exact blk_drewN (blk_new w _) _
  have HS2 := Aside0.mk s2
  have HB2 := Aside0.mk B2
  have Hb2 := Aside0.mk b2
  clear s2 B2 b2 hW2 m0 m2 y1 gf
  have d0 := blk_cell Hb2.out 0
  have d1 := blk_cell Hb2.out 1
  have d2 := blk_cell Hb2.out 2
  have d3 := blk_cell Hb2.out 3
  have k0 := blk_frozen Hb2.out 0
  have k1 := blk_frozen Hb2.out 1
  have k2 := blk_frozen Hb2.out 2
  have k3 := blk_frozen Hb2.out 3
  go_wp2_with (fail)
  obtain ⟨o1, o2, o3, o5⟩ := lic_bad (HI.out.below HB2.out) (HB.out.trans (HB2.out.mono HB.out.size)) (KeepBut.of_below HB2.out g none) Hb2.out HB.out.size HI.out.lt (.int .u8 0) (.string ⟨#[]⟩) (.int .i64 0) (.slice none 0 0)
  have e0 := blk_cell o5 0
  have e1 := blk_cell o5 1
  have e2 := blk_cell o5 2
  have e3 := blk_cell o5 3
  refine bodyPost_ret (v := .tuple #[.agg #[.int .u8 0, .string ⟨#[]⟩, .int .i64 0, .slice none 0 0], .int .i64 150]) ?_ rfl ⟨0, ⟨#[]⟩, 0, none, 0, 0, 150, i, dp, rfl, by decide, Nat.le_of_lt HIn.out, o1, o2, o3⟩
  simp [results, Tryz.results104, go_sem, e0, e1, e2, e3]
end Go.Proofs.YtjapfefiaijfcaaGreatDoor.Q
namespace Go.Proofs.YtjapfefiaijfcaaGreatDoor.Q
open Go.RowKit Go.Proofs.YtjapfefiaijfcaaGreatDoorW.PrintWords Go.Proofs.YtjapfefiaijfcaaGreatDoorW.PrintLast Go.Proofs.YtjapfefiaijfcaaGreatDoorW.PrintMore
set_option linter.unusedVariables false
set_option maxHeartbeats 8000000 in
set_option maxRecDepth 100000 in
theorem lics_of_shut.calls (toks : List S70) (cs : List S138) (hm : toks.length ≤ 8192) (i : Nat) (dp : Int) (x : S70) (d : ByteArray) (kk er : Int) (hi : i < toks.length) (hx : x = rd_T70 toks i) (hd : d = ⟨(Lib.trimLeftB x.f1.data.toList 48).toArray⟩) (hd0 : d.toList ≠ []) (hd4 : d.size ≤ 4) (ha : Lib.atoi d.data.toList = some kk) (her : er ≠ 0) (hE : lics_reader_enter.f toks cs ((i : Int) + 1) dp = some (er, (i : Int) + 1, dp)) : PartNo toks cs 104 i dp := by
  have HIn := Aside0.mk (show i + 1 ≤ toks.length from hi)
  have HEr := Aside0.mk her
  have hern : (er == 0) = false := beq_eq_false_iff_ne.mpr her
  clear her
  intro g w0 w hI hB
  have HI := Aside0.mk hI
  have HB := Aside0.mk hB
  have HX := Aside0.mk hx
  have HD := Aside0.mk hd
  have HD4 := Aside0.mk hd4
  have HA := Aside0.mk ha
  have HE := Aside0.mk hE
  have q4 : IntKind.i64.wrap ((i : Int) + 1) = (i : Int) + 1 := IntWalk.i64_in _ (by omega)
  obtain ⟨A0, c0, A1, c1, hG, hge, hS0, hS1⟩ := hI
  obtain ⟨ad, e0, x0, x1, x2, x3⟩ := at_T70 hS0 (i : Int) (by omega) (by omega)
  subst e0
  rw [← hx] at x1
  replace x1 := pw_cell_below hB x1
  rw [Int.toNat_natCast] at x1
  have p1 : (0 ≤ (i : Int)) = True := eq_true (by omega)
  have p2 : ((i : Int) < (toks.length : Int)) = True := eq_true (by omega)
  have p3 : (i < toks.length) = True := eq_true (by omega)
  have g0 := cellS67_0 hG
  have g2 := cellS67_2 hG
  have gf := blk_frozen hG 2
  have up : ∀ (o : Obj) {a : Addr} {v : Value}, w.cell? a = some v → (w.alloc o).cell? a = some v := fun o {a} {v} h => pw_cell_below ((Below.refl _ w).alloc (Nat.le_refl _) o) h
  have m0 := fun o => up o g0
  have m2 := fun o => up o g2
  have y1 := fun o => up o x1
  have t1 : (d.toList = []) = False := eq_false hd0
  have t2 : (d.toList == []) = false := beq_eq_false_iff_ne.mpr hd0
  have b2 : decide ((4 : Int) < (d.size : Int)) = false := decide_eq_false (by omega)
  have b3 : decide (4 < d.size) = false := decide_eq_false (by omega)
  have HG := Aside0.mk hG
  clear hd0 up hG hge hS0 hS1 hB hx x0 x1 x2 x3 g0 g2 hd hd4 ha hE hi
  go_enter Tryz.func104, Tryz.ntmps104
  go_wp2_with (fail)
  go_quiet ((refine (Tryz.strings_TrimLeft_one _ 48 (by decide) _).mono ?_; rintro e_ w_ ⟨rfl, rfl⟩; exact ⟨by rw [← HD.out], _, rfl⟩))
  generalize hW2 : (w.alloc (.cells #[.int .u8 0, .string ⟨#[]⟩, .int .i64 0, .slice none 0 0] 24)).drewN _ = W2
  have B2 : Below w.heap.size w W2 := by rw [← hW2]; exact pw_below_drewN ((Below.refl _ w).alloc (Nat.le_refl _) _) _
  have s2 : W2.heap.size = w.heap.size + 1 := by rw [← hW2]; simp
  have b2 : W2.heap[w.heap.size]? = some (.cells #[.int .u8 0, .string ⟨#[]⟩, .int .i64 0, .slice none 0 0] 24 (0, 0)) := by rw [← hW2]; exact blk_drewN (blk_new w _) _
  have HS2 := Aside0.mk s2
  have HB2 := Aside0.mk B2
  have Hb2 := Aside0.mk b2
  clear s2 B2 b2 hW2 m0 m2 y1 gf
  go_wp2_with (first | (go_at_call 124; refine (Tryz.strconv_Atoi d kk (by have := HD4.out; omega) HA.out _).mono ?_; rintro e_ w3 ⟨rfl, t, hw3⟩; have hb3 : Below W2.heap.size W2 w3 := (by rw [hw3]; exact bytes_below (Below.refl _ _) (Nat.le_refl _) 5 t); have bw3 := HB2.out.trans (hb3.mono (by have := HS2.out; omega)); have Hb3 := Aside0.mk (blk_below Hb2.out hb3); have HI3 := Aside0.mk (HI.out.below bw3); have HBw3 := Aside0.mk bw3; have g2 := cellS67_2 ((bw3.block g HI.out.lt).trans HG.out); have gf := blk_frozen ((bw3.block g HI.out.lt).trans HG.out) 2; clear hw3 hb3 bw3) | (go_at_call 107; (refine (lics_reader_enter.calls g toks cs ((i : Int) + 1) dp er ((i : Int) + 1) dp w0 _ (HI3.out.set_2 _) ((HB.out.trans (HBw3.out.mono HB.out.size)).setCell HI.out.ge _) HE.out).mono ?_); rintro e_ w4 ⟨rfl, hi, hb, hk⟩; have b4 := hk.blk (blk_far Hb3.out (p := ⟨g, 2, none⟩) (by have := HI.out.lt; simp only; omega) (.int .i64 ((i : Int) + 1))) (by have := HI.out.lt; omega) (by simp); have Hb4 := Aside0.mk b4; have HI4 := Aside0.mk hi; have HB4 := Aside0.mk hb; have HK4 := Aside0.mk (((KeepBut.of_below HBw3.out g none).set_ _ _).trans hk (.inl rfl)); have d0 := blk_cell b4 0; have d1 := blk_cell b4 1; have d2 := blk_cell b4 2; have d3 := blk_cell b4 3; have k0 := blk_frozen b4 0; have k1 := blk_frozen b4 1; have k2 := blk_frozen b4 2; have k3 := blk_frozen b4 3; clear b4 hi hb hk g2 gf))
  obtain ⟨o1, o2, o3, o5⟩ := lic_bad HI4.out HB4.out HK4.out Hb4.out HB.out.size HI.out.lt (.int .u8 0) (.string ⟨#[]⟩) (.int .i64 0) (.slice none 0 0)
  have e0 := blk_cell o5 0
  have e1 := blk_cell o5 1
  have e2 := blk_cell o5 2
  have e3 := blk_cell o5 3
  refine bodyPost_ret (v := .tuple #[.agg #[.int .u8 0, .string ⟨#[]⟩, .int .i64 0, .slice none 0 0], .int .i64 er]) ?_ rfl ⟨0, ⟨#[]⟩, 0, none, 0, 0, er, i + 1, dp, rfl, HEr.out, HIn.out, o1, o2, o3⟩
  simp [results, Tryz.results104, go_sem, e0, e1, e2, e3]
end Go.Proofs.YtjapfefiaijfcaaGreatDoor.Q
namespace Go.Proofs.YtjapfefiaijfcaaGreatDoor.Q
open Go.RowKit Go.Proofs.YtjapfefiaijfcaaGreatDoorW.PrintWords Go.Proofs.YtjapfefiaijfcaaGreatDoorW.PrintLast Go.Proofs.YtjapfefiaijfcaaGreatDoorW.PrintMore
set_option linter.unusedVariables false
/-- Parts of a count, of which one fails, or that are too few, or that are not shut. -/
inductive OfBad (toks : List S70) (cs : List S138) (dp kk : Int) : List S24 → Int → Prop
  | part {acc : List S24} {i : Nat} : i ≤ toks.length → PartNo toks cs 36 i (dp + 1) → OfBad toks cs dp kk acc i
  | few {acc : List S24} {i : Nat} {m : S24} {j : Nat} : i < toks.length → j ≤ toks.length → PartOK toks cs 36 i (dp + 1) m j → lics_reader_sign.f toks cs j (dp + 1) ⟨#[44]⟩ = some (false, (j : Int), dp + 1) → (acc.length : Int) + 1 < kk → OfBad toks cs dp kk acc i
  | shut {acc : List S24} {i : Nat} {m : S24} {j : Nat} {er : Int} : i < toks.length → j ≤ toks.length → PartOK toks cs 36 i (dp + 1) m j → lics_reader_sign.f toks cs j (dp + 1) ⟨#[44]⟩ = some (false, (j : Int), dp + 1) → kk ≤ (acc.length : Int) + 1 → er ≠ 0 → lics_reader_leave.f toks cs j (dp + 1) = some (er, (j : Int), dp + 1) → OfBad toks cs dp kk acc i
  | more {acc : List S24} {i : Nat} {m : S24} {j : Nat} : i < toks.length → j < toks.length → i ≤ j → PartOK toks cs 36 i (dp + 1) m j → lics_reader_sign.f toks cs j (dp + 1) ⟨#[44]⟩ = some (true, (j : Int), dp + 1) → OfBad toks cs dp kk (acc ++ [m]) ((j : Int) + 1) → OfBad toks cs dp kk acc i
set_option maxHeartbeats 8000000 in
set_option maxRecDepth 100000 in
theorem lics_of_bad.calls (toks : List S70) (cs : List S138) (hm : toks.length ≤ 8192) (i : Nat) (dp : Int) (x : S70) (d : ByteArray) (kk : Int) (hi : i < toks.length) (hx : x = rd_T70 toks i) (hd : d = ⟨(Lib.trimLeftB x.f1.data.toList 48).toArray⟩) (hd0 : d.toList ≠ []) (hd4 : d.size ≤ 4) (ha : Lib.atoi d.data.toList = some kk) (hE : lics_reader_enter.f toks cs ((i : Int) + 1) dp = some (0, (i : Int) + 2, dp + 1)) (hA : OfBad toks cs dp kk [] ((i : Int) + 2)) : PartNo toks cs 104 i dp := by
  intro g w0 w hI hB
  have HI := Aside0.mk hI
  have HB := Aside0.mk hB
  have HX := Aside0.mk hx
  have HD := Aside0.mk hd
  have HD4 := Aside0.mk hd4
  have HA := Aside0.mk ha
  have HE := Aside0.mk hE
  have HAr := Aside0.mk hA
  have q4 : IntKind.i64.wrap ((i : Int) + 1) = (i : Int) + 1 := IntWalk.i64_in _ (by omega)
  obtain ⟨A0, c0, A1, c1, hG, hge, hS0, hS1⟩ := hI
  obtain ⟨ad, e0, x0, x1, x2, x3⟩ := at_T70 hS0 (i : Int) (by omega) (by omega)
  subst e0
  rw [← hx] at x1
  replace x1 := pw_cell_below hB x1
  rw [Int.toNat_natCast] at x1
  have p1 : (0 ≤ (i : Int)) = True := eq_true (by omega)
  have p2 : ((i : Int) < (toks.length : Int)) = True := eq_true (by omega)
  have p3 : (i < toks.length) = True := eq_true (by omega)
  have g0 := cellS67_0 hG
  have g2 := cellS67_2 hG
  have gf := blk_frozen hG 2
  have up : ∀ (o : Obj) {a : Addr} {v : Value}, w.cell? a = some v → (w.alloc o).cell? a = some v := fun o {a} {v} h => pw_cell_below ((Below.refl _ w).alloc (Nat.le_refl _) o) h
  have m0 := fun o => up o g0
  have m2 := fun o => up o g2
  have y1 := fun o => up o x1
  have t1 : (d.toList = []) = False := eq_false hd0
  have t2 : (d.toList == []) = false := beq_eq_false_iff_ne.mpr hd0
  have b2 : decide ((4 : Int) < (d.size : Int)) = false := decide_eq_false (by omega)
  have b3 : decide (4 < d.size) = false := decide_eq_false (by omega)
  have HG := Aside0.mk hG
  clear hd0 up hG hge hS0 hS1 hB hx x0 x1 x2 x3 g0 g2 hd hd4 ha hE hA hi
  go_enter Tryz.func104, Tryz.ntmps104
  go_wp2_with (fail)
  go_quiet ((refine (Tryz.strings_TrimLeft_one _ 48 (by decide) _).mono ?_; rintro e_ w_ ⟨rfl, rfl⟩; exact ⟨by rw [← HD.out], _, rfl⟩))
  generalize hW2 : (w.alloc (.cells #[.int .u8 0, .string ⟨#[]⟩, .int .i64 0, .slice none 0 0] 24)).drewN _ = W2
  have B2 : Below w.heap.size w W2 := by rw [← hW2]; exact pw_below_drewN ((Below.refl _ w).alloc (Nat.le_refl _) _) _
  have s2 : W2.heap.size = w.heap.size + 1 := by rw [← hW2]; simp
  have b2 : W2.heap[w.heap.size]? = some (.cells #[.int .u8 0, .string ⟨#[]⟩, .int .i64 0, .slice none 0 0] 24 (0, 0)) := by rw [← hW2]; exact blk_drewN (blk_new w _) _
  have HS2 := Aside0.mk s2
  have HB2 := Aside0.mk B2
  have Hb2 := Aside0.mk b2
  clear s2 B2 b2 hW2 m0 m2 y1 gf
  go_wp2_with (first | (go_at_call 124; refine (Tryz.strconv_Atoi d kk (by have := HD4.out; omega) HA.out _).mono ?_; rintro e_ w3 ⟨rfl, t, hw3⟩; have hb3 : Below W2.heap.size W2 w3 := (by rw [hw3]; exact bytes_below (Below.refl _ _) (Nat.le_refl _) 5 t); have bw3 := HB2.out.trans (hb3.mono (by have := HS2.out; omega)); have Hb3 := Aside0.mk (blk_below Hb2.out hb3); have HI3 := Aside0.mk (HI.out.below bw3); have HBw3 := Aside0.mk bw3; have g2 := cellS67_2 ((bw3.block g HI.out.lt).trans HG.out); have gf := blk_frozen ((bw3.block g HI.out.lt).trans HG.out) 2; clear hw3 hb3 bw3) | (go_at_call 107; (refine (lics_reader_enter.calls g toks cs ((i : Int) + 1) dp 0 ((i : Int) + 2) (dp + 1) w0 _ (HI3.out.set_2 _) ((HB.out.trans (HBw3.out.mono HB.out.size)).setCell HI.out.ge _) HE.out).mono ?_); rintro e_ w4 ⟨rfl, hi, hb, hk⟩; have b4 := hk.blk (blk_far Hb3.out (p := ⟨g, 2, none⟩) (by have := HI.out.lt; simp only; omega) (.int .i64 ((i : Int) + 1))) (by have := HI.out.lt; omega) (by simp); have Hb4 := Aside0.mk b4; have HI4 := Aside0.mk hi; have HB4 := Aside0.mk hb; have HK4 := Aside0.mk (((KeepBut.of_below HBw3.out g none).set_ _ _).trans hk (.inl rfl)); clear b4 hi hb hk g2 gf))
  have hz4 : w.heap.size + 1 ≤ w4.heap.size := by have q := blk_lt Hb4.out; omega
  have HN8 := Aside0.mk hz4
  clear hz4
  go_loopw [] (fun wr => ∃ (acc : List S24) (j : Int) (v : Value), OfBad toks cs dp kk acc j ∧ (acc.length : Int) ≤ j ∧ IsS67 w0 wr g toks cs j (dp + 1) ∧ Below w0.heap.size w0 wr ∧ KeepBut w wr g none ∧ wr.heap[w4.heap.size]? = some (.cells #[.int .u8 4, .string ⟨#[]⟩, .int .i64 kk, v] 24 (0, 0)) ∧ wr.heap[w.heap.size]? = some (.cells #[.int .u8 0, .string ⟨#[]⟩, .int .i64 0, .slice none 0 0] 24 (0, 0)) ∧ Kd.R k24 24 wr w.heap.size (fun k => k ≠ w.heap.size ∧ k ≠ w4.heap.size) v acc) (fun wr => (8192 - rdAt wr g).toNat)
  case atStart =>
    exact ⟨[], (i : Int) + 2, .slice none 0 0, HAr.out, by simp; omega, HI4.out.alloc _, HB4.out.alloc HB4.out.size _, keep_alloc HK4.out _, blk_new _ _, blk_alloc Hb4.out _, Kd.R_nil _ _ _ _ _⟩
  case round =>
    obtain ⟨acc, j, v, hA, hac, hI, hB, hK, hb8, hb0, hR⟩ := hrel
    obtain ⟨A2, cp2, rfl⟩ := Kd.R_slice hR
    have HIr := Aside0.mk hI
    have HBr := Aside0.mk hB
    have HKr := Aside0.mk hK
    have HR := Aside0.mk hR
    have Hb8 := Aside0.mk hb8
    have Hb0 := Aside0.mk hb0
    have HAc := Aside0.mk hac
    have HZw := Aside0.mk hK.1
    have HN8w := Aside0.mk (blk_lt hb8)
    cases hA with
    | part hj hp =>
      rename_i jn
      have HP2 := Aside0.mk hp
      have HJ := Aside0.mk hj
      clear hI hB hK hR hb8 hb0 hp hj hac
      go_wp2_with (fail)
      go_at_call 36
      refine (HP2.out g w0 _ HIr.out HBr.out).mono ?_
      rintro e_ w5 ⟨a, b, c, A, n, cap, er, j2, dp2, rfl, her, hj2, hi, hb, hk⟩
      have hern : (er == 0) = false := beq_eq_false_iff_ne.mpr her
      have HEr := Aside0.mk her
      have HJ2 := Aside0.mk hj2
      have HI5 := Aside0.mk hi
      have HB5 := Aside0.mk hb
      have HK5 := Aside0.mk (HKr.out.trans hk (.inl rfl))
      have f8 := hk.blk Hb8.out (by have := HI.out.lt; have := HN8.out; omega) (by simp)
      have f0 := hk.blk Hb0.out (by have := HI.out.lt; omega) (by simp)
      have F0 := Aside0.mk f0
      have ga0 := fun o => blk_cell (blk_alloc f8 o) 0
      have ga1 := fun o => blk_cell (blk_alloc f8 o) 1
      have ga2 := fun o => blk_cell (blk_alloc f8 o) 2
      have ga3 := fun o => blk_cell (blk_alloc f8 o) 3
      have gb0 := fun o => blk_cell (blk_alloc f0 o) 0
      have gb1 := fun o => blk_cell (blk_alloc f0 o) 1
      have gb2 := fun o => blk_cell (blk_alloc f0 o) 2
      have gb3 := fun o => blk_cell (blk_alloc f0 o) 3
      have gc0 := fun o => blk_frozen (blk_alloc f0 o) 0
      have gc1 := fun o => blk_frozen (blk_alloc f0 o) 1
      have gc2 := fun o => blk_frozen (blk_alloc f0 o) 2
      have gc3 := fun o => blk_frozen (blk_alloc f0 o) 3
      clear her hj2 hi hb hk f8 f0
      go_wp2_with (fail)
      obtain ⟨o1, o2, o3, o5⟩ := lic_bad (HI5.out.alloc _) (HB5.out.alloc HB5.out.size _) (keep_alloc HK5.out _) (blk_alloc F0.out _) HB.out.size HI.out.lt (.int .u8 4) (.string ⟨#[]⟩) (.int .i64 kk) (.slice A2 acc.length cp2)
      have e0 := blk_cell o5 0
      have e1 := blk_cell o5 1
      have e2 := blk_cell o5 2
      have e3 := blk_cell o5 3
      refine bodyPost_ret (v := .tuple #[.agg #[.int .u8 4, .string ⟨#[]⟩, .int .i64 kk, .slice A2 acc.length cp2], .int .i64 er]) ?_ rfl ⟨4, ⟨#[]⟩, kk, A2, acc.length, cp2, er, j2, dp2, rfl, HEr.out, HJ2.out, o1, o2, o3⟩
      simp [results, Tryz.results104, go_sem, e0, e1, e2, e3]
    | few hj hjl hp hs hkk =>
      rename_i jn m n
      have HJL := Aside0.mk hjl
      have HP2 := Aside0.mk hp
      have HS := Aside0.mk hs
      have HJ := Aside0.mk hj
      have u1 : decide ((acc.length : Int) + 1 < kk) = true := decide_eq_true hkk
      clear hI hB hK hR hb8 hb0 hp hs hj hac hjl hkk
      go_wp2_with (first | (go_at_call 36; (refine (HP2.out g w0 _ HIr.out HBr.out).mono ?_); rintro e_ w5 ⟨v2, rfl, hi, hb, hk, hr⟩; obtain ⟨A3, cp3, rfl⟩ := Kd.R_slice hr; have HI5 := Aside0.mk hi; have HB5 := Aside0.mk hb; have HK5 := Aside0.mk hk; have HR5 := Aside0.mk hr; have f8 := hk.blk Hb8.out (by have := HI.out.lt; have := HN8.out; omega) (by simp); have f0 := hk.blk Hb0.out (by have := HI.out.lt; omega) (by simp); have a3 := fun o => blk_cell (blk_alloc f8 o) 3; have F8 := Aside0.mk f8; have F0 := Aside0.mk f0; have hR5 := Kd.R_keep (Kd.R_mono (Kd.R_bound HR.out) (fun k hk => (⟨hk.1, hk.2.1, hk.2.2.1⟩ : (k ≠ w.heap.size ∧ k ≠ w4.heap.size) ∧ w.heap.size ≤ k ∧ k < wr.heap.size))) hk (fun k hk => by have := HI.out.lt; omega); have HRr5 := Aside0.mk hR5; have hN9 : wr.heap.size ≤ w5.heap.size := hk.1; have HN9 := Aside0.mk hN9; clear hi hb hk hr f8 f0 hR5 hN9) | ((with_reducible refine gate_builtin (b := .append) (xs := #[.tmp 61, .tmp 63]) rfl ?_); at_builtin; refine Kd.R_append k24 (w0 := w5.alloc (.cells #[.int .u8 m.f0, .string m.f1, .int .i64 m.f2, .slice A3 m.f3.length cp3] 24)) w.heap.size rfl (.tmp 61) (.tmp 63) 22 24 (.agg #[(.int .u8 0), (.string ⟨#[]⟩), (.int .i64 0), (.slice none 0 0)]) 56 rfl Tryz.underlying22 info24 rfl (by decide) (by omega) (.slice A2 acc.length cp2) acc m [.int .u8 m.f0, .string m.f1, .int .i64 m.f2, .slice A3 m.f3.length cp3] (fun k => k ≠ w.heap.size ∧ k ≠ w4.heap.size ∧ k ≠ w5.heap.size) (fun k => wr.heap.size ≤ k ∧ k < w5.heap.size) rfl ?aX ?aP ?aK ?aF ?aO ?aB ?aS ?aL ?_; (case aX => simp [Act.eval]); (case aP => exact of_aP HR5.out HZw.out _); (case aK => exact fun k hk => ⟨⟨by have := HN8.out; have := HN8w.out; omega, by have := HN8w.out; omega, by omega⟩, fun e => by have := HRr5.out.1 k e.symm; omega⟩); (case aF => intro k hk; have hk2 : w5.heap.size + 1 ≤ k := (by simpa using hk); have := HZw.out; have := HN9.out; have := HN8w.out; exact ⟨by omega, by omega, by omega⟩); (case aO => exact Kd.R_mono (Kd.R_alloc HRr5.out _) (fun k hk => ⟨hk.1.1, hk.1.2, by have := HN9.out; omega⟩)); (case aB => exact Below.refl _ _); (case aS => have := HZw.out; have := HN9.out; simp; omega); (case aL => have := HAc.out; have := HJ.out; omega); intro v1 w6 ho hb hg hat; obtain ⟨A4, cp4, rfl⟩ := Kd.R_slice ho; have f8 := blk_grown (blk_alloc F8.out (.cells #[.int .u8 m.f0, .string m.f1, .int .i64 m.f2, .slice A3 m.f3.length cp3] 24)) hg (Kd.R_away HRr5.out (fun k hk => hk.1.2)); have f0 := blk_grown (blk_alloc F0.out (.cells #[.int .u8 m.f0, .string m.f1, .int .i64 m.f2, .slice A3 m.f3.length cp3] 24)) hg (Kd.R_away HRr5.out (fun k hk => hk.1.1)); rw [List.length_append, List.length_singleton] at ho; have hI6 := (HI5.out.alloc (.cells #[.int .u8 m.f0, .string m.f1, .int .i64 m.f2, .slice A3 m.f3.length cp3] 24)).grown hg (Kd.R_away HRr5.out (fun k hk => by have := HI.out.lt; omega)); have hB6 := (HB5.out.alloc HB5.out.size (.cells #[.int .u8 m.f0, .string m.f1, .int .i64 m.f2, .slice A3 m.f3.length cp3] 24)).trans (hb.mono HB.out.size); have hK6 := ((keep_alloc (HKr.out.trans HK5.out (.inl rfl)) (.cells #[.int .u8 m.f0, .string m.f1, .int .i64 m.f2, .slice A3 m.f3.length cp3] 24)).trans (KeepBut.of_grown hg g) (Kd.R_base2 HRr5.out)); have HI7 := Aside0.mk (hI6.far (p := ⟨w4.heap.size, 3, none⟩) (by have := HI.out.lt; have := HN8.out; simp only; omega) (.slice A4 (acc.length + 1) cp4)); have HB7 := Aside0.mk (hB6.setCell (p := ⟨w4.heap.size, 3, none⟩) (by have := HB.out.size; have := HN8.out; simp only; omega) (.slice A4 (acc.length + 1) cp4)); have HK7 := Aside0.mk (keep_far hK6 (p := ⟨w4.heap.size, 3, none⟩) (by have := HN8.out; simp only; omega) (.slice A4 (acc.length + 1) cp4)); have HO7 := Aside0.mk (Kd.R_far ho (p := ⟨w4.heap.size, 3, none⟩) (fun k hk => hk.2.1) (.slice A4 (acc.length + 1) cp4)); have G8 := Aside0.mk (blk_put f8 3 (.slice A4 (acc.length + 1) cp4) rfl); have G0 := Aside0.mk (blk_far f0 (p := ⟨w4.heap.size, 3, none⟩) (by have := HN8.out; simp only; omega) (.slice A4 (acc.length + 1) cp4)); have c3 := blk_cell f8 3; have d3 := blk_frozen f8 3; clear ho hb hg hat f8 f0 hI6 hB6 hK6) | (go_at_call 80; (refine (lics_reader_sign.calls g toks cs _ (dp + 1) ⟨#[44]⟩ false _ (dp + 1) w0 _ HI7.out HB7.out HS.out).mono ?_); rintro e_ w8 ⟨rfl, hi, hb, hk⟩; have f8 := hk.blk G8.out (by have := HI.out.lt; have := HN8.out; omega) (by simp); have f0 := hk.blk G0.out (by have := HI.out.lt; omega) (by simp); have hr8 := Kd.R_keep (Kd.R_mono (Kd.R_bound HO7.out) (fun k hk => (⟨⟨hk.1.1, hk.1.2.1⟩, hk.2.1⟩ : (k ≠ w.heap.size ∧ k ≠ w4.heap.size) ∧ w.heap.size ≤ k))) hk (fun k hk => by have := HI.out.lt; omega); have HI8 := Aside0.mk hi; have HB8 := Aside0.mk hb; have HK8 := Aside0.mk (HK7.out.trans hk (.inl rfl)); have HR8 := Aside0.mk (Kd.R_mono hr8 (fun k hk => hk.1)); have g8 := blk_cell f8 3; have J8 := Aside0.mk f8; have J0 := Aside0.mk f0; have ge0 := blk_cell f8 0; have ge1 := blk_cell f8 1; have ge2 := blk_cell f8 2; have gb0 := blk_cell f0 0; have gb1 := blk_cell f0 1; have gb2 := blk_cell f0 2; have gb3 := blk_cell f0 3; have gc0 := blk_frozen f0 0; have gc1 := blk_frozen f0 1; have gc2 := blk_frozen f0 2; have gc3 := blk_frozen f0 3; obtain ⟨A0', c0', A1', c1', hG, -, -, -⟩ := hi; have gg2 := cellS67_2 hG; have ggf := blk_frozen hG 2; clear f8 f0 hb hk hr8 hG))
      obtain ⟨o1, o2, o3, o5⟩ := lic_bad HI8.out HB8.out HK8.out J0.out HB.out.size HI.out.lt (.int .u8 4) (.string ⟨#[]⟩) (.int .i64 kk) (.slice A4 (acc.length + 1) cp4)
      have e0 := blk_cell o5 0
      have e1 := blk_cell o5 1
      have e2 := blk_cell o5 2
      have e3 := blk_cell o5 3
      refine bodyPost_ret (v := .tuple #[.agg #[.int .u8 4, .string ⟨#[]⟩, .int .i64 kk, .slice A4 (acc.length + 1) cp4], .int .i64 150]) ?_ rfl ⟨4, ⟨#[]⟩, kk, A4, acc.length + 1, cp4, 150, n, dp + 1, rfl, by decide, HJL.out, o1, o2, o3⟩
      simp [results, Tryz.results104, go_sem, e0, e1, e2, e3]
    | shut hj hjl hp hs hkk0 her hL =>
      rename_i jn m n er
      have HJL := Aside0.mk hjl
      have HEr := Aside0.mk her
      have HLv := Aside0.mk hL
      have HP2 := Aside0.mk hp
      have HS := Aside0.mk hs
      have HJ := Aside0.mk hj
      have u1 : decide ((acc.length : Int) + 1 < kk) = false := decide_eq_false (by omega)
      clear hI hB hK hR hb8 hb0 hp hs hj hac hjl hkk0 her hL
      go_wp2_with (first | (go_at_call 36; (refine (HP2.out g w0 _ HIr.out HBr.out).mono ?_); rintro e_ w5 ⟨v2, rfl, hi, hb, hk, hr⟩; obtain ⟨A3, cp3, rfl⟩ := Kd.R_slice hr; have HI5 := Aside0.mk hi; have HB5 := Aside0.mk hb; have HK5 := Aside0.mk hk; have HR5 := Aside0.mk hr; have f8 := hk.blk Hb8.out (by have := HI.out.lt; have := HN8.out; omega) (by simp); have f0 := hk.blk Hb0.out (by have := HI.out.lt; omega) (by simp); have a3 := fun o => blk_cell (blk_alloc f8 o) 3; have F8 := Aside0.mk f8; have F0 := Aside0.mk f0; have hR5 := Kd.R_keep (Kd.R_mono (Kd.R_bound HR.out) (fun k hk => (⟨hk.1, hk.2.1, hk.2.2.1⟩ : (k ≠ w.heap.size ∧ k ≠ w4.heap.size) ∧ w.heap.size ≤ k ∧ k < wr.heap.size))) hk (fun k hk => by have := HI.out.lt; omega); have HRr5 := Aside0.mk hR5; have hN9 : wr.heap.size ≤ w5.heap.size := hk.1; have HN9 := Aside0.mk hN9; clear hi hb hk hr f8 f0 hR5 hN9) | ((with_reducible refine gate_builtin (b := .append) (xs := #[.tmp 61, .tmp 63]) rfl ?_); at_builtin; refine Kd.R_append k24 (w0 := w5.alloc (.cells #[.int .u8 m.f0, .string m.f1, .int .i64 m.f2, .slice A3 m.f3.length cp3] 24)) w.heap.size rfl (.tmp 61) (.tmp 63) 22 24 (.agg #[(.int .u8 0), (.string ⟨#[]⟩), (.int .i64 0), (.slice none 0 0)]) 56 rfl Tryz.underlying22 info24 rfl (by decide) (by omega) (.slice A2 acc.length cp2) acc m [.int .u8 m.f0, .string m.f1, .int .i64 m.f2, .slice A3 m.f3.length cp3] (fun k => k ≠ w.heap.size ∧ k ≠ w4.heap.size ∧ k ≠ w5.heap.size) (fun k => wr.heap.size ≤ k ∧ k < w5.heap.size) rfl ?aX ?aP ?aK ?aF ?aO ?aB ?aS ?aL ?_; (case aX => simp [Act.eval]); (case aP => exact of_aP HR5.out HZw.out _); (case aK => exact fun k hk => ⟨⟨by have := HN8.out; have := HN8w.out; omega, by have := HN8w.out; omega, by omega⟩, fun e => by have := HRr5.out.1 k e.symm; omega⟩); (case aF => intro k hk; have hk2 : w5.heap.size + 1 ≤ k := (by simpa using hk); have := HZw.out; have := HN9.out; have := HN8w.out; exact ⟨by omega, by omega, by omega⟩); (case aO => exact Kd.R_mono (Kd.R_alloc HRr5.out _) (fun k hk => ⟨hk.1.1, hk.1.2, by have := HN9.out; omega⟩)); (case aB => exact Below.refl _ _); (case aS => have := HZw.out; have := HN9.out; simp; omega); (case aL => have := HAc.out; have := HJ.out; omega); intro v1 w6 ho hb hg hat; obtain ⟨A4, cp4, rfl⟩ := Kd.R_slice ho; have f8 := blk_grown (blk_alloc F8.out (.cells #[.int .u8 m.f0, .string m.f1, .int .i64 m.f2, .slice A3 m.f3.length cp3] 24)) hg (Kd.R_away HRr5.out (fun k hk => hk.1.2)); have f0 := blk_grown (blk_alloc F0.out (.cells #[.int .u8 m.f0, .string m.f1, .int .i64 m.f2, .slice A3 m.f3.length cp3] 24)) hg (Kd.R_away HRr5.out (fun k hk => hk.1.1)); rw [List.length_append, List.length_singleton] at ho; have hI6 := (HI5.out.alloc (.cells #[.int .u8 m.f0, .string m.f1, .int .i64 m.f2, .slice A3 m.f3.length cp3] 24)).grown hg (Kd.R_away HRr5.out (fun k hk => by have := HI.out.lt; omega)); have hB6 := (HB5.out.alloc HB5.out.size (.cells #[.int .u8 m.f0, .string m.f1, .int .i64 m.f2, .slice A3 m.f3.length cp3] 24)).trans (hb.mono HB.out.size); have hK6 := ((keep_alloc (HKr.out.trans HK5.out (.inl rfl)) (.cells #[.int .u8 m.f0, .string m.f1, .int .i64 m.f2, .slice A3 m.f3.length cp3] 24)).trans (KeepBut.of_grown hg g) (Kd.R_base2 HRr5.out)); have HI7 := Aside0.mk (hI6.far (p := ⟨w4.heap.size, 3, none⟩) (by have := HI.out.lt; have := HN8.out; simp only; omega) (.slice A4 (acc.length + 1) cp4)); have HB7 := Aside0.mk (hB6.setCell (p := ⟨w4.heap.size, 3, none⟩) (by have := HB.out.size; have := HN8.out; simp only; omega) (.slice A4 (acc.length + 1) cp4)); have HK7 := Aside0.mk (keep_far hK6 (p := ⟨w4.heap.size, 3, none⟩) (by have := HN8.out; simp only; omega) (.slice A4 (acc.length + 1) cp4)); have HO7 := Aside0.mk (Kd.R_far ho (p := ⟨w4.heap.size, 3, none⟩) (fun k hk => hk.2.1) (.slice A4 (acc.length + 1) cp4)); have G8 := Aside0.mk (blk_put f8 3 (.slice A4 (acc.length + 1) cp4) rfl); have G0 := Aside0.mk (blk_far f0 (p := ⟨w4.heap.size, 3, none⟩) (by have := HN8.out; simp only; omega) (.slice A4 (acc.length + 1) cp4)); have c3 := blk_cell f8 3; have d3 := blk_frozen f8 3; clear ho hb hg hat f8 f0 hI6 hB6 hK6) | (go_at_call 80; (refine (lics_reader_sign.calls g toks cs _ (dp + 1) ⟨#[44]⟩ false _ (dp + 1) w0 _ HI7.out HB7.out HS.out).mono ?_); rintro e_ w8 ⟨rfl, hi, hb, hk⟩; have f8 := hk.blk G8.out (by have := HI.out.lt; have := HN8.out; omega) (by simp); have f0 := hk.blk G0.out (by have := HI.out.lt; omega) (by simp); have hr8 := Kd.R_keep (Kd.R_mono (Kd.R_bound HO7.out) (fun k hk => (⟨⟨hk.1.1, hk.1.2.1⟩, hk.2.1⟩ : (k ≠ w.heap.size ∧ k ≠ w4.heap.size) ∧ w.heap.size ≤ k))) hk (fun k hk => by have := HI.out.lt; omega); have HI8 := Aside0.mk hi; have HB8 := Aside0.mk hb; have HK8 := Aside0.mk (HK7.out.trans hk (.inl rfl)); have HR8 := Aside0.mk (Kd.R_mono hr8 (fun k hk => hk.1)); have g8 := blk_cell f8 3; have J8 := Aside0.mk f8; have J0 := Aside0.mk f0; obtain ⟨A0', c0', A1', c1', hG, -, -, -⟩ := hi; have gg2 := cellS67_2 hG; have ggf := blk_frozen hG 2; clear f8 f0 hb hk hr8 hG))
      have ge0 := blk_cell J8.out 0
      have ge1 := blk_cell J8.out 1
      have ge2 := blk_cell J8.out 2
      clear gg2 ggf
      go_region_with (first | (go_at_call 108; (refine (lics_reader_leave.calls g toks cs _ (dp + 1) er n (dp + 1) w0 _ (IsS67.drew HI8.out) (below_drew1 HB8.out) HLv.out).mono ?_); rintro e_ w9 ⟨rfl, hi, hb, hk⟩; have f8 := hk.blk (blk_drew J8.out) (by have := HI.out.lt; have := HN8.out; omega) (by simp); have f0 := hk.blk (blk_drew J0.out) (by have := HI.out.lt; omega) (by simp); have hr9 := Kd.R_keep (Kd.R_drew (Kd.R_mono (Kd.R_bound HR8.out) (fun k hk => (⟨hk.1, hk.2.1⟩ : (k ≠ w.heap.size ∧ k ≠ w4.heap.size) ∧ w.heap.size ≤ k)))) hk (fun k hk => by have := HI.out.lt; omega); have HI9 := Aside0.mk hi; have HB9 := Aside0.mk hb; have HK9 := Aside0.mk ((keep_drew HK8.out).trans hk (.inl rfl)); have HR9 := Aside0.mk (Kd.R_mono hr9 (fun k hk => hk.1.1)); have ga0 := blk_cell f8 0; have ga1 := blk_cell f8 1; have ga2 := blk_cell f8 2; have ga3 := blk_cell f8 3; have gb0 := blk_cell f0 0; have gb1 := blk_cell f0 1; have gb2 := blk_cell f0 2; have gb3 := blk_cell f0 3; have gc0 := blk_frozen f0 0; have gc1 := blk_frozen f0 1; have gc2 := blk_frozen f0 2; have gc3 := blk_frozen f0 3; have J9 := Aside0.mk f0; clear f8 f0 hi hb hk hr9))
      all_goals go_wp2_with (fail)
      all_goals (obtain ⟨o1, o2, o3, o5⟩ := lic_bad HI9.out HB9.out HK9.out J9.out HB.out.size HI.out.lt (.int .u8 4) (.string ⟨#[]⟩) (.int .i64 kk) (.slice A4 (acc.length + 1) cp4); have e0 := blk_cell o5 0; have e1 := blk_cell o5 1; have e2 := blk_cell o5 2; have e3 := blk_cell o5 3; refine bodyPost_ret (v := .tuple #[.agg #[.int .u8 4, .string ⟨#[]⟩, .int .i64 kk, .slice A4 (acc.length + 1) cp4], .int .i64 er]) ?_ rfl ⟨4, ⟨#[]⟩, kk, A4, acc.length + 1, cp4, er, n, dp + 1, rfl, HEr.out, HJL.out, o1, o2, o3⟩; simp [results, Tryz.results104, go_sem, e0, e1, e2, e3])
    | more hj hk hjk hp hs hr =>
      rename_i jn m k
      have HP2 := Aside0.mk hp
      have HS := Aside0.mk hs
      have HJ := Aside0.mk hj
      have HKlt := Aside0.mk hk
      have HJk := Aside0.mk hjk
      have HRr := Aside0.mk hr
      have q5 : IntKind.i64.wrap ((k : Int) + 1) = (k : Int) + 1 := IntWalk.i64_in _ (by omega)
      clear hI hB hK hR hb8 hb0 hp hs hj hac hk hjk hr
      go_wp2_with (first | (go_at_call 36; (refine (HP2.out g w0 _ HIr.out HBr.out).mono ?_); rintro e_ w5 ⟨v2, rfl, hi, hb, hk, hr⟩; obtain ⟨A3, cp3, rfl⟩ := Kd.R_slice hr; have HI5 := Aside0.mk hi; have HB5 := Aside0.mk hb; have HK5 := Aside0.mk hk; have HR5 := Aside0.mk hr; have f8 := hk.blk Hb8.out (by have := HI.out.lt; have := HN8.out; omega) (by simp); have f0 := hk.blk Hb0.out (by have := HI.out.lt; omega) (by simp); have a3 := fun o => blk_cell (blk_alloc f8 o) 3; have F8 := Aside0.mk f8; have F0 := Aside0.mk f0; have hR5 := Kd.R_keep (Kd.R_mono (Kd.R_bound HR.out) (fun k hk => (⟨hk.1, hk.2.1, hk.2.2.1⟩ : (k ≠ w.heap.size ∧ k ≠ w4.heap.size) ∧ w.heap.size ≤ k ∧ k < wr.heap.size))) hk (fun k hk => by have := HI.out.lt; omega); have HRr5 := Aside0.mk hR5; have hN9 : wr.heap.size ≤ w5.heap.size := hk.1; have HN9 := Aside0.mk hN9; clear hi hb hk hr f8 f0 hR5 hN9) | ((with_reducible refine gate_builtin (b := .append) (xs := #[.tmp 61, .tmp 63]) rfl ?_); at_builtin; refine Kd.R_append k24 (w0 := w5.alloc (.cells #[.int .u8 m.f0, .string m.f1, .int .i64 m.f2, .slice A3 m.f3.length cp3] 24)) w.heap.size rfl (.tmp 61) (.tmp 63) 22 24 (.agg #[(.int .u8 0), (.string ⟨#[]⟩), (.int .i64 0), (.slice none 0 0)]) 56 rfl Tryz.underlying22 info24 rfl (by decide) (by omega) (.slice A2 acc.length cp2) acc m [.int .u8 m.f0, .string m.f1, .int .i64 m.f2, .slice A3 m.f3.length cp3] (fun k => k ≠ w.heap.size ∧ k ≠ w4.heap.size ∧ k ≠ w5.heap.size) (fun k => wr.heap.size ≤ k ∧ k < w5.heap.size) rfl ?aX ?aP ?aK ?aF ?aO ?aB ?aS ?aL ?_; (case aX => simp [Act.eval]); (case aP => exact of_aP HR5.out HZw.out _); (case aK => exact fun k hk => ⟨⟨by have := HN8.out; have := HN8w.out; omega, by have := HN8w.out; omega, by omega⟩, fun e => by have := HRr5.out.1 k e.symm; omega⟩); (case aF => intro k hk; have hk2 : w5.heap.size + 1 ≤ k := (by simpa using hk); have := HZw.out; have := HN9.out; have := HN8w.out; exact ⟨by omega, by omega, by omega⟩); (case aO => exact Kd.R_mono (Kd.R_alloc HRr5.out _) (fun k hk => ⟨hk.1.1, hk.1.2, by have := HN9.out; omega⟩)); (case aB => exact Below.refl _ _); (case aS => have := HZw.out; have := HN9.out; simp; omega); (case aL => have := HAc.out; have := HJ.out; omega); intro v1 w6 ho hb hg hat; obtain ⟨A4, cp4, rfl⟩ := Kd.R_slice ho; have f8 := blk_grown (blk_alloc F8.out (.cells #[.int .u8 m.f0, .string m.f1, .int .i64 m.f2, .slice A3 m.f3.length cp3] 24)) hg (Kd.R_away HRr5.out (fun k hk => hk.1.2)); have f0 := blk_grown (blk_alloc F0.out (.cells #[.int .u8 m.f0, .string m.f1, .int .i64 m.f2, .slice A3 m.f3.length cp3] 24)) hg (Kd.R_away HRr5.out (fun k hk => hk.1.1)); rw [List.length_append, List.length_singleton] at ho; have hI6 := (HI5.out.alloc (.cells #[.int .u8 m.f0, .string m.f1, .int .i64 m.f2, .slice A3 m.f3.length cp3] 24)).grown hg (Kd.R_away HRr5.out (fun k hk => by have := HI.out.lt; omega)); have hB6 := (HB5.out.alloc HB5.out.size (.cells #[.int .u8 m.f0, .string m.f1, .int .i64 m.f2, .slice A3 m.f3.length cp3] 24)).trans (hb.mono HB.out.size); have hK6 := ((keep_alloc (HKr.out.trans HK5.out (.inl rfl)) (.cells #[.int .u8 m.f0, .string m.f1, .int .i64 m.f2, .slice A3 m.f3.length cp3] 24)).trans (KeepBut.of_grown hg g) (Kd.R_base2 HRr5.out)); have HI7 := Aside0.mk (hI6.far (p := ⟨w4.heap.size, 3, none⟩) (by have := HI.out.lt; have := HN8.out; simp only; omega) (.slice A4 (acc.length + 1) cp4)); have HB7 := Aside0.mk (hB6.setCell (p := ⟨w4.heap.size, 3, none⟩) (by have := HB.out.size; have := HN8.out; simp only; omega) (.slice A4 (acc.length + 1) cp4)); have HK7 := Aside0.mk (keep_far hK6 (p := ⟨w4.heap.size, 3, none⟩) (by have := HN8.out; simp only; omega) (.slice A4 (acc.length + 1) cp4)); have HO7 := Aside0.mk (Kd.R_far ho (p := ⟨w4.heap.size, 3, none⟩) (fun k hk => hk.2.1) (.slice A4 (acc.length + 1) cp4)); have G8 := Aside0.mk (blk_put f8 3 (.slice A4 (acc.length + 1) cp4) rfl); have G0 := Aside0.mk (blk_far f0 (p := ⟨w4.heap.size, 3, none⟩) (by have := HN8.out; simp only; omega) (.slice A4 (acc.length + 1) cp4)); have c3 := blk_cell f8 3; have d3 := blk_frozen f8 3; clear ho hb hg hat f8 f0 hI6 hB6 hK6) | (go_at_call 80; (refine (lics_reader_sign.calls g toks cs _ (dp + 1) ⟨#[44]⟩ true _ (dp + 1) w0 _ HI7.out HB7.out HS.out).mono ?_); rintro e_ w8 ⟨rfl, hi, hb, hk⟩; have f8 := hk.blk G8.out (by have := HI.out.lt; have := HN8.out; omega) (by simp); have f0 := hk.blk G0.out (by have := HI.out.lt; omega) (by simp); have hr8 := Kd.R_keep (Kd.R_mono (Kd.R_bound HO7.out) (fun k hk => (⟨⟨hk.1.1, hk.1.2.1⟩, hk.2.1⟩ : (k ≠ w.heap.size ∧ k ≠ w4.heap.size) ∧ w.heap.size ≤ k))) hk (fun k hk => by have := HI.out.lt; omega); have HI8 := Aside0.mk hi; have HB8 := Aside0.mk hb; have HK8 := Aside0.mk (HK7.out.trans hk (.inl rfl)); have HR8 := Aside0.mk (Kd.R_mono hr8 (fun k hk => hk.1)); have g8 := blk_cell f8 3; have J8 := Aside0.mk f8; have J0 := Aside0.mk f0; obtain ⟨A0', c0', A1', c1', hG, -, -, -⟩ := hi; have gg2 := cellS67_2 hG; have ggf := blk_frozen hG 2; clear f8 f0 hb hk hr8 hG))
      have hI9 := HI8.out.set_2 ((k : Int) + 1)
      refine ⟨⟨acc ++ [m], (k : Int) + 1, .slice A4 (acc.length + 1) cp4, HRr.out, ?_, hI9, HB8.out.setCell HI.out.ge _, HK8.out.set_ _ _, blk_far J8.out (by have := HI.out.lt; have := HN8.out; simp only; omega) _, blk_far J0.out (by have := HI.out.lt; simp only; omega) _, ?_⟩, ?_⟩
      · have := HAc.out; have := HJk.out; simp; omega
      · exact Kd.R_mono (Kd.R_far (Kd.R_mono (Kd.R_bound HR8.out) (fun k hk => (⟨hk.1, hk.2.1⟩ : (k ≠ w.heap.size ∧ k ≠ w4.heap.size) ∧ w.heap.size ≤ k))) (fun k hk => by have := HI.out.lt; simp only; omega) _) (fun k hk => hk.1)
      · rw [hI9.at_eq, HIr.out.at_eq]
        have := HJk.out
        have := HKlt.out
        omega
end Go.Proofs.YtjapfefiaijfcaaGreatDoor.Q
namespace Go.Proofs.YtjapfefiaijfcaaGreatDoor.Q
open Go.RowKit Go.Proofs.YtjapfefiaijfcaaGreatDoorW.PrintWords Go.Proofs.YtjapfefiaijfcaaGreatDoorW.PrintLast Go.Proofs.YtjapfefiaijfcaaGreatDoorW.PrintMore
set_option linter.unusedVariables false
set_option maxHeartbeats 8000000 in
set_option maxRecDepth 100000 in
theorem lics_all_of.calls (toks : List S70) (cs : List S138) (i dp : Int) (hC : ∀ (g : Nat) (w0 w : World), IsS67 w0 w g toks cs i dp → Below w0.heap.size w0 w → Calls Tryz.prog 58 #[.pointer (some ⟨g, 0, none⟩), .string ⟨#[38, 38]⟩, .int .u8 2, .func (.func 81) #[.pointer (some ⟨g, 0, none⟩)] #[]] w (LicBad g w0 w toks cs)) : PartNo toks cs 59 i dp := by
  intro g w0 w hI hB
  have HI := Aside0.mk hI
  have HB := Aside0.mk hB
  have HC := Aside0.mk hC
  clear hI hB hC
  go_enter Tryz.func59, Tryz.ntmps59
  go_wp2_with (fail)
  go_at_call 58
  refine (HC.out g w0 _ (HI.out.alloc _) (HB.out.alloc HB.out.size _)).mono ?_
  rintro e_ w1 ⟨a, b, c, A, n, cap, er, j, dp1, rfl, her, hj, hi, hb, hk⟩
  have HI1 := Aside0.mk hi
  have HB1 := Aside0.mk hb
  have HK1 := Aside0.mk hk
  have HEr := Aside0.mk her
  have HJ := Aside0.mk hj
  have hr0 : w1.heap[w.heap.size]? = some (.cells #[.int .u8 0, .string ⟨#[]⟩, .int .i64 0, .slice none 0 0] 24 (0, 0)) := HK1.out.blk (blk_new w _) (by have := HI.out.lt; omega) (by simp)
  have HR0 := Aside0.mk hr0
  have d0 := blk_cell hr0 0
  have d1 := blk_cell hr0 1
  have d2 := blk_cell hr0 2
  have d3 := blk_cell hr0 3
  have k0 := blk_frozen hr0 0
  have k1 := blk_frozen hr0 1
  have k2 := blk_frozen hr0 2
  have k3 := blk_frozen hr0 3
  clear her hj hi hb hk hr0
  go_wp2_with (fail)
  have hkw := (keep_alloc (KeepBut.refl w g none) (.cells #[.int .u8 0, .string ⟨#[]⟩, .int .i64 0, .slice none 0 0] 24)).trans HK1.out (.inl rfl)
  obtain ⟨o1, o2, o3, o5⟩ := lic_bad HI1.out HB1.out hkw HR0.out HB.out.size HI.out.lt (.int .u8 a) (.string b) (.int .i64 c) (.slice A n cap)
  have e0 := blk_cell o5 0
  have e1 := blk_cell o5 1
  have e2 := blk_cell o5 2
  have e3 := blk_cell o5 3
  refine bodyPost_ret (v := .tuple #[.agg #[.int .u8 a, .string b, .int .i64 c, .slice A n cap], .int .i64 er]) ?_ rfl ⟨a, b, c, A, n, cap, er, j, dp1, rfl, HEr.out, HJ.out, o1, o2, o3⟩
  simp [results, Tryz.results59, go_sem, e0, e1, e2, e3]
theorem lics_all_no.calls (toks : List S70) (cs : List S138) (i dp : Int) (hP : PartNo toks cs 81 i dp) : PartNo toks cs 59 i dp := lics_all_of.calls toks cs i dp (fun g w0 w hI hB => lics_chain_81_no.calls toks cs ⟨#[38, 38]⟩ 2 i dp hP g w0 w hI hB)
theorem lics_all_bad.calls (toks : List S70) (cs : List S138) (hm : toks.length ≤ 8192) (i dp : Int) (l : S24) (j : Nat) (hP : PartOK toks cs 81 i dp l j) (hC : ChainBad toks cs 81 ⟨#[38, 38]⟩ dp j) : PartNo toks cs 59 i dp := lics_all_of.calls toks cs i dp (fun g w0 w hI hB => lics_chain_81_bad.calls toks cs hm ⟨#[38, 38]⟩ 2 i dp l j hP hC g w0 w hI hB)
set_option maxHeartbeats 8000000 in
set_option maxRecDepth 100000 in
theorem lics_some_of.calls (toks : List S70) (cs : List S138) (i dp : Int) (hC : ∀ (g : Nat) (w0 w : World), IsS67 w0 w g toks cs i dp → Below w0.heap.size w0 w → Calls Tryz.prog 58 #[.pointer (some ⟨g, 0, none⟩), .string ⟨#[124, 124]⟩, .int .u8 3, .func (.func 59) #[.pointer (some ⟨g, 0, none⟩)] #[]] w (LicBad g w0 w toks cs)) : PartNo toks cs 36 i dp := by
  intro g w0 w hI hB
  have HI := Aside0.mk hI
  have HB := Aside0.mk hB
  have HC := Aside0.mk hC
  clear hI hB hC
  go_enter Tryz.func36, Tryz.ntmps36
  go_wp2_with (fail)
  go_at_call 58
  refine (HC.out g w0 _ (HI.out.alloc _) (HB.out.alloc HB.out.size _)).mono ?_
  rintro e_ w1 ⟨a, b, c, A, n, cap, er, j, dp1, rfl, her, hj, hi, hb, hk⟩
  have HI1 := Aside0.mk hi
  have HB1 := Aside0.mk hb
  have HK1 := Aside0.mk hk
  have HEr := Aside0.mk her
  have HJ := Aside0.mk hj
  have hr0 : w1.heap[w.heap.size]? = some (.cells #[.int .u8 0, .string ⟨#[]⟩, .int .i64 0, .slice none 0 0] 24 (0, 0)) := HK1.out.blk (blk_new w _) (by have := HI.out.lt; omega) (by simp)
  have HR0 := Aside0.mk hr0
  have d0 := blk_cell hr0 0
  have d1 := blk_cell hr0 1
  have d2 := blk_cell hr0 2
  have d3 := blk_cell hr0 3
  have k0 := blk_frozen hr0 0
  have k1 := blk_frozen hr0 1
  have k2 := blk_frozen hr0 2
  have k3 := blk_frozen hr0 3
  clear her hj hi hb hk hr0
  go_wp2_with (fail)
  have hkw := (keep_alloc (KeepBut.refl w g none) (.cells #[.int .u8 0, .string ⟨#[]⟩, .int .i64 0, .slice none 0 0] 24)).trans HK1.out (.inl rfl)
  obtain ⟨o1, o2, o3, o5⟩ := lic_bad HI1.out HB1.out hkw HR0.out HB.out.size HI.out.lt (.int .u8 a) (.string b) (.int .i64 c) (.slice A n cap)
  have e0 := blk_cell o5 0
  have e1 := blk_cell o5 1
  have e2 := blk_cell o5 2
  have e3 := blk_cell o5 3
  refine bodyPost_ret (v := .tuple #[.agg #[.int .u8 a, .string b, .int .i64 c, .slice A n cap], .int .i64 er]) ?_ rfl ⟨a, b, c, A, n, cap, er, j, dp1, rfl, HEr.out, HJ.out, o1, o2, o3⟩
  simp [results, Tryz.results36, go_sem, e0, e1, e2, e3]
theorem lics_some_no.calls (toks : List S70) (cs : List S138) (i dp : Int) (hP : PartNo toks cs 59 i dp) : PartNo toks cs 36 i dp := lics_some_of.calls toks cs i dp (fun g w0 w hI hB => lics_chain_59_no.calls toks cs ⟨#[124, 124]⟩ 3 i dp hP g w0 w hI hB)
theorem lics_some_bad.calls (toks : List S70) (cs : List S138) (hm : toks.length ≤ 8192) (i dp : Int) (l : S24) (j : Nat) (hP : PartOK toks cs 59 i dp l j) (hC : ChainBad toks cs 59 ⟨#[124, 124]⟩ dp j) : PartNo toks cs 36 i dp := lics_some_of.calls toks cs i dp (fun g w0 w hI hB => lics_chain_59_bad.calls toks cs hm ⟨#[124, 124]⟩ 3 i dp l j hP hC g w0 w hI hB)
end Go.Proofs.YtjapfefiaijfcaaGreatDoor.Q
