/- The parser: so many of some parts. The parser: one part that is such a count. The contract of Parse at the closed body; the short call answers: works is true. -/
import Derived.Test.YtjapfefiaijfcaaGreatDoorQx0
import Derived.Test.YtjapfefiaijfcaaGreatDoorQx4
import Derived.Test.YtjapfefiaijfcaaGreatDoorT9
import Derived.Test.YtjapfefiaijfcaaGreatDoorSh
import Derived.BigRegion
import Derived.Deep.RegionHeld3
namespace Go.Proofs.YtjapfefiaijfcaaGreatDoor.Q
open Go.RowKit Go.Proofs.YtjapfefiaijfcaaGreatDoorW.PrintWords Go.Proofs.YtjapfefiaijfcaaGreatDoorW.PrintLast Go.Proofs.YtjapfefiaijfcaaGreatDoorW.PrintMore
set_option linter.unusedVariables false
theorem blk_below {w W : World} {b : Nat} {o : Obj} (h : w.heap[b]? = some o) (hb : Below w.heap.size w W) : W.heap[b]? = some o := (hb.block b (blk_lt h)).trans h
theorem of_aP {w5 : World} {m : S24} {b B : Nat} {v : Value} (h : Kd.R k24 24 w5 B (fun _ => True) v m.f3) (hB : b ≤ B) (o : Obj) : Kd.M k24 (w5.alloc o) b (fun k => B ≤ k ∧ k < w5.heap.size) m [.int .u8 m.f0, .string m.f1, .int .i64 m.f2, v] := k24_mkM _ _ _ _ (Kd.R_alloc (Kd.R_lower (Kd.R_mono (Kd.R_bound h) (fun k hk => ⟨hk.2.1, hk.2.2.1⟩)) hB) o)
/-- Parts with a comma between, behind the parts that were read. -/
inductive OfArgs (toks : List S70) (cs : List S138) (dp : Int) : List S24 → Int → List S24 → Int → Prop
  | last (acc : List S24) (i : Nat) (m : S24) (j : Int) : i < toks.length → PartOK toks cs 36 i dp m j → lics_reader_sign.f toks cs j dp ⟨#[44]⟩ = some (false, j, dp) → OfArgs toks cs dp acc i (acc ++ [m]) j
  | more (acc : List S24) (i : Nat) (m : S24) (j : Nat) (res : List S24) (n : Int) : i < toks.length → j < toks.length → i ≤ j → PartOK toks cs 36 i dp m j → lics_reader_sign.f toks cs j dp ⟨#[44]⟩ = some (true, (j : Int), dp) → OfArgs toks cs dp (acc ++ [m]) ((j : Int) + 1) res n → OfArgs toks cs dp acc i res n
set_option maxHeartbeats 8000000 in
set_option maxRecDepth 100000 in
theorem lics_of.calls (toks : List S70) (cs : List S138) (hm : toks.length ≤ 8192) (i : Nat) (dp : Int) (x : S70) (d : ByteArray) (kk : Int) (res : List S24) (n n2 : Int) (hi : i + 2 < toks.length) (hx : x = rd_T70 toks i) (hd : d = ⟨(Lib.trimLeftB x.f1.data.toList 48).toArray⟩) (hd0 : d.toList ≠ []) (hd4 : d.size ≤ 4)
    (ha : Lib.atoi d.data.toList = some kk) (hE : lics_reader_enter.f toks cs ((i : Int) + 1) dp = some (0, (i : Int) + 2, dp + 1)) (hA : OfArgs toks cs (dp + 1) [] ((i : Int) + 2) res n) (hk : kk ≤ res.length) (hL : lics_reader_leave.f toks cs n (dp + 1) = some (0, n2, dp)) :
    PartOK toks cs 104 i dp ⟨4, ⟨#[]⟩, kk, res⟩ n2 := by
  intro g w0 w hI hB
  have HI := Aside0.mk hI
  have HB := Aside0.mk hB
  have HX := Aside0.mk hx
  have HD := Aside0.mk hd
  have HD4 := Aside0.mk hd4
  have HA := Aside0.mk ha
  have HE := Aside0.mk hE
  have HAr := Aside0.mk hA
  have HKk := Aside0.mk hk
  have HLv := Aside0.mk hL
  have q4 : IntKind.i64.wrap ((i : Int) + 1) = (i : Int) + 1 := IntWalk.i64_in _ (by omega)
  obtain ⟨A0, c0, A1, c1, hG, hge, hS0, hS1⟩ := hI
  obtain ⟨ad, e0, x0, x1, x2, x3⟩ := at_T70 hS0 (i : Int) (by omega) (by omega)
  subst e0
  rw [← hx] at x1
  replace x1 := pw_cell_below hB x1
  rw [Int.toNat_natCast] at x1
  have p1 : (0 ≤ (i : Int)) = True := eq_true (by omega)
  have p2 : ((i : Int) < (toks.length : Int)) = True := eq_true (by omega)
  have p3 : (i < toks.length) = True := eq_true (by omega)
  have g0 := cellS67_0 hG
  have g2 := cellS67_2 hG
  have gf := blk_frozen hG 2
  have up : ∀ (o : Obj) {a : Addr} {v : Value}, w.cell? a = some v → (w.alloc o).cell? a = some v := fun o {a} {v} h => pw_cell_below ((Below.refl _ w).alloc (Nat.le_refl _) o) h
  have m0 := fun o => up o g0
  have m2 := fun o => up o g2
  have y1 := fun o => up o x1
  have t1 : (d.toList = []) = False := eq_false hd0
  have t2 : (d.toList == []) = false := beq_eq_false_iff_ne.mpr hd0
  have b2 : decide ((4 : Int) < (d.size : Int)) = false := decide_eq_false (by omega)
  have b3 : decide (4 < d.size) = false := decide_eq_false (by omega)
  have HG := Aside0.mk hG
  clear hd0 up hG hge hS0 hS1 hB hx x0 x1 x2 x3 g0 g2 hd hd4 ha hE hA hk hL hi
  go_enter Tryz.func104, Tryz.ntmps104
  go_wp2_with (fail)
  go_quiet ((refine (Tryz.strings_TrimLeft_one _ 48 (by decide) _).mono ?_; rintro e_ w_ ⟨rfl, rfl⟩; exact ⟨by rw [← HD.out], _, rfl⟩))
  generalize hW2 : (w.alloc (.cells #[.int .u8 0, .string ⟨#[]⟩, .int .i64 0, .slice none 0 0] 24)).drewN _ = W2
  have B2 : Below w.heap.size w W2 := by rw [← hW2]; exact pw_below_drewN ((Below.refl _ w).alloc (Nat.le_refl _) _) _
  have s2 : W2.heap.size = w.heap.size + 1 := by rw [← hW2]; simp
  have b2 : W2.heap[w.heap.size]? = some (.cells #[.int .u8 0, .string ⟨#[]⟩, .int .i64 0, .slice none 0 0] 24 (0, 0)) := by rw [← hW2]; exact blk_drewN (blk_new w _) _
  have HS2 := Aside0.mk s2
  have HB2 := Aside0.mk B2
  have Hb2 := Aside0.mk b2
  clear s2 B2 b2 hW2 m0 m2 y1 gf
  go_wp2_with (first | (go_at_call 124; refine (Tryz.strconv_Atoi d kk (by have := HD4.out; omega) HA.out _).mono ?_; rintro e_ w3 ⟨rfl, t, hw3⟩; have hb3 : Below W2.heap.size W2 w3 := (by rw [hw3]; exact bytes_below (Below.refl _ _) (Nat.le_refl _) 5 t); have bw3 := HB2.out.trans (hb3.mono (by have := HS2.out; omega)); have Hb3 := Aside0.mk (blk_below Hb2.out hb3); have HI3 := Aside0.mk (HI.out.below bw3); have HBw3 := Aside0.mk bw3; have g2 := cellS67_2 ((bw3.block g HI.out.lt).trans HG.out); have gf := blk_frozen ((bw3.block g HI.out.lt).trans HG.out) 2; clear hw3 hb3 bw3) | (go_at_call 107; (refine (lics_reader_enter.calls g toks cs ((i : Int) + 1) dp 0 ((i : Int) + 2) (dp + 1) w0 _ (HI3.out.set_2 _) ((HB.out.trans (HBw3.out.mono HB.out.size)).setCell HI.out.ge _) HE.out).mono ?_); rintro e_ w4 ⟨rfl, hi, hb, hk⟩; have b4 := hk.blk (blk_far Hb3.out (p := ⟨g, 2, none⟩) (by have := HI.out.lt; simp only; omega) (.int .i64 ((i : Int) + 1))) (by have := HI.out.lt; omega) (by simp); have Hb4 := Aside0.mk b4; have HI4 := Aside0.mk hi; have HB4 := Aside0.mk hb; have HK4 := Aside0.mk (((KeepBut.of_below HBw3.out g none).set_ _ _).trans hk (.inl rfl)); clear b4 hi hb hk g2 gf))
  have hz4 : w.heap.size + 1 ≤ w4.heap.size := by have q := blk_lt Hb4.out; omega
  have HN8 := Aside0.mk hz4
  clear hz4
  go_loopw [] (fun wr => ∃ (acc : List S24) (j : Int) (v : Value), OfArgs toks cs (dp + 1) acc j res n ∧ (acc.length : Int) ≤ j ∧ IsS67 w0 wr g toks cs j (dp + 1) ∧ Below w0.heap.size w0 wr ∧ KeepBut w wr g none ∧ wr.heap[w4.heap.size]? = some (.cells #[.int .u8 4, .string ⟨#[]⟩, .int .i64 kk, v] 24 (0, 0)) ∧ wr.heap[w.heap.size]? = some (.cells #[.int .u8 0, .string ⟨#[]⟩, .int .i64 0, .slice none 0 0] 24 (0, 0)) ∧ Kd.R k24 24 wr w.heap.size (fun k => k ≠ w.heap.size ∧ k ≠ w4.heap.size) v acc) (fun wr => (8192 - rdAt wr g).toNat)
  case atStart =>
    exact ⟨[], (i : Int) + 2, .slice none 0 0, HAr.out, by simp; omega, HI4.out.alloc _, HB4.out.alloc HB4.out.size _, keep_alloc HK4.out _, blk_new _ _, blk_alloc Hb4.out _, Kd.R_nil _ _ _ _ _⟩
  case round =>
    obtain ⟨acc, j, v, hA, hac, hI, hB, hK, hb8, hb0, hR⟩ := hrel
    obtain ⟨A2, cp2, rfl⟩ := Kd.R_slice hR
    have HIr := Aside0.mk hI
    have HBr := Aside0.mk hB
    have HKr := Aside0.mk hK
    have HR := Aside0.mk hR
    have Hb8 := Aside0.mk hb8
    have Hb0 := Aside0.mk hb0
    have HAc := Aside0.mk hac
    have HZw := Aside0.mk hK.1
    have HN8w := Aside0.mk (blk_lt hb8)
    cases hA with
    | last _ j m n hj hp hs =>
      have HP2 := Aside0.mk hp
      have HS := Aside0.mk hs
      have HJ := Aside0.mk hj
      have hlen : ((acc ++ [m]).length : Int) = (acc.length : Int) + 1 := by simp
      have hkk := HKk.out
      rw [hlen] at hkk
      have u1 : decide ((acc.length : Int) + 1 < kk) = false := decide_eq_false (by omega)
      clear hlen hkk
      clear hI hB hK hR hb8 hb0 hp hs hj hac
      go_wp2_with (first | (go_at_call 36; (refine (HP2.out g w0 _ HIr.out HBr.out).mono ?_); rintro e_ w5 ⟨v2, rfl, hi, hb, hk, hr⟩; obtain ⟨A3, cp3, rfl⟩ := Kd.R_slice hr; have HI5 := Aside0.mk hi; have HB5 := Aside0.mk hb; have HK5 := Aside0.mk hk; have HR5 := Aside0.mk hr; have f8 := hk.blk Hb8.out (by have := HI.out.lt; have := HN8.out; omega) (by simp); have f0 := hk.blk Hb0.out (by have := HI.out.lt; omega) (by simp); have a3 := fun o => blk_cell (blk_alloc f8 o) 3; have F8 := Aside0.mk f8; have F0 := Aside0.mk f0; have hR5 := Kd.R_keep (Kd.R_mono (Kd.R_bound HR.out) (fun k hk => (⟨hk.1, hk.2.1, hk.2.2.1⟩ : (k ≠ w.heap.size ∧ k ≠ w4.heap.size) ∧ w.heap.size ≤ k ∧ k < wr.heap.size))) hk (fun k hk => by have := HI.out.lt; omega); have HRr5 := Aside0.mk hR5; have hN9 : wr.heap.size ≤ w5.heap.size := hk.1; have HN9 := Aside0.mk hN9; clear hi hb hk hr f8 f0 hR5 hN9) | ((with_reducible refine gate_builtin (b := .append) (xs := #[.tmp 61, .tmp 63]) rfl ?_); at_builtin; refine Kd.R_append k24 (w0 := w5.alloc (.cells #[.int .u8 m.f0, .string m.f1, .int .i64 m.f2, .slice A3 m.f3.length cp3] 24)) w.heap.size rfl (.tmp 61) (.tmp 63) 22 24 (.agg #[(.int .u8 0), (.string ⟨#[]⟩), (.int .i64 0), (.slice none 0 0)]) 56 rfl Tryz.underlying22 info24 rfl (by decide) (by omega) (.slice A2 acc.length cp2) acc m [.int .u8 m.f0, .string m.f1, .int .i64 m.f2, .slice A3 m.f3.length cp3] (fun k => k ≠ w.heap.size ∧ k ≠ w4.heap.size ∧ k ≠ w5.heap.size) (fun k => wr.heap.size ≤ k ∧ k < w5.heap.size) rfl ?aX ?aP ?aK ?aF ?aO ?aB ?aS ?aL ?_; (case aX => simp [Act.eval]); (case aP => exact of_aP HR5.out HZw.out _); (case aK => exact fun k hk => ⟨⟨by have := HN8.out; have := HN8w.out; omega, by have := HN8w.out; omega, by omega⟩, fun e => by have := HRr5.out.1 k e.symm; omega⟩); (case aF => intro k hk; have hk2 : w5.heap.size + 1 ≤ k := (by simpa using hk); have := HZw.out; have := HN9.out; have := HN8w.out; exact ⟨by omega, by omega, by omega⟩); (case aO => exact Kd.R_mono (Kd.R_alloc HRr5.out _) (fun k hk => ⟨hk.1.1, hk.1.2, by have := HN9.out; omega⟩)); (case aB => exact Below.refl _ _); (case aS => have := HZw.out; have := HN9.out; simp; omega); (case aL => have := HAc.out; have := HJ.out; omega); intro v1 w6 ho hb hg hat; obtain ⟨A4, cp4, rfl⟩ := Kd.R_slice ho; have f8 := blk_grown (blk_alloc F8.out (.cells #[.int .u8 m.f0, .string m.f1, .int .i64 m.f2, .slice A3 m.f3.length cp3] 24)) hg (Kd.R_away HRr5.out (fun k hk => hk.1.2)); have f0 := blk_grown (blk_alloc F0.out (.cells #[.int .u8 m.f0, .string m.f1, .int .i64 m.f2, .slice A3 m.f3.length cp3] 24)) hg (Kd.R_away HRr5.out (fun k hk => hk.1.1)); rw [List.length_append, List.length_singleton] at ho; have hI6 := (HI5.out.alloc (.cells #[.int .u8 m.f0, .string m.f1, .int .i64 m.f2, .slice A3 m.f3.length cp3] 24)).grown hg (Kd.R_away HRr5.out (fun k hk => by have := HI.out.lt; omega)); have hB6 := (HB5.out.alloc HB5.out.size (.cells #[.int .u8 m.f0, .string m.f1, .int .i64 m.f2, .slice A3 m.f3.length cp3] 24)).trans (hb.mono HB.out.size); have hK6 := ((keep_alloc (HKr.out.trans HK5.out (.inl rfl)) (.cells #[.int .u8 m.f0, .string m.f1, .int .i64 m.f2, .slice A3 m.f3.length cp3] 24)).trans (KeepBut.of_grown hg g) (Kd.R_base2 HRr5.out)); have HI7 := Aside0.mk (hI6.far (p := ⟨w4.heap.size, 3, none⟩) (by have := HI.out.lt; have := HN8.out; simp only; omega) (.slice A4 (acc.length + 1) cp4)); have HB7 := Aside0.mk (hB6.setCell (p := ⟨w4.heap.size, 3, none⟩) (by have := HB.out.size; have := HN8.out; simp only; omega) (.slice A4 (acc.length + 1) cp4)); have HK7 := Aside0.mk (keep_far hK6 (p := ⟨w4.heap.size, 3, none⟩) (by have := HN8.out; simp only; omega) (.slice A4 (acc.length + 1) cp4)); have HO7 := Aside0.mk (Kd.R_far ho (p := ⟨w4.heap.size, 3, none⟩) (fun k hk => hk.2.1) (.slice A4 (acc.length + 1) cp4)); have G8 := Aside0.mk (blk_put f8 3 (.slice A4 (acc.length + 1) cp4) rfl); have G0 := Aside0.mk (blk_far f0 (p := ⟨w4.heap.size, 3, none⟩) (by have := HN8.out; simp only; omega) (.slice A4 (acc.length + 1) cp4)); have c3 := blk_cell f8 3; have d3 := blk_frozen f8 3; clear ho hb hg hat f8 f0 hI6 hB6 hK6) | (go_at_call 80; (refine (lics_reader_sign.calls g toks cs _ (dp + 1) ⟨#[44]⟩ false _ (dp + 1) w0 _ HI7.out HB7.out HS.out).mono ?_); rintro e_ w8 ⟨rfl, hi, hb, hk⟩; have f8 := hk.blk G8.out (by have := HI.out.lt; have := HN8.out; omega) (by simp); have f0 := hk.blk G0.out (by have := HI.out.lt; omega) (by simp); have hr8 := Kd.R_keep (Kd.R_mono (Kd.R_bound HO7.out) (fun k hk => (⟨⟨hk.1.1, hk.1.2.1⟩, hk.2.1⟩ : (k ≠ w.heap.size ∧ k ≠ w4.heap.size) ∧ w.heap.size ≤ k))) hk (fun k hk => by have := HI.out.lt; omega); have HI8 := Aside0.mk hi; have HB8 := Aside0.mk hb; have HK8 := Aside0.mk (HK7.out.trans hk (.inl rfl)); have HR8 := Aside0.mk (Kd.R_mono hr8 (fun k hk => hk.1)); have g8 := blk_cell f8 3; have J8 := Aside0.mk f8; have J0 := Aside0.mk f0; obtain ⟨A0', c0', A1', c1', hG, -, -, -⟩ := hi; have gg2 := cellS67_2 hG; have ggf := blk_frozen hG 2; clear f8 f0 hb hk hr8 hG))
      have ge0 := blk_cell J8.out 0
      have ge1 := blk_cell J8.out 1
      have ge2 := blk_cell J8.out 2
      clear gg2 ggf
      go_region_with (first | (go_at_call 108; (refine (lics_reader_leave.calls g toks cs _ (dp + 1) 0 n2 dp w0 _ (IsS67.drew HI8.out) (below_drew1 HB8.out) HLv.out).mono ?_); rintro e_ w9 ⟨rfl, hi, hb, hk⟩; have f8 := hk.blk (blk_drew J8.out) (by have := HI.out.lt; have := HN8.out; omega) (by simp); have f0 := hk.blk (blk_drew J0.out) (by have := HI.out.lt; omega) (by simp); have hr9 := Kd.R_keep (Kd.R_drew (Kd.R_mono (Kd.R_bound HR8.out) (fun k hk => (⟨hk.1, hk.2.1⟩ : (k ≠ w.heap.size ∧ k ≠ w4.heap.size) ∧ w.heap.size ≤ k)))) hk (fun k hk => by have := HI.out.lt; omega); have HI9 := Aside0.mk hi; have HB9 := Aside0.mk hb; have HK9 := Aside0.mk ((keep_drew HK8.out).trans hk (.inl rfl)); have HR9 := Aside0.mk (Kd.R_mono hr9 (fun k hk => hk.1.1)); have ga0 := blk_cell f8 0; have ga1 := blk_cell f8 1; have ga2 := blk_cell f8 2; have ga3 := blk_cell f8 3; have gb0 := blk_cell f0 0; have gb1 := blk_cell f0 1; have gb2 := blk_cell f0 2; have gb3 := blk_cell f0 3; have gc0 := blk_frozen f0 0; have gc1 := blk_frozen f0 1; have gc2 := blk_frozen f0 2; have gc3 := blk_frozen f0 3; have J9 := Aside0.mk f0; clear f8 f0 hi hb hk hr9))
      all_goals go_wp2_with (fail)
      all_goals (obtain ⟨o1, o2, o3, o4, o5⟩ := lic_out (r := ⟨4, ⟨#[]⟩, kk, acc ++ [m]⟩) HI9.out HB9.out HK9.out J9.out HR9.out HB.out.size HI.out.lt; have e0 := blk_cell o5 0; have e1 := blk_cell o5 1; have e2 := blk_cell o5 2; have e3 := blk_cell o5 3; refine bodyPost_ret (v := .tuple #[.agg #[.int .u8 4, .string ⟨#[]⟩, .int .i64 kk, .slice A4 (acc.length + 1) cp4], .int .i64 0]) ?_ rfl ⟨_, rfl, o1, o2, o3, o4⟩; simp [results, Tryz.results104, go_sem, e0, e1, e2, e3])
    | more _ j m k _ _ hj hk hjk hp hs hr =>
      have HP2 := Aside0.mk hp
      have HS := Aside0.mk hs
      have HJ := Aside0.mk hj
      have HKlt := Aside0.mk hk
      have HJk := Aside0.mk hjk
      have HRr := Aside0.mk hr
      have q5 : IntKind.i64.wrap ((k : Int) + 1) = (k : Int) + 1 := IntWalk.i64_in _ (by omega)
      clear hI hB hK hR hb8 hb0 hp hs hj hac hk hjk hr
      go_wp2_with (first | (go_at_call 36; (refine (HP2.out g w0 _ HIr.out HBr.out).mono ?_); rintro e_ w5 ⟨v2, rfl, hi, hb, hk, hr⟩; obtain ⟨A3, cp3, rfl⟩ := Kd.R_slice hr; have HI5 := Aside0.mk hi; have HB5 := Aside0.mk hb; have HK5 := Aside0.mk hk; have HR5 := Aside0.mk hr; have f8 := hk.blk Hb8.out (by have := HI.out.lt; have := HN8.out; omega) (by simp); have f0 := hk.blk Hb0.out (by have := HI.out.lt; omega) (by simp); have a3 := fun o => blk_cell (blk_alloc f8 o) 3; have F8 := Aside0.mk f8; have F0 := Aside0.mk f0; have hR5 := Kd.R_keep (Kd.R_mono (Kd.R_bound HR.out) (fun k hk => (⟨hk.1, hk.2.1, hk.2.2.1⟩ : (k ≠ w.heap.size ∧ k ≠ w4.heap.size) ∧ w.heap.size ≤ k ∧ k < wr.heap.size))) hk (fun k hk => by have := HI.out.lt; omega); have HRr5 := Aside0.mk hR5; have hN9 : wr.heap.size ≤ w5.heap.size := hk.1; have HN9 := Aside0.mk hN9; clear hi hb hk hr f8 f0 hR5 hN9) | ((with_reducible refine gate_builtin (b := .append) (xs := #[.tmp 61, .tmp 63]) rfl ?_); at_builtin; refine Kd.R_append k24 (w0 := w5.alloc (.cells #[.int .u8 m.f0, .string m.f1, .int .i64 m.f2, .slice A3 m.f3.length cp3] 24)) w.heap.size rfl (.tmp 61) (.tmp 63) 22 24 (.agg #[(.int .u8 0), (.string ⟨#[]⟩), (.int .i64 0), (.slice none 0 0)]) 56 rfl Tryz.underlying22 info24 rfl (by decide) (by omega) (.slice A2 acc.length cp2) acc m [.int .u8 m.f0, .string m.f1, .int .i64 m.f2, .slice A3 m.f3.length cp3] (fun k => k ≠ w.heap.size ∧ k ≠ w4.heap.size ∧ k ≠ w5.heap.size) (fun k => wr.heap.size ≤ k ∧ k < w5.heap.size) rfl ?aX ?aP ?aK ?aF ?aO ?aB ?aS ?aL ?_; (case aX => simp [Act.eval]); (case aP => exact of_aP HR5.out HZw.out _); (case aK => exact fun k hk => ⟨⟨by have := HN8.out; have := HN8w.out; omega, by have := HN8w.out; omega, by omega⟩, fun e => by have := HRr5.out.1 k e.symm; omega⟩); (case aF => intro k hk; have hk2 : w5.heap.size + 1 ≤ k := (by simpa using hk); have := HZw.out; have := HN9.out; have := HN8w.out; exact ⟨by omega, by omega, by omega⟩); (case aO => exact Kd.R_mono (Kd.R_alloc HRr5.out _) (fun k hk => ⟨hk.1.1, hk.1.2, by have := HN9.out; omega⟩)); (case aB => exact Below.refl _ _); (case aS => have := HZw.out; have := HN9.out; simp; omega); (case aL => have := HAc.out; have := HJ.out; omega); intro v1 w6 ho hb hg hat; obtain ⟨A4, cp4, rfl⟩ := Kd.R_slice ho; have f8 := blk_grown (blk_alloc F8.out (.cells #[.int .u8 m.f0, .string m.f1, .int .i64 m.f2, .slice A3 m.f3.length cp3] 24)) hg (Kd.R_away HRr5.out (fun k hk => hk.1.2)); have f0 := blk_grown (blk_alloc F0.out (.cells #[.int .u8 m.f0, .string m.f1, .int .i64 m.f2, .slice A3 m.f3.length cp3] 24)) hg (Kd.R_away HRr5.out (fun k hk => hk.1.1)); rw [List.length_append, List.length_singleton] at ho; have hI6 := (HI5.out.alloc (.cells #[.int .u8 m.f0, .string m.f1, .int .i64 m.f2, .slice A3 m.f3.length cp3] 24)).grown hg (Kd.R_away HRr5.out (fun k hk => by have := HI.out.lt; omega)); have hB6 := (HB5.out.alloc HB5.out.size (.cells #[.int .u8 m.f0, .string m.f1, .int .i64 m.f2, .slice A3 m.f3.length cp3] 24)).trans (hb.mono HB.out.size); have hK6 := ((keep_alloc (HKr.out.trans HK5.out (.inl rfl)) (.cells #[.int .u8 m.f0, .string m.f1, .int .i64 m.f2, .slice A3 m.f3.length cp3] 24)).trans (KeepBut.of_grown hg g) (Kd.R_base2 HRr5.out)); have HI7 := Aside0.mk (hI6.far (p := ⟨w4.heap.size, 3, none⟩) (by have := HI.out.lt; have := HN8.out; simp only; omega) (.slice A4 (acc.length + 1) cp4)); have HB7 := Aside0.mk (hB6.setCell (p := ⟨w4.heap.size, 3, none⟩) (by have := HB.out.size; have := HN8.out; simp only; omega) (.slice A4 (acc.length + 1) cp4)); have HK7 := Aside0.mk (keep_far hK6 (p := ⟨w4.heap.size, 3, none⟩) (by have := HN8.out; simp only; omega) (.slice A4 (acc.length + 1) cp4)); have HO7 := Aside0.mk (Kd.R_far ho (p := ⟨w4.heap.size, 3, none⟩) (fun k hk => hk.2.1) (.slice A4 (acc.length + 1) cp4)); have G8 := Aside0.mk (blk_put f8 3 (.slice A4 (acc.length + 1) cp4) rfl); have G0 := Aside0.mk (blk_far f0 (p := ⟨w4.heap.size, 3, none⟩) (by have := HN8.out; simp only; omega) (.slice A4 (acc.length + 1) cp4)); have c3 := blk_cell f8 3; have d3 := blk_frozen f8 3; clear ho hb hg hat f8 f0 hI6 hB6 hK6) | (go_at_call 80; (refine (lics_reader_sign.calls g toks cs _ (dp + 1) ⟨#[44]⟩ true _ (dp + 1) w0 _ HI7.out HB7.out HS.out).mono ?_); rintro e_ w8 ⟨rfl, hi, hb, hk⟩; have f8 := hk.blk G8.out (by have := HI.out.lt; have := HN8.out; omega) (by simp); have f0 := hk.blk G0.out (by have := HI.out.lt; omega) (by simp); have hr8 := Kd.R_keep (Kd.R_mono (Kd.R_bound HO7.out) (fun k hk => (⟨⟨hk.1.1, hk.1.2.1⟩, hk.2.1⟩ : (k ≠ w.heap.size ∧ k ≠ w4.heap.size) ∧ w.heap.size ≤ k))) hk (fun k hk => by have := HI.out.lt; omega); have HI8 := Aside0.mk hi; have HB8 := Aside0.mk hb; have HK8 := Aside0.mk (HK7.out.trans hk (.inl rfl)); have HR8 := Aside0.mk (Kd.R_mono hr8 (fun k hk => hk.1)); have g8 := blk_cell f8 3; have J8 := Aside0.mk f8; have J0 := Aside0.mk f0; obtain ⟨A0', c0', A1', c1', hG, -, -, -⟩ := hi; have gg2 := cellS67_2 hG; have ggf := blk_frozen hG 2; clear f8 f0 hb hk hr8 hG))
      have hI9 := HI8.out.set_2 ((k : Int) + 1)
      refine ⟨⟨acc ++ [m], (k : Int) + 1, .slice A4 (acc.length + 1) cp4, HRr.out, ?_, hI9, HB8.out.setCell HI.out.ge _, HK8.out.set_ _ _, blk_far J8.out (by have := HI.out.lt; have := HN8.out; simp only; omega) _, blk_far J0.out (by have := HI.out.lt; simp only; omega) _, ?_⟩, ?_⟩
      · have := HAc.out; have := HJk.out; simp; omega
      · exact Kd.R_mono (Kd.R_far (Kd.R_mono (Kd.R_bound HR8.out) (fun k hk => (⟨hk.1, hk.2.1⟩ : (k ≠ w.heap.size ∧ k ≠ w4.heap.size) ∧ w.heap.size ≤ k))) (fun k hk => by have := HI.out.lt; simp only; omega) _) (fun k hk => hk.1)
      · rw [hI9.at_eq, HIr.out.at_eq]
        have := HJk.out
        have := HKlt.out
        omega
end Go.Proofs.YtjapfefiaijfcaaGreatDoor.Q
namespace Go.Proofs.YtjapfefiaijfcaaGreatDoor.Q
open Go.RowKit Go.Proofs.YtjapfefiaijfcaaGreatDoorW.PrintWords Go.Proofs.YtjapfefiaijfcaaGreatDoorW.PrintLast Go.Proofs.YtjapfefiaijfcaaGreatDoorW.PrintMore
set_option linter.unusedVariables false
set_option maxHeartbeats 8000000 in
set_option maxRecDepth 100000 in
theorem lics_one_of.calls (toks : List S70) (cs : List S138) (i : Nat) (dp : Int) (x : S70) (r : S24) (n : Int) (hi : i < toks.length) (hm : toks.length ≤ 8192) (hx : x = rd_T70 toks i) (hk : x.f0 = 5) (hP : PartOK toks cs 104 i dp r n) : PartOK toks cs 81 i dp r n := by
  intro g w0 w hI hB
  have HI := Aside0.mk hI
  have HB := Aside0.mk hB
  have HX := Aside0.mk hx
  have HP := Aside0.mk hP
  clear hP
  have q1 : decide ((i : Int) < (toks.length : Int)) = true := decide_eq_true (by omega)
  have q2 : ((i : Int) == (toks.length : Int)) = false := beq_eq_false_iff_ne.mpr (by omega)
  have q3 : (i == toks.length) = false := beq_eq_false_iff_ne.mpr (by omega)
  have q4 : IntKind.i64.wrap ((i : Int) + 1) = (i : Int) + 1 := IntWalk.i64_in _ (by omega)
  obtain ⟨A0, c0, A1, c1, hG, hge, hS0, hS1⟩ := hI
  obtain ⟨ad, e0, x0, x1, x2, x3⟩ := at_T70 hS0 (i : Int) (by omega) (by omega)
  subst e0
  rw [← hx] at x0 x1 x2 x3
  rw [hk] at x0
  replace x0 := pw_cell_below hB x0
  replace x1 := pw_cell_below hB x1
  replace x2 := pw_cell_below hB x2
  replace x3 := pw_cell_below hB x3
  have p1 : (0 ≤ (i : Int)) = True := eq_true (by omega)
  have p2 : ((i : Int) < (toks.length : Int)) = True := eq_true (by omega)
  have p3 : (i < toks.length) = True := eq_true hi
  have g0 := cellS67_0 hG
  have g1 := cellS67_1 hG
  have g2 := cellS67_2 hG
  have g3 := cellS67_3 hG
  have gf := blk_frozen hG 2
  have HG := Aside0.mk hG
  clear hG hge hS0 hS1 hB hx hi
  have up : ∀ (o : Obj) {a : Addr} {v : Value}, w.cell? a = some v → (w.alloc o).cell? a = some v := fun o {a} {v} h => pw_cell_below ((Below.refl _ w).alloc (Nat.le_refl _) o) h
  have m0 := fun o => up o g0
  have m2 := fun o => up o g2
  have y0 := fun o => up o x0
  have y1 := fun o => up o x1
  have y2 := fun o => up o x2
  have y3 := fun o => up o x3
  clear up
  go_enter Tryz.func81, Tryz.ntmps81
  go_wp2_with (fail)
  go_quiet (fail)
  go_wp2_with (fail)
  generalize hW : (w.alloc (.cells #[.int .u8 0, .string ⟨#[]⟩, .int .i64 0, .slice none 0 0] 24)).drewN _ = W
  have m0' : W.cell? ⟨g, 0, none⟩ = some (.slice (some ad) toks.length c0) := by rw [← hW]; exact m0 _
  have m2' : W.cell? ⟨g, 2, none⟩ = some (.int .i64 i) := by rw [← hW]; exact m2 _
  have y0' : W.cell? (ad.add (i * 4)) = some (.int .u8 5) := by rw [← hW]; exact y0 _
  have y1' : W.cell? ⟨(ad.add (i * 4)).block, (ad.add (i * 4)).off + 1, none⟩ = some (.string x.f1) := by rw [← hW]; exact y1 _
  have y2' : W.cell? ⟨(ad.add (i * 4)).block, (ad.add (i * 4)).off + 2, none⟩ = some (.int .i64 x.f2) := by rw [← hW]; exact y2 _
  have y3' : W.cell? ⟨(ad.add (i * 4)).block, (ad.add (i * 4)).off + 3, none⟩ = some (.int .i64 x.f3) := by rw [← hW]; exact y3 _
  have HW := Aside0.mk hW
  have up2 : ∀ (o : Obj) {a : Addr} {v : Value}, W.cell? a = some v → (W.alloc o).cell? a = some v := fun o {a} {v} h => pw_cell_below ((Below.refl _ W).alloc (Nat.le_refl _) o) h
  have m0'' := fun o => up2 o m0'
  have m2'' := fun o => up2 o m2'
  have y0'' := fun o => up2 o y0'
  have y1'' := fun o => up2 o y1'
  have y2'' := fun o => up2 o y2'
  have y3'' := fun o => up2 o y3'
  clear hW m0 m2 y0 y1 y2 y3 up2
  go_region
  generalize hW2 : (W.alloc (.cells #[.int .u8 5, .string x.f1, .int .i64 x.f2, .int .i64 x.f3] 70)).drew = W2
  have b1 : W2.heap[W.heap.size]? = some (.cells #[.int .u8 5, .string x.f1, .int .i64 x.f2, .int .i64 x.f3] 70 (0, 0)) := by rw [← hW2]; exact blk_new W _
  have B1 : Below w.heap.size w W := by rw [← HW.out]; exact pw_below_drewN ((Below.refl _ w).alloc (Nat.le_refl _) _) _
  have s1 : W.heap.size = w.heap.size + 1 := by rw [← HW.out]; simp
  have HS1 := Aside0.mk s1
  have B2 : Below w.heap.size w W2 := by rw [← hW2]; exact below_drew1 (B1.alloc B1.size _)
  have b2 : W2.heap[w.heap.size]? = some (.cells #[.int .u8 0, .string ⟨#[]⟩, .int .i64 0, .slice none 0 0] 24 (0, 0)) := by
    rw [← hW2]
    refine blk_drew (blk_alloc ?_ _)
    rw [← HW.out]; exact blk_drewN (blk_new w _) _
  have IW2 : IsS67 w0 W2 g toks cs i dp := HI.out.below B2
  have hG := (B2.block g HI.out.lt).trans HG.out
  have c1 := blk_cell b1 0
  have c2 := blk_cell b1 1
  have c3 := cellS67_2 hG
  have c4 := blk_frozen hG 2
  have gl := HI.out.lt
  have n1 : g ≠ W.heap.size := by omega
  have HI2 := Aside0.mk IW2
  have Hb1 := Aside0.mk b1
  have Hb2 := Aside0.mk b2
  have HB2 := Aside0.mk B2
  clear s1 c2 c3 c4 hG b1 b2 B1 B2 IW2 m0' m2' y0' y1' y2' y3' m0'' m2'' y0'' y1'' y2'' y3'' g0 g1 g2 g3 x0 x1 x2 x3 hW2
  go_wp2_with (first | (go_at_call 104; (refine (HP.out g w0 _ HI2.out (HB.out.trans (HB2.out.mono HB.out.size))).mono ?_); rintro e_ w3 ⟨v1, rfl, hi, hb, hk, hr⟩; obtain ⟨A3, cp3, rfl⟩ := Kd.R_slice hr; have HI3 := Aside0.mk hi; have HB3 := Aside0.mk hb; have HK3 := Aside0.mk ((KeepBut.of_below HB2.out g none).trans hk (.inl rfl)); have HR3 := Aside0.mk hr; have hr0 := hk.blk Hb2.out (by have := HI.out.lt; omega) (by simp); have HR0 := Aside0.mk hr0; have HZ := Aside0.mk (blk_lt Hb2.out); have d0 := blk_cell hr0 0; have d1 := blk_cell hr0 1; have d2 := blk_cell hr0 2; have d3 := blk_cell hr0 3; have k0 := blk_frozen hr0 0; have k1 := blk_frozen hr0 1; have k2 := blk_frozen hr0 2; have k3 := blk_frozen hr0 3; clear hi hb hk hr hr0))
  have hr2 := Kd.R_lower (Kd.R_mono (Kd.R_bound HR3.out) (fun k hk => (by have := hk.2.1; have := HZ.out; omega : k ≠ w.heap.size))) (Nat.le_of_lt HZ.out)
  obtain ⟨o1, o2, o3, o4, o5⟩ := lic_out (r := r) HI3.out HB3.out HK3.out HR0.out hr2 HB.out.size HI.out.lt
  have e0 := blk_cell o5 0
  have e1 := blk_cell o5 1
  have e2 := blk_cell o5 2
  have e3 := blk_cell o5 3
  refine bodyPost_ret (v := .tuple #[.agg #[.int .u8 r.f0, .string r.f1, .int .i64 r.f2, .slice A3 r.f3.length cp3], .int .i64 0]) ?_ rfl ⟨_, rfl, o1, o2, o3, o4⟩
  simp [results, Tryz.results81, go_sem, e0, e1, e2, e3]
end Go.Proofs.YtjapfefiaijfcaaGreatDoor.Q
namespace Go.Proofs.YtjapfefiaijfcaaGreatDoor.Q
open Go.RowKit Go.Proofs.YtjapfefiaijfcaaGreatDoorW.PrintWords Go.Proofs.YtjapfefiaijfcaaGreatDoorW.PrintLast Go.Proofs.YtjapfefiaijfcaaGreatDoorW.PrintMore
set_option linter.unusedVariables false
def licP (c : UInt8) : S24 := ⟨1, ⟨#[c]⟩, 0, []⟩
/-- the tree of the one text. -/
def treeL : S24 := ⟨2, ⟨#[]⟩, 0, [licP 97, ⟨4, ⟨#[]⟩, 2, [licP 98, licP 99]⟩]⟩
theorem all_one {i : Nat} {dp : Int} {l : S24} {j : Int} (h : PartOK tokL [] 81 i dp l j) (h1 : lics_reader_sign.f tokL [] j dp ⟨#[38, 38]⟩ = some (false, j, dp)) (h2 : lics_reader_sign.f tokL [] j dp ⟨#[124, 124]⟩ = some (false, j, dp)) : PartOK tokL [] 36 i dp l j :=
  lics_some.calls tokL [] (by decide) i dp l j l j (lics_all.calls tokL [] (by decide) i dp l j l j h (.stop l j h1)) (.stop l j h2)
theorem one_a : PartOK tokL [] 81 ((0 : Nat) : Int) 0 (licP 97) ((1 : Nat) : Int) := lics_one_str.calls tokL [] 0 0 _ (by decide) (by decide) rfl rfl
theorem one_b : PartOK tokL [] 81 ((4 : Nat) : Int) 1 (licP 98) ((5 : Nat) : Int) := lics_one_str.calls tokL [] 4 1 _ (by decide) (by decide) rfl rfl
theorem one_c : PartOK tokL [] 81 ((6 : Nat) : Int) 1 (licP 99) ((7 : Nat) : Int) := lics_one_str.calls tokL [] 6 1 _ (by decide) (by decide) rfl rfl
theorem of_bc : PartOK tokL [] 81 ((2 : Nat) : Int) 0 ⟨4, ⟨#[]⟩, 2, [licP 98, licP 99]⟩ 8 := by
  refine lics_one_of.calls tokL [] 2 0 _ _ _ (by decide) (by decide) rfl rfl ?_
  refine lics_of.calls tokL [] (by decide) 2 0 (rd_T70 tokL 2) ⟨#[50]⟩ 2 _ 7 8 (by decide) rfl (by kernel_rfl) (by decide +kernel) (by decide) (by kernel_rfl) (by kernel_rfl) ?_ (by decide) (by kernel_rfl)
  refine .more [] 4 (licP 98) 5 _ _ (by decide) (by decide) (by decide) (all_one one_b (by kernel_rfl) (by kernel_rfl)) (by kernel_rfl) ?_
  exact .last [licP 98] 6 (licP 99) 7 (by decide) (all_one one_c (by kernel_rfl) (by kernel_rfl)) (by kernel_rfl)
theorem some_txt : PartOK tokL [] 36 0 0 treeL 8 := by
  refine lics_some.calls tokL [] (by decide) 0 0 treeL 8 treeL 8 ?_ (.stop _ _ (by kernel_rfl))
  refine lics_all.calls tokL [] (by decide) 0 0 (licP 97) 1 treeL 8 one_a ?_
  exact .more (licP 97) 1 _ 8 _ _ (by decide) (by kernel_rfl) of_bc (by decide) (.stop _ _ (by kernel_rfl))
theorem one_row {W : World} {base : Nat} {ok : Nat → Prop} {l : S24} {va : Value} (hl : Kd.R k24 24 W base ok va l.f3) (hb : base ≤ W.heap.size) (hf : ok W.heap.size) :
    Kd.R k24 24 (W.alloc (.cells #[.int .u8 l.f0, .string l.f1, .int .i64 l.f2, va] 24)) base ok (.slice (some ⟨W.heap.size, 0, none⟩) 1 1) [l] := by
  have hrep : Reps (k24.M W base ok) 4 [l] [.int .u8 l.f0, .string l.f1, .int .i64 l.f2, va] := by
    refine ⟨by simp, fun j p hj => ?_⟩
    rcases j with _ | j
    · simp at hj; subst hj
      exact k24_mkM _ _ _ _ hl
    · simp at hj
  refine ⟨fun k hk => ?_, _, ?_, hrep.imp_ (fun p c hp => k24.M_mono (fun k hk => ⟨hk.1, fun he => ?_⟩) (Kd.M_below (k24.M_bound hp) (below_alloc (Below.refl _ _) _)))⟩
  · have : W.heap.size = k := by simpa [Value.ownBlock] using hk
    subst this
    exact hf
  · have h2 := World.ownsRow_lit (base := base) (e := 24) (size := 4) W #[.int .u8 l.f0, .string l.f1, .int .i64 l.f2, va] 1 hb (by simp [maxLen]) (by simp)
    exact h2
  · have h3 : k = W.heap.size := by simpa [Value.ownBlock] using he
    have := hk.2.2.1
    omega
set_option maxHeartbeats 8000000 in
set_option maxRecDepth 100000 in
/-- Parse reads the one text. -/
theorem lics_Parse_txt.calls (w : World) : Calls Tryz.prog 19 #[.string txt, .slice none 0 0] w fun e w' => ∃ v, e = .returned (.tuple #[v, .int .i64 0, .int .i64 0]) ∧ Kd.R k24 24 w' w.heap.size (fun _ => True) v [treeL] ∧ Below w.heap.size w w' := by
  generalize ht : txt = tx
  have HTx := Aside0.mk ht
  clear ht
  go_enter Tryz.func19, Tryz.ntmps19
  go_wp2_with (first | (go_at_call 35; (refine (by rw [← HTx.out]; exact tokens_txt.calls _ : Calls Tryz.prog 35 #[.string tx] _ _).mono ?_); rintro e_ w1 ⟨v0, rfl, hr, hb⟩; obtain ⟨A, c, rfl, hc, hC⟩ := Kd.R_reads hr; rw [show tokL.length = 8 from rfl]; have HC1 := Aside0.mk hC; have HB1 := Aside0.mk hb; have HI1 := Aside0.mk (IsS67.new w1 w1 A c none 0 tokL [] 0 0 (Below.refl _ _) hC (Kd.C_nil _ _)); have HBn := Aside0.mk (below_alloc (Below.refl w1.heap.size w1) (.cells #[.slice A tokL.length c, .slice none 0 0, .int .i64 0, .int .i64 0] 67)); clear hr hb hc hC) | (go_at_call 36; (refine (some_txt w1.heap.size w1 _ HI1.out HBn.out).mono ?_); rintro e_ w3 ⟨v1, rfl, hi, hb, hk, hr⟩; obtain ⟨A3, cp3, rfl⟩ := Kd.R_slice hr; have HI3 := Aside0.mk hi; have HB3 := Aside0.mk hb; have HR3 := Aside0.mk hr; obtain ⟨A0', c0', A1', c1', hG, -, -, -⟩ := hi; have gg2 := fun o => cellS67_2 (blk_alloc hG o); clear hb hk hr hG))
  have z1 : w.heap.size ≤ w1.heap.size := HB1.out.size
  have z3 : w1.heap.size ≤ w3.heap.size := HB3.out.size
  have hR := one_row (W := w3.alloc (.cells #[.int .u8 treeL.f0, .string treeL.f1, .int .i64 treeL.f2, .slice A3 treeL.f3.length cp3] 24)) (base := w.heap.size) (ok := fun _ => True) (l := treeL) (Kd.R_alloc (Kd.R_lower HR3.out (by simp; omega)) _) (by simp; omega) trivial
  rw [show (w3.alloc (.cells #[.int .u8 treeL.f0, .string treeL.f1, .int .i64 treeL.f2, .slice A3 treeL.f3.length cp3] 24)).heap.size = w3.heap.size + 1 from by simp] at hR
  refine bodyPost_ret (v := .tuple #[.slice (some ⟨w3.heap.size + 1, 0, none⟩) 1 1, .int .i64 0, .int .i64 0]) ?_ rfl ⟨_, rfl, hR, ?_⟩
  · simp [results, Tryz.results19, go_sem]
  · exact ((HB1.out.trans (HB3.out.mono z1)).alloc (by omega) _).alloc (by simp; omega) _
def vouchlaw16_works.f : Option Bool := some true
set_option maxHeartbeats 8000000 in
set_option maxRecDepth 100000 in
theorem vouchlaw16_works.calls (r : Bool) (w : World) (h : vouchlaw16_works.f = some r) : Calls Tryz.prog 13 #[] w fun e w' => e = .returned (.bool r) ∧ Below w.heap.size w w' := by
  cases h
  generalize ht : txt = tx
  have HTx := Aside0.mk ht
  go_enter Tryz.func13, Tryz.ntmps13
  rw [show (⟨#[34, 97, 34, 32, 38, 38, 32, 50, 45, 111, 102, 40, 34, 98, 34, 44, 32, 34, 99, 34, 41]⟩ : ByteArray) = txt from rfl, ht]
  clear ht
  go_wp2_with (first | (go_at_call 19; (refine (by rw [← HTx.out]; exact lics_Parse_txt.calls _ : Calls Tryz.prog 19 #[.string tx, .slice none 0 0] _ _).mono ?_); rintro e_ w1 ⟨v0, rfl, hr, hb⟩; obtain ⟨A, c, rfl, hc, hC⟩ := Kd.R_reads hr; obtain ⟨ad, A3, c3, rfl, k0, k1, k2, k3, k4, k5⟩ := at_T24 hC 0 (by decide) (by decide); have q0 : w1.cell? ad = some (.int .u8 2) := k0; have q3 : w1.cell? ⟨ad.block, ad.off + 3, none⟩ = some (.slice A3 2 c3) := k3; obtain ⟨ad2, A4, c4, rfl, j0, j1, j2, j3, j4, j5⟩ := at_T24 k5 1 (by decide) (by decide); have p0 : w1.cell? ⟨ad2.block, ad2.off + 4, none⟩ = some (.int .u8 4) := j0; have p2 : w1.cell? ⟨ad2.block, ad2.off + 4 + 2, none⟩ = some (.int .i64 2) := j2; have p3 : w1.cell? ⟨ad2.block, ad2.off + 4 + 3, none⟩ = some (.slice A4 2 c4) := j3; clear hr hc hC k0 k1 k2 k3 k4 k5 j0 j1 j2 j3 j4 j5))
  go_ret
  exact ⟨rfl, hb⟩
end Go.Proofs.YtjapfefiaijfcaaGreatDoor.Q
