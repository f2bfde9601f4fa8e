/- The parser: a name is looked up among the constants. The parser: names. The parser: parentheses, and the end. The parser: parentheses, and the end. The parser: a count of parts that does not go through. The parser: chains that do not go through. The parser: chains of which a later part fails. -/
import Derived.Test.YtjapfefiaijfcaaGreatDoorQx0
import Derived.Test.YtjapfefiaijfcaaGreatDoorU3
import Derived.BigRegion
namespace Go.Proofs.YtjapfefiaijfcaaGreatDoor.Q
open Go.RowKit Go.Proofs.YtjapfefiaijfcaaGreatDoorW.PrintWords Go.Proofs.YtjapfefiaijfcaaGreatDoorW.PrintLast Go.Proofs.YtjapfefiaijfcaaGreatDoorW.PrintMore
set_option linter.unusedVariables false
set_option maxHeartbeats 4000000 in
theorem lics_one1.calls (tx a b : ByteArray) (B : Nat) (w : World) (hb : w.cell? ⟨B, 1, none⟩ = some (.string tx)) :
    Calls Tryz.prog 106 #[.agg #[.string a, .string b], .pointer (some ⟨B, 0, none⟩)] w fun e w' => e = .returned (.bool (a.toList == tx.toList)) ∧ Below w.heap.size w w' := by
  have h1 : ∀ o : Obj, (w.alloc o).cell? ⟨B, 1, none⟩ = some (.string tx) := fun o => pw_cell_below ((Below.refl _ w).alloc (Nat.le_refl _) o) hb
  have hB : ∀ o : Obj, Below w.heap.size w (w.alloc o) := fun o => (Below.refl _ _).alloc (Nat.le_refl _) o
  have HB := Aside0.mk hB
  clear hB
  go_enter Tryz.func106, Tryz.ntmps106
  go_wp2_with (fail)
  go_ret
  exact ⟨rfl, HB.out _⟩
/-- the place of the first constant of a name. -/
def idxC (tx : ByteArray) : List S138 → Nat → Int
  | [], _ => -1
  | c :: cs, k => if (c.f0.toList == tx.toList) = true then (k : Int) else idxC tx cs (k + 1)
theorem idxC_drop (tx : ByteArray) (cs : List S138) (k : Nat) (hk : k < cs.length) : idxC tx (cs.drop k) k = if ((rd_T138 cs (k : Int)).f0.toList == tx.toList) = true then (k : Int) else idxC tx (cs.drop (k + 1)) (k + 1) := by
  rw [List.drop_eq_getElem_cons hk]
  have : rd_T138 cs (k : Int) = cs[k] := by unfold rd_T138; simp [hk]
  rw [this]
  rfl
set_option maxHeartbeats 8000000 in
set_option maxRecDepth 100000 in
theorem slices_IndexFunc_const.calls (tx : ByteArray) (B : Nat) (cs : List S138) (A : Option Addr) (c : Nat) (w0 w : World) (hl : cs.length ≤ 1000) (hC : Kd.C k138 w0 A cs.length cs) (h0 : Below w0.heap.size w0 w) (hb : w.cell? ⟨B, 1, none⟩ = some (.string tx)) :
    Calls Tryz.prog 105 #[.slice A cs.length c, .func (.func 106) #[] #[.pointer (some ⟨B, 0, none⟩)]] w fun e w' => e = .returned (.int .i64 (idxC tx cs 0)) ∧ Below w.heap.size w w' := by
  have HC := Aside0.mk hC
  have H0 := Aside0.mk h0
  have HB := Aside0.mk hb
  clear hC h0 hb
  go_enter Tryz.func105, Tryz.ntmps105
  go_wp2
  go_loopw [8] (fun i wr => ∃ k : Nat, i = .int .i64 k ∧ k ≤ cs.length ∧ idxC tx (cs.drop k) k = idxC tx cs 0 ∧ Below w.heap.size w wr) (fun i wr => cs.length - (intOf i).toNat)
  case atStart => exact ⟨0, rfl, Nat.zero_le _, by rw [List.drop_zero], Below.refl _ _⟩
  case round =>
    obtain ⟨k, rfl, hk, hok, hbel⟩ := hrel
    have HOk := Aside0.mk hok
    have HBl := Aside0.mk hbel
    clear hok hbel
    by_cases hlt : k < cs.length
    · have d1 : decide ((k : Int) < (cs.length : Int)) = true := decide_eq_true (by omega)
      have d2 : (k < cs.length) = True := eq_true hlt
      have d3 : ((k : Int) < (cs.length : Int)) = True := eq_true (by omega)
      have d4 : (0 ≤ (k : Int)) = True := eq_true (by omega)
      have q4 : IntKind.i64.wrap ((k : Int) + 1) = (k : Int) + 1 := IntWalk.i64_in _ (by omega)
      obtain ⟨ad, e0, k0, k1⟩ := at_T138 HC.out (k : Int) (by omega) (by omega)
      subst e0
      rw [Int.toNat_natCast] at k0 k1
      have hbb := H0.out.trans (HBl.out.mono H0.out.size)
      replace k0 := pw_cell_below hbb k0
      replace k1 := pw_cell_below hbb k1
      have hst := idxC_drop tx cs k hlt
      rw [HOk.out] at hst
      obtain ⟨y, hy⟩ : ∃ y, y = rd_T138 cs (k : Int) := ⟨_, rfl⟩
      rw [← hy] at k0 k1 hst
      have hcall := lics_one1.calls tx y.f0 y.f1 B wr (pw_cell_below HBl.out HB.out)
      cases ho : (y.f0.toList == tx.toList)
      · rw [ho] at hcall hst
        have HCall := Aside0.mk hcall
        have HST := Aside0.mk hst
        clear hcall ho hst hbb hy
        go_wp2_with (first | (go_at_call 106; (refine (HCall.out).mono ?_); rintro e_ w2 ⟨rfl, hb2⟩; have HB2 := Aside0.mk hb2; clear hb2))
        refine ⟨⟨k + 1, by go_num, by omega, ?_, HBl.out.trans (HB2.out.mono HBl.out.size)⟩, ?_⟩
        · have q := HST.out
          rw [if_neg (by simp)] at q
          exact q.symm
        · simp [intOf]; omega
      · rw [ho] at hcall hst
        have HCall := Aside0.mk hcall
        have HST := Aside0.mk hst
        clear hcall ho hst hbb hy
        go_wp2_with (first | (go_at_call 106; (refine (HCall.out).mono ?_); rintro e_ w2 ⟨rfl, hb2⟩; have HB2 := Aside0.mk hb2; clear hb2))
        go_ret
        refine ⟨?_, HBl.out.trans (HB2.out.mono HBl.out.size)⟩
        have q := HST.out
        rw [if_pos trivial] at q
        rw [q]
        rfl
    · have d1 : decide ((k : Int) < (cs.length : Int)) = false := decide_eq_false (by omega)
      obtain rfl : k = cs.length := by omega
      have q := HOk.out
      rw [List.drop_length] at q
      have HQ := Aside0.mk q
      clear q
      go_wp2
      go_ret
      exact ⟨by rw [← HQ.out]; rfl, HBl.out⟩
end Go.Proofs.YtjapfefiaijfcaaGreatDoor.Q
namespace Go.Proofs.YtjapfefiaijfcaaGreatDoor.Q
open Go.RowKit Go.Proofs.YtjapfefiaijfcaaGreatDoorW.PrintWords Go.Proofs.YtjapfefiaijfcaaGreatDoorW.PrintLast Go.Proofs.YtjapfefiaijfcaaGreatDoorW.PrintMore
set_option linter.unusedVariables false
/-- What a part of the parser leaves that does not go through. -/
def LicBad (g : Nat) (w0 w : World) (toks : List S70) (cs : List S138) (e : Ending) (w' : World) : Prop :=
  ∃ (a : Int) (b : ByteArray) (c : Int) (A : Option Addr) (n cap : Nat) (er : Int) (j : Nat) (dp : Int), e = .returned (.tuple #[.agg #[.int .u8 a, .string b, .int .i64 c, .slice A n cap], .int .i64 er]) ∧ er ≠ 0 ∧ j ≤ toks.length ∧ IsS67 w0 w' g toks cs j dp ∧ Below w0.heap.size w0 w' ∧ KeepBut w w' g none
def PartNo (toks : List S70) (cs : List S138) (fn : Nat) (i dp : Int) : Prop := ∀ (g : Nat) (w0 w : World), IsS67 w0 w g toks cs i dp → Below w0.heap.size w0 w → Calls Tryz.prog fn #[.pointer (some ⟨g, 0, none⟩)] w (LicBad g w0 w toks cs)
set_option maxHeartbeats 8000000 in
set_option maxRecDepth 100000 in
theorem lics_one_name.calls (toks : List S70) (cs : List S138) (hcl : cs.length ≤ 1000) (i : Nat) (dp : Int) (x : S70) (hi : i < toks.length) (hm : toks.length ≤ 8192) (hx : x = rd_T70 toks i) (hk : x.f0 = 1) (ci : Nat) (hci : idxC x.f1 cs 0 = ci) (hcn : ci < cs.length) (y : S138) (hy : y = rd_T138 cs ci) : PartOK toks cs 81 i dp ⟨1, y.f1, 0, []⟩ ((i + 1 : Nat) : Int) := by
  have HCI := Aside0.mk hci
  clear hci
  intro g w0 w hI hB
  have HI := Aside0.mk hI
  have HB := Aside0.mk hB
  have HX := Aside0.mk hx
  have q1 : decide ((i : Int) < (toks.length : Int)) = true := decide_eq_true (by omega)
  have q2 : ((i : Int) == (toks.length : Int)) = false := beq_eq_false_iff_ne.mpr (by omega)
  have q3 : (i == toks.length) = false := beq_eq_false_iff_ne.mpr (by omega)
  have q4 : IntKind.i64.wrap ((i : Int) + 1) = (i : Int) + 1 := IntWalk.i64_in _ (by omega)
  obtain ⟨A0, c0, A1, c1s, hG, hge, hS0, hS1⟩ := hI
  obtain ⟨ad, e0, x0, x1, x2, x3⟩ := at_T70 hS0 (i : Int) (by omega) (by omega)
  subst e0
  rw [← hx] at x0 x1 x2 x3
  rw [hk] at x0
  replace x0 := pw_cell_below hB x0
  replace x1 := pw_cell_below hB x1
  replace x2 := pw_cell_below hB x2
  replace x3 := pw_cell_below hB x3
  have p1 : (0 ≤ (i : Int)) = True := eq_true (by omega)
  have p2 : ((i : Int) < (toks.length : Int)) = True := eq_true (by omega)
  have p3 : (i < toks.length) = True := eq_true hi
  have g0 := cellS67_0 hG
  have g1 := cellS67_1 hG
  have g2 := cellS67_2 hG
  have g3 := cellS67_3 hG
  have gf := blk_frozen hG 2
  have HG := Aside0.mk hG
  have HS1 := Aside0.mk hS1
  obtain ⟨adc, ec, u0, u1⟩ := at_T138 HS1.out (ci : Int) (by omega) (by omega)
  subst ec
  rw [← hy] at u0 u1
  rw [Int.toNat_natCast] at u0 u1
  have z1 : (0 ≤ (ci : Int)) = True := eq_true (by omega)
  have z2 : ((ci : Int) < (cs.length : Int)) = True := eq_true (by omega)
  have z3 : (ci < cs.length) = True := eq_true hcn
  have z4 : decide ((ci : Int) < 0) = false := decide_eq_false (by omega)
  clear hy
  clear hG hge hS0 hS1 hB hx hi
  have up : ∀ (o : Obj) {a : Addr} {v : Value}, w.cell? a = some v → (w.alloc o).cell? a = some v := fun o {a} {v} h => pw_cell_below ((Below.refl _ w).alloc (Nat.le_refl _) o) h
  have m0 := fun o => up o g0
  have m2 := fun o => up o g2
  have y0 := fun o => up o x0
  have y1 := fun o => up o x1
  have y2 := fun o => up o x2
  have y3 := fun o => up o x3
  clear up
  go_enter Tryz.func81, Tryz.ntmps81
  go_wp2_with (fail)
  go_quiet (fail)
  go_wp2_with (fail)
  generalize hW : (w.alloc (.cells #[.int .u8 0, .string ⟨#[]⟩, .int .i64 0, .slice none 0 0] 24)).drewN _ = W
  have m0' : W.cell? ⟨g, 0, none⟩ = some (.slice (some ad) toks.length c0) := by rw [← hW]; exact m0 _
  have m2' : W.cell? ⟨g, 2, none⟩ = some (.int .i64 i) := by rw [← hW]; exact m2 _
  have y0' : W.cell? (ad.add (i * 4)) = some (.int .u8 1) := by rw [← hW]; exact y0 _
  have y1' : W.cell? ⟨(ad.add (i * 4)).block, (ad.add (i * 4)).off + 1, none⟩ = some (.string x.f1) := by rw [← hW]; exact y1 _
  have y2' : W.cell? ⟨(ad.add (i * 4)).block, (ad.add (i * 4)).off + 2, none⟩ = some (.int .i64 x.f2) := by rw [← hW]; exact y2 _
  have y3' : W.cell? ⟨(ad.add (i * 4)).block, (ad.add (i * 4)).off + 3, none⟩ = some (.int .i64 x.f3) := by rw [← hW]; exact y3 _
  have HW := Aside0.mk hW
  have up2 : ∀ (o : Obj) {a : Addr} {v : Value}, W.cell? a = some v → (W.alloc o).cell? a = some v := fun o {a} {v} h => pw_cell_below ((Below.refl _ W).alloc (Nat.le_refl _) o) h
  have m0'' := fun o => up2 o m0'
  have m2'' := fun o => up2 o m2'
  have y0'' := fun o => up2 o y0'
  have y1'' := fun o => up2 o y1'
  have y2'' := fun o => up2 o y2'
  have y3'' := fun o => up2 o y3'
  clear hW m0 m2 y0 y1 y2 y3 up2
  go_region
  generalize hW2 : (W.alloc (.cells #[.int .u8 1, .string x.f1, .int .i64 x.f2, .int .i64 x.f3] 70)).drew = W2
  have b1 : W2.heap[W.heap.size]? = some (.cells #[.int .u8 1, .string x.f1, .int .i64 x.f2, .int .i64 x.f3] 70 (0, 0)) := by rw [← hW2]; exact blk_new W _
  have B1 : Below w.heap.size w W := by rw [← HW.out]; exact pw_below_drewN ((Below.refl _ w).alloc (Nat.le_refl _) _) _
  have s1 : W.heap.size = w.heap.size + 1 := by rw [← HW.out]; simp
  have HSz := Aside0.mk s1
  have B2 : Below w.heap.size w W2 := by rw [← hW2]; exact below_drew1 (B1.alloc B1.size _)
  have b2 : W2.heap[w.heap.size]? = some (.cells #[.int .u8 0, .string ⟨#[]⟩, .int .i64 0, .slice none 0 0] 24 (0, 0)) := by
    rw [← hW2]
    refine blk_drew (blk_alloc ?_ _)
    rw [← HW.out]; exact blk_drewN (blk_new w _) _
  have IW2 : IsS67 w0 W2 g toks cs i dp := HI.out.below B2
  have hG := (B2.block g HI.out.lt).trans HG.out
  have c1 := blk_cell b1 0
  have c2 := blk_cell b1 1
  have c3 := cellS67_2 hG
  have c5 := cellS67_1 hG
  have c4 := blk_frozen hG 2
  have gl := HI.out.lt
  have n1 : g ≠ W.heap.size := by omega
  have HI2 := Aside0.mk IW2
  have Hb1 := Aside0.mk b1
  have Hb2 := Aside0.mk b2
  have HB2 := Aside0.mk B2
  have HG2 := Aside0.mk hG
  have IX : ∀ w', Below W2.heap.size W2 w' → Calls Tryz.prog 105 #[.slice (some adc) cs.length c1s, .func (.func 106) #[] #[.pointer (some ⟨W.heap.size, 0, none⟩)]] w' fun e w2 => e = .returned (.int .i64 ci) ∧ Below w'.heap.size w' w2 := fun w' h => by
    have q := slices_IndexFunc_const.calls x.f1 W.heap.size cs (some adc) c1s w0 w' hcl HS1.out ((HB.out.trans (HB2.out.mono HB.out.size)).trans (h.mono (HB.out.trans (HB2.out.mono HB.out.size)).size)) (pw_cell_below h c2)
    rw [HCI.out] at q
    exact q
  have HIX := Aside0.mk IX
  clear IX
  clear s1 hG b1 b2 B1 B2 IW2 m0' m2' y0' y1' y2' y3' m0'' m2'' y0'' y1'' y2'' y3'' g0 g1 g2 g3 x0 x1 x2 x3 hW2
  go_wp2_with (fail)
  go_at_call 105
  (with_reducible refine (HIX.out _ (Below.refl _ _)).mono ?_)
  rintro e_ w3 ⟨rfl, hb3⟩
  have HB3 := Aside0.mk hb3
  have F := blk_far (blk_below Hb2.out hb3) (p := ⟨g, 2, none⟩) (by simp only; omega) (.int .i64 ((i : Int) + 1))
  have HF := Aside0.mk F
  have r0 := blk_cell F 0
  have r1 := blk_cell F 1
  have r2 := blk_cell F 2
  have r3 := blk_cell F 3
  have k0 := blk_frozen F 0
  have k1 := blk_frozen F 1
  have k2 := blk_frozen F 2
  have k3 := blk_frozen F 3
  have s2' := cellS67_2 (blk_below HG2.out hb3)
  have s4' := blk_frozen (blk_below HG2.out hb3) 2
  have HG3 : (w3.setCell ⟨g, 2, none⟩ (.int .i64 ((i : Int) + 1))).heap[g]? = some (.cells #[.slice (some ad) toks.length c0, .slice (some adc) cs.length c1s, .int .i64 ((i : Int) + 1), .int .i64 dp] 67 (0, 0)) := by simpa using blk_set (blk_below HG2.out hb3) 2 (.int .i64 ((i : Int) + 1))
  have s1' := cellS67_1 HG3
  have B4 := ((HB.out.trans (HB2.out.mono HB.out.size)).trans (hb3.mono (HB.out.trans (HB2.out.mono HB.out.size)).size)).setCell (p := ⟨g, 2, none⟩) HI.out.ge (.int .i64 ((i : Int) + 1))
  have u0' := pw_cell_below B4 u0
  have u1' := pw_cell_below B4 u1
  clear hb3 F HG3 B4
  go_wp2_with (fail)
  have R := blk_set (blk_set (blk_set (blk_set HF.out 0 (.int .u8 1)) 1 (.string y.f1)) 2 (.int .i64 0)) 3 (.slice none 0 0)
  have e0 := blk_cell R 0
  have e1 := blk_cell R 1
  have e2 := blk_cell R 2
  have e3 := blk_cell R 3
  have hgw : w.heap.size ≠ g := by omega
  refine bodyPost_ret (v := .tuple #[.agg #[.int .u8 1, .string y.f1, .int .i64 0, .slice none 0 0], .int .i64 0]) ?_ rfl ⟨.slice none 0 0, rfl, ?_, ?_, ?_, Kd.R_nil _ _ _ _ _⟩
  · simp [results, Tryz.results81, go_sem, e0, e1, e2, e3]
  · refine IsS67.far (IsS67.far (IsS67.far (IsS67.far ?_ (Ne.symm hgw) _) (Ne.symm hgw) _) (Ne.symm hgw) _) (Ne.symm hgw) _
    exact (HI2.out.below HB3.out).set_2 _
  · exact ((((((HB.out.trans (HB2.out.mono HB.out.size)).trans (HB3.out.mono (HB.out.trans (HB2.out.mono HB.out.size)).size)).setCell HI.out.ge _).setCell HB.out.size _).setCell HB.out.size _).setCell HB.out.size _).setCell HB.out.size _
  · exact keep_far (keep_far (keep_far (keep_far ((KeepBut.of_below (HB2.out.trans (HB3.out.mono HB2.out.size)) g none).set_ _ _) (Nat.le_refl _) _) (Nat.le_refl _) _) (Nat.le_refl _) _) (Nat.le_refl _) _
set_option maxHeartbeats 8000000 in
set_option maxRecDepth 100000 in
theorem lics_one_noname.calls (toks : List S70) (cs : List S138) (hcl : cs.length ≤ 1000) (i : Nat) (dp : Int) (x : S70) (hi : i < toks.length) (hm : toks.length ≤ 8192) (hx : x = rd_T70 toks i) (hk : x.f0 = 1) (hci : idxC x.f1 cs 0 < 0) : PartNo toks cs 81 i dp := by
  obtain ⟨ng, hng⟩ : ∃ ng, ng = idxC x.f1 cs 0 := ⟨_, rfl⟩
  rw [← hng] at hci
  have HCI := Aside0.mk hng.symm
  have dn : decide (ng < 0) = true := decide_eq_true hci
  have HIn := Aside0.mk hi
  clear hng
  intro g w0 w hI hB
  have HI := Aside0.mk hI
  have HB := Aside0.mk hB
  have HX := Aside0.mk hx
  have q1 : decide ((i : Int) < (toks.length : Int)) = true := decide_eq_true (by omega)
  have q2 : ((i : Int) == (toks.length : Int)) = false := beq_eq_false_iff_ne.mpr (by omega)
  have q3 : (i == toks.length) = false := beq_eq_false_iff_ne.mpr (by omega)
  have q4 : IntKind.i64.wrap ((i : Int) + 1) = (i : Int) + 1 := IntWalk.i64_in _ (by omega)
  obtain ⟨A0, c0, A1, c1s, hG, hge, hS0, hS1⟩ := hI
  obtain ⟨ad, e0, x0, x1, x2, x3⟩ := at_T70 hS0 (i : Int) (by omega) (by omega)
  subst e0
  rw [← hx] at x0 x1 x2 x3
  rw [hk] at x0
  replace x0 := pw_cell_below hB x0
  replace x1 := pw_cell_below hB x1
  replace x2 := pw_cell_below hB x2
  replace x3 := pw_cell_below hB x3
  have p1 : (0 ≤ (i : Int)) = True := eq_true (by omega)
  have p2 : ((i : Int) < (toks.length : Int)) = True := eq_true (by omega)
  have p3 : (i < toks.length) = True := eq_true hi
  have g0 := cellS67_0 hG
  have g1 := cellS67_1 hG
  have g2 := cellS67_2 hG
  have g3 := cellS67_3 hG
  have gf := blk_frozen hG 2
  have HG := Aside0.mk hG
  have HS1 := Aside0.mk hS1
  clear hG hge hS0 hS1 hB hx hi
  have up : ∀ (o : Obj) {a : Addr} {v : Value}, w.cell? a = some v → (w.alloc o).cell? a = some v := fun o {a} {v} h => pw_cell_below ((Below.refl _ w).alloc (Nat.le_refl _) o) h
  have m0 := fun o => up o g0
  have m2 := fun o => up o g2
  have y0 := fun o => up o x0
  have y1 := fun o => up o x1
  have y2 := fun o => up o x2
  have y3 := fun o => up o x3
  clear up
  go_enter Tryz.func81, Tryz.ntmps81
  go_wp2_with (fail)
  go_quiet (fail)
  go_wp2_with (fail)
  generalize hW : (w.alloc (.cells #[.int .u8 0, .string ⟨#[]⟩, .int .i64 0, .slice none 0 0] 24)).drewN _ = W
  have m0' : W.cell? ⟨g, 0, none⟩ = some (.slice (some ad) toks.length c0) := by rw [← hW]; exact m0 _
  have m2' : W.cell? ⟨g, 2, none⟩ = some (.int .i64 i) := by rw [← hW]; exact m2 _
  have y0' : W.cell? (ad.add (i * 4)) = some (.int .u8 1) := by rw [← hW]; exact y0 _
  have y1' : W.cell? ⟨(ad.add (i * 4)).block, (ad.add (i * 4)).off + 1, none⟩ = some (.string x.f1) := by rw [← hW]; exact y1 _
  have y2' : W.cell? ⟨(ad.add (i * 4)).block, (ad.add (i * 4)).off + 2, none⟩ = some (.int .i64 x.f2) := by rw [← hW]; exact y2 _
  have y3' : W.cell? ⟨(ad.add (i * 4)).block, (ad.add (i * 4)).off + 3, none⟩ = some (.int .i64 x.f3) := by rw [← hW]; exact y3 _
  have HW := Aside0.mk hW
  have up2 : ∀ (o : Obj) {a : Addr} {v : Value}, W.cell? a = some v → (W.alloc o).cell? a = some v := fun o {a} {v} h => pw_cell_below ((Below.refl _ W).alloc (Nat.le_refl _) o) h
  have m0'' := fun o => up2 o m0'
  have m2'' := fun o => up2 o m2'
  have y0'' := fun o => up2 o y0'
  have y1'' := fun o => up2 o y1'
  have y2'' := fun o => up2 o y2'
  have y3'' := fun o => up2 o y3'
  clear hW m0 m2 y0 y1 y2 y3 up2
  go_region
  generalize hW2 : (W.alloc (.cells #[.int .u8 1, .string x.f1, .int .i64 x.f2, .int .i64 x.f3] 70)).drew = W2
  have b1 : W2.heap[W.heap.size]? = some (.cells #[.int .u8 1, .string x.f1, .int .i64 x.f2, .int .i64 x.f3] 70 (0, 0)) := by rw [← hW2]; exact blk_new W _
  have B1 : Below w.heap.size w W := by rw [← HW.out]; exact pw_below_drewN ((Below.refl _ w).alloc (Nat.le_refl _) _) _
  have s1 : W.heap.size = w.heap.size + 1 := by rw [← HW.out]; simp
  have HSz := Aside0.mk s1
  have B2 : Below w.heap.size w W2 := by rw [← hW2]; exact below_drew1 (B1.alloc B1.size _)
  have b2 : W2.heap[w.heap.size]? = some (.cells #[.int .u8 0, .string ⟨#[]⟩, .int .i64 0, .slice none 0 0] 24 (0, 0)) := by
    rw [← hW2]
    refine blk_drew (blk_alloc ?_ _)
    rw [← HW.out]; exact blk_drewN (blk_new w _) _
  have IW2 : IsS67 w0 W2 g toks cs i dp := HI.out.below B2
  have hG := (B2.block g HI.out.lt).trans HG.out
  have c1 := blk_cell b1 0
  have c2 := blk_cell b1 1
  have c3 := cellS67_2 hG
  have c5 := cellS67_1 hG
  have c4 := blk_frozen hG 2
  have gl := HI.out.lt
  have n1 : g ≠ W.heap.size := by omega
  have HI2 := Aside0.mk IW2
  have Hb1 := Aside0.mk b1
  have Hb2 := Aside0.mk b2
  have HB2 := Aside0.mk B2
  have HG2 := Aside0.mk hG
  have IX : ∀ w', Below W2.heap.size W2 w' → Calls Tryz.prog 105 #[.slice A1 cs.length c1s, .func (.func 106) #[] #[.pointer (some ⟨W.heap.size, 0, none⟩)]] w' fun e w2 => e = .returned (.int .i64 ng) ∧ Below w'.heap.size w' w2 := fun w' h => by
    have q := slices_IndexFunc_const.calls x.f1 W.heap.size cs A1 c1s w0 w' hcl HS1.out ((HB.out.trans (HB2.out.mono HB.out.size)).trans (h.mono (HB.out.trans (HB2.out.mono HB.out.size)).size)) (pw_cell_below h c2)
    rw [HCI.out] at q
    exact q
  have HIX := Aside0.mk IX
  clear IX
  clear s1 hG b1 b2 B1 B2 IW2 m0' m2' y0' y1' y2' y3' m0'' m2'' y0'' y1'' y2'' y3'' g0 g1 g2 g3 x0 x1 x2 x3 hW2
  go_wp2_with (first | (go_at_call 105; (with_reducible refine (HIX.out _ (Below.refl _ _)).mono ?_); rintro e_ w3 ⟨rfl, hb3⟩; have HB3 := Aside0.mk hb3; have r0 := blk_cell (blk_below Hb2.out hb3) 0; have r1 := blk_cell (blk_below Hb2.out hb3) 1; have r2 := blk_cell (blk_below Hb2.out hb3) 2; have r3 := blk_cell (blk_below Hb2.out hb3) 3; have k0 := blk_frozen (blk_below Hb2.out hb3) 0; have k1 := blk_frozen (blk_below Hb2.out hb3) 1; have k2 := blk_frozen (blk_below Hb2.out hb3) 2; have k3 := blk_frozen (blk_below Hb2.out hb3) 3; have s1' := cellS67_1 (blk_below HG2.out hb3); have s2' := cellS67_2 (blk_below HG2.out hb3); have s4' := blk_frozen (blk_below HG2.out hb3) 2; clear hb3))
  have R := blk_set (blk_set (blk_set (blk_set (blk_below Hb2.out HB3.out) 0 (.int .u8 0)) 1 (.string ⟨#[]⟩)) 2 (.int .i64 0)) 3 (.slice none 0 0)
  have e0 := blk_cell R 0
  have e1 := blk_cell R 1
  have e2 := blk_cell R 2
  have e3 := blk_cell R 3
  have hgw : w.heap.size ≠ g := by omega
  refine bodyPost_ret (v := .tuple #[.agg #[.int .u8 0, .string ⟨#[]⟩, .int .i64 0, .slice none 0 0], .int .i64 150]) ?_ rfl ⟨0, ⟨#[]⟩, 0, none, 0, 0, 150, i, dp, rfl, by decide, Nat.le_of_lt HIn.out, ?_, ?_, ?_⟩
  · simp [results, Tryz.results81, go_sem, e0, e1, e2, e3]
  · refine IsS67.far (IsS67.far (IsS67.far (IsS67.far ?_ (Ne.symm hgw) _) (Ne.symm hgw) _) (Ne.symm hgw) _) (Ne.symm hgw) _
    exact HI2.out.below HB3.out
  · exact (((((HB.out.trans (HB2.out.mono HB.out.size)).trans (HB3.out.mono (HB.out.trans (HB2.out.mono HB.out.size)).size)).setCell HB.out.size _).setCell HB.out.size _).setCell HB.out.size _).setCell HB.out.size _
  · exact keep_far (keep_far (keep_far (keep_far (KeepBut.of_below (HB2.out.trans (HB3.out.mono HB2.out.size)) g none) (Nat.le_refl _) _) (Nat.le_refl _) _) (Nat.le_refl _) _) (Nat.le_refl _) _
end Go.Proofs.YtjapfefiaijfcaaGreatDoor.Q
namespace Go.Proofs.YtjapfefiaijfcaaGreatDoor.Q
open Go.RowKit Go.Proofs.YtjapfefiaijfcaaGreatDoorW.PrintWords Go.Proofs.YtjapfefiaijfcaaGreatDoorW.PrintLast Go.Proofs.YtjapfefiaijfcaaGreatDoorW.PrintMore
set_option linter.unusedVariables false
theorem lic_bad {g : Nat} {w0 w w3 : World} {toks : List S70} {cs : List S138} {j dp : Int} {c0 c1 c2 c3 : Value} (hI : IsS67 w0 w3 g toks cs j dp) (hB : Below w0.heap.size w0 w3) (hK : KeepBut w w3 g none)
    (hb : w3.heap[w.heap.size]? = some (.cells #[c0, c1, c2, c3] 24 (0, 0))) (hw : w0.heap.size ≤ w.heap.size) (hg : g < w.heap.size) (v0 v1 v2 v3 : Value) :
    IsS67 w0 ((((w3.setCell ⟨w.heap.size, 0, none⟩ v0).setCell ⟨w.heap.size, 1, none⟩ v1).setCell ⟨w.heap.size, 2, none⟩ v2).setCell ⟨w.heap.size, 3, none⟩ v3) g toks cs j dp ∧
    Below w0.heap.size w0 ((((w3.setCell ⟨w.heap.size, 0, none⟩ v0).setCell ⟨w.heap.size, 1, none⟩ v1).setCell ⟨w.heap.size, 2, none⟩ v2).setCell ⟨w.heap.size, 3, none⟩ v3) ∧
    KeepBut w ((((w3.setCell ⟨w.heap.size, 0, none⟩ v0).setCell ⟨w.heap.size, 1, none⟩ v1).setCell ⟨w.heap.size, 2, none⟩ v2).setCell ⟨w.heap.size, 3, none⟩ v3) g none ∧
    ((((w3.setCell ⟨w.heap.size, 0, none⟩ v0).setCell ⟨w.heap.size, 1, none⟩ v1).setCell ⟨w.heap.size, 2, none⟩ v2).setCell ⟨w.heap.size, 3, none⟩ v3).heap[w.heap.size]? = some (.cells #[v0, v1, v2, v3] 24 (0, 0)) := by
  have hgw : g ≠ w.heap.size := by omega
  refine ⟨(((hI.far hgw _).far hgw _).far hgw _).far hgw _, (((hB.setCell hw _).setCell hw _).setCell hw _).setCell hw _, keep_far (keep_far (keep_far (keep_far hK (Nat.le_refl _) _) (Nat.le_refl _) _) (Nat.le_refl _) _) (Nat.le_refl _) _, ?_⟩
  have R := blk_set (blk_set (blk_set (blk_set hb 0 v0) 1 v1) 2 v2) 3 v3
  simpa using R
set_option maxHeartbeats 8000000 in
set_option maxRecDepth 100000 in
theorem lics_one_shut.calls (toks : List S70) (cs : List S138) (i : Nat) (dp : Int) (x : S70) (hi : i < toks.length) (hm : toks.length ≤ 8192) (hx : x = rd_T70 toks i) (hk1 : x.f0 ≠ 1) (hk4 : x.f0 ≠ 4) (hk5 : x.f0 ≠ 5) (er : Int) (hE : lics_reader_enter.f toks cs i dp = some (er, (i : Int), dp)) (her : er ≠ 0) : PartNo toks cs 81 i dp := by
  have HE := Aside0.mk hE
  have hern : (er == 0) = false := beq_eq_false_iff_ne.mpr her
  have HEr := Aside0.mk her
  have HIn := Aside0.mk hi
  clear hE her
  have kd5 : (x.f0 == 5) = false := beq_eq_false_iff_ne.mpr hk5
  have kd1 : (x.f0 == 1) = false := beq_eq_false_iff_ne.mpr hk1
  have kd4 : (x.f0 == 4) = false := beq_eq_false_iff_ne.mpr hk4
  intro g w0 w hI hB
  have HI := Aside0.mk hI
  have HB := Aside0.mk hB
  have HX := Aside0.mk hx
  have q1 : decide ((i : Int) < (toks.length : Int)) = true := decide_eq_true (by omega)
  have q2 : ((i : Int) == (toks.length : Int)) = false := beq_eq_false_iff_ne.mpr (by omega)
  have q3 : (i == toks.length) = false := beq_eq_false_iff_ne.mpr (by omega)
  have q4 : IntKind.i64.wrap ((i : Int) + 1) = (i : Int) + 1 := IntWalk.i64_in _ (by omega)
  obtain ⟨A0, c0, A1, c1, hG, hge, hS0, hS1⟩ := hI
  obtain ⟨ad, e0, x0, x1, x2, x3⟩ := at_T70 hS0 (i : Int) (by omega) (by omega)
  subst e0
  rw [← hx] at x0 x1 x2 x3
  replace x0 := pw_cell_below hB x0
  replace x1 := pw_cell_below hB x1
  replace x2 := pw_cell_below hB x2
  replace x3 := pw_cell_below hB x3
  have p1 : (0 ≤ (i : Int)) = True := eq_true (by omega)
  have p2 : ((i : Int) < (toks.length : Int)) = True := eq_true (by omega)
  have p3 : (i < toks.length) = True := eq_true hi
  have g0 := cellS67_0 hG
  have g1 := cellS67_1 hG
  have g2 := cellS67_2 hG
  have g3 := cellS67_3 hG
  have gf := blk_frozen hG 2
  have HG := Aside0.mk hG
  clear hG hge hS0 hS1 hB hx hi
  have up : ∀ (o : Obj) {a : Addr} {v : Value}, w.cell? a = some v → (w.alloc o).cell? a = some v := fun o {a} {v} h => pw_cell_below ((Below.refl _ w).alloc (Nat.le_refl _) o) h
  have m0 := fun o => up o g0
  have m2 := fun o => up o g2
  have y0 := fun o => up o x0
  have y1 := fun o => up o x1
  have y2 := fun o => up o x2
  have y3 := fun o => up o x3
  clear up
  go_enter Tryz.func81, Tryz.ntmps81
  go_wp2_with (fail)
  go_quiet (fail)
  go_wp2_with (fail)
  generalize hW : (w.alloc (.cells #[.int .u8 0, .string ⟨#[]⟩, .int .i64 0, .slice none 0 0] 24)).drewN _ = W
  have m0' : W.cell? ⟨g, 0, none⟩ = some (.slice (some ad) toks.length c0) := by rw [← hW]; exact m0 _
  have m2' : W.cell? ⟨g, 2, none⟩ = some (.int .i64 i) := by rw [← hW]; exact m2 _
  have y0' : W.cell? (ad.add (i * 4)) = some (.int .u8 x.f0) := by rw [← hW]; exact y0 _
  have y1' : W.cell? ⟨(ad.add (i * 4)).block, (ad.add (i * 4)).off + 1, none⟩ = some (.string x.f1) := by rw [← hW]; exact y1 _
  have y2' : W.cell? ⟨(ad.add (i * 4)).block, (ad.add (i * 4)).off + 2, none⟩ = some (.int .i64 x.f2) := by rw [← hW]; exact y2 _
  have y3' : W.cell? ⟨(ad.add (i * 4)).block, (ad.add (i * 4)).off + 3, none⟩ = some (.int .i64 x.f3) := by rw [← hW]; exact y3 _
  have HW := Aside0.mk hW
  have up2 : ∀ (o : Obj) {a : Addr} {v : Value}, W.cell? a = some v → (W.alloc o).cell? a = some v := fun o {a} {v} h => pw_cell_below ((Below.refl _ W).alloc (Nat.le_refl _) o) h
  have m0'' := fun o => up2 o m0'
  have m2'' := fun o => up2 o m2'
  have y0'' := fun o => up2 o y0'
  have y1'' := fun o => up2 o y1'
  have y2'' := fun o => up2 o y2'
  have y3'' := fun o => up2 o y3'
  clear hW m0 m2 y0 y1 y2 y3 up2
  go_region
  generalize hW2 : (W.alloc (.cells #[.int .u8 x.f0, .string x.f1, .int .i64 x.f2, .int .i64 x.f3] 70)).drew = W2
  have b1 : W2.heap[W.heap.size]? = some (.cells #[.int .u8 x.f0, .string x.f1, .int .i64 x.f2, .int .i64 x.f3] 70 (0, 0)) := by rw [← hW2]; exact blk_new W _
  have B1 : Below w.heap.size w W := by rw [← HW.out]; exact pw_below_drewN ((Below.refl _ w).alloc (Nat.le_refl _) _) _
  have s1 : W.heap.size = w.heap.size + 1 := by rw [← HW.out]; simp
  have HS1 := Aside0.mk s1
  have B2 : Below w.heap.size w W2 := by rw [← hW2]; exact below_drew1 (B1.alloc B1.size _)
  have b2 : W2.heap[w.heap.size]? = some (.cells #[.int .u8 0, .string ⟨#[]⟩, .int .i64 0, .slice none 0 0] 24 (0, 0)) := by
    rw [← hW2]
    refine blk_drew (blk_alloc ?_ _)
    rw [← HW.out]; exact blk_drewN (blk_new w _) _
  have IW2 : IsS67 w0 W2 g toks cs i dp := HI.out.below B2
  have hG := (B2.block g HI.out.lt).trans HG.out
  have c1 := blk_cell b1 0
  have c2 := blk_cell b1 1
  have c3 := cellS67_2 hG
  have c4 := blk_frozen hG 2
  have gl := HI.out.lt
  have n1 : g ≠ W.heap.size := by omega
  have HI2 := Aside0.mk IW2
  have Hb1 := Aside0.mk b1
  have Hb2 := Aside0.mk b2
  have HB2 := Aside0.mk B2
  clear s1 hG b1 b2 B1 B2 IW2 m0' m2' y0' y1' y2' y3' m0'' m2'' y0'' y1'' y2'' y3'' g0 g1 g2 g3 x0 x1 x2 x3 hW2
  go_wp2_with (fail)
  go_at_call 107
  refine (lics_reader_enter.calls g toks cs i dp er i dp w0 _ HI2.out (HB.out.trans (HB2.out.mono HB.out.size)) HE.out).mono ?_
  rintro e_ w3 ⟨rfl, hi, hb, hk⟩
  have f0 := hk.blk Hb2.out (by have := HI.out.lt; omega) (by simp)
  have HF0 := Aside0.mk f0
  have HI3 := Aside0.mk hi
  have HB3 := Aside0.mk hb
  have HK3 := Aside0.mk ((KeepBut.of_below HB2.out g none).trans hk (.inl rfl))
  have d0 := blk_cell f0 0
  have d1 := blk_cell f0 1
  have d2 := blk_cell f0 2
  have d3 := blk_cell f0 3
  have k0 := blk_frozen f0 0
  have k1 := blk_frozen f0 1
  have k2 := blk_frozen f0 2
  have k3 := blk_frozen f0 3
  clear f0 hi hb hk
  go_wp2_with (fail)
  obtain ⟨o1, o2, o3, o5⟩ := lic_bad HI3.out HB3.out HK3.out HF0.out HB.out.size HI.out.lt (.int .u8 0) (.string ⟨#[]⟩) (.int .i64 0) (.slice none 0 0)
  have e0 := blk_cell o5 0
  have e1 := blk_cell o5 1
  have e2 := blk_cell o5 2
  have e3 := blk_cell o5 3
  refine bodyPost_ret (v := .tuple #[.agg #[.int .u8 0, .string ⟨#[]⟩, .int .i64 0, .slice none 0 0], .int .i64 er]) ?_ rfl ⟨0, ⟨#[]⟩, 0, none, 0, 0, er, i, dp, rfl, HEr.out, Nat.le_of_lt HIn.out, o1, o2, o3⟩
  simp [results, Tryz.results81, go_sem, e0, e1, e2, e3]
set_option maxHeartbeats 8000000 in
set_option maxRecDepth 100000 in
theorem lics_one_end.calls (toks : List S70) (cs : List S138) (dp : Int) (hm : toks.length ≤ 8192) : PartNo toks cs 81 (toks.length : Nat) dp := by
  intro g w0 w hI hB
  have HI := Aside0.mk hI
  have HB := Aside0.mk hB
  obtain ⟨A0, c0, A1, c1, hG, hge, hS0, hS1⟩ := hI
  have g0 := cellS67_0 hG
  have g2 := cellS67_2 hG
  have up : ∀ (o : Obj) {a : Addr} {v : Value}, w.cell? a = some v → (w.alloc o).cell? a = some v := fun o {a} {v} h => pw_cell_below ((Below.refl _ w).alloc (Nat.le_refl _) o) h
  have m0 := fun o => up o g0
  have m2 := fun o => up o g2
  have hb0 : ∀ o : Obj, (w.alloc o).heap[w.heap.size]? = some o := fun o => blk_new w o
  clear up hG hge hS0 hS1 hB
  go_enter Tryz.func81, Tryz.ntmps81
  go_wp2_with (fail)
  go_quiet (fail)
  go_wp2_with (fail)
  have HW1 := Aside0.mk ((Below.refl w.heap.size w).alloc (Nat.le_refl _) (.cells #[.int .u8 0, .string ⟨#[]⟩, .int .i64 0, .slice none 0 0] 24))
  have hBW := pw_below_drewN HW1.out nq
  obtain ⟨o1, o2, o3, o5⟩ := lic_bad (HI.out.below hBW) (HB.out.trans (hBW.mono HB.out.size)) (KeepBut.of_below hBW g none) (blk_drewN (blk_new w _) nq) HB.out.size HI.out.lt (.int .u8 0) (.string ⟨#[]⟩) (.int .i64 0) (.slice none 0 0)
  have e0 := blk_cell o5 0
  have e1 := blk_cell o5 1
  have e2 := blk_cell o5 2
  have e3 := blk_cell o5 3
  refine bodyPost_ret (v := .tuple #[.agg #[.int .u8 0, .string ⟨#[]⟩, .int .i64 0, .slice none 0 0], .int .i64 150]) ?_ rfl ⟨0, ⟨#[]⟩, 0, none, 0, 0, 150, toks.length, dp, rfl, (by decide), (Nat.le_refl _), o1, o2, o3⟩
  simp [results, Tryz.results81, go_sem, e0, e1, e2, e3]
end Go.Proofs.YtjapfefiaijfcaaGreatDoor.Q
namespace Go.Proofs.YtjapfefiaijfcaaGreatDoor.Q
open Go.RowKit Go.Proofs.YtjapfefiaijfcaaGreatDoorW.PrintWords Go.Proofs.YtjapfefiaijfcaaGreatDoorW.PrintLast Go.Proofs.YtjapfefiaijfcaaGreatDoorW.PrintMore
set_option linter.unusedVariables false
set_option maxHeartbeats 8000000 in
set_option maxRecDepth 100000 in
theorem lics_one_in_no.calls (toks : List S70) (cs : List S138) (i : Nat) (dp : Int) (x : S70) (hi : i < toks.length) (hm : toks.length ≤ 8192) (hx : x = rd_T70 toks i) (hk1 : x.f0 ≠ 1) (hk4 : x.f0 ≠ 4) (hk5 : x.f0 ≠ 5) (hE : lics_reader_enter.f toks cs i dp = some (0, (i : Int) + 1, dp + 1)) (hP : PartNo toks cs 36 ((i : Int) + 1) (dp + 1)) : PartNo toks cs 81 i dp := by
  have HE := Aside0.mk hE
  have HP := Aside0.mk hP
  have HIn := Aside0.mk hi
  clear hE hP
  have kd5 : (x.f0 == 5) = false := beq_eq_false_iff_ne.mpr hk5
  have kd1 : (x.f0 == 1) = false := beq_eq_false_iff_ne.mpr hk1
  have kd4 : (x.f0 == 4) = false := beq_eq_false_iff_ne.mpr hk4
  intro g w0 w hI hB
  have HI := Aside0.mk hI
  have HB := Aside0.mk hB
  have HX := Aside0.mk hx
  have q1 : decide ((i : Int) < (toks.length : Int)) = true := decide_eq_true (by omega)
  have q2 : ((i : Int) == (toks.length : Int)) = false := beq_eq_false_iff_ne.mpr (by omega)
  have q3 : (i == toks.length) = false := beq_eq_false_iff_ne.mpr (by omega)
  have q4 : IntKind.i64.wrap ((i : Int) + 1) = (i : Int) + 1 := IntWalk.i64_in _ (by omega)
  obtain ⟨A0, c0, A1, c1, hG, hge, hS0, hS1⟩ := hI
  obtain ⟨ad, e0, x0, x1, x2, x3⟩ := at_T70 hS0 (i : Int) (by omega) (by omega)
  subst e0
  rw [← hx] at x0 x1 x2 x3
  replace x0 := pw_cell_below hB x0
  replace x1 := pw_cell_below hB x1
  replace x2 := pw_cell_below hB x2
  replace x3 := pw_cell_below hB x3
  have p1 : (0 ≤ (i : Int)) = True := eq_true (by omega)
  have p2 : ((i : Int) < (toks.length : Int)) = True := eq_true (by omega)
  have p3 : (i < toks.length) = True := eq_true hi
  have g0 := cellS67_0 hG
  have g1 := cellS67_1 hG
  have g2 := cellS67_2 hG
  have g3 := cellS67_3 hG
  have gf := blk_frozen hG 2
  have HG := Aside0.mk hG
  clear hG hge hS0 hS1 hB hx hi
  have up : ∀ (o : Obj) {a : Addr} {v : Value}, w.cell? a = some v → (w.alloc o).cell? a = some v := fun o {a} {v} h => pw_cell_below ((Below.refl _ w).alloc (Nat.le_refl _) o) h
  have m0 := fun o => up o g0
  have m2 := fun o => up o g2
  have y0 := fun o => up o x0
  have y1 := fun o => up o x1
  have y2 := fun o => up o x2
  have y3 := fun o => up o x3
  clear up
  go_enter Tryz.func81, Tryz.ntmps81
  go_wp2_with (fail)
  go_quiet (fail)
  go_wp2_with (fail)
  generalize hW : (w.alloc (.cells #[.int .u8 0, .string ⟨#[]⟩, .int .i64 0, .slice none 0 0] 24)).drewN _ = W
  have m0' : W.cell? ⟨g, 0, none⟩ = some (.slice (some ad) toks.length c0) := by rw [← hW]; exact m0 _
  have m2' : W.cell? ⟨g, 2, none⟩ = some (.int .i64 i) := by rw [← hW]; exact m2 _
  have y0' : W.cell? (ad.add (i * 4)) = some (.int .u8 x.f0) := by rw [← hW]; exact y0 _
  have y1' : W.cell? ⟨(ad.add (i * 4)).block, (ad.add (i * 4)).off + 1, none⟩ = some (.string x.f1) := by rw [← hW]; exact y1 _
  have y2' : W.cell? ⟨(ad.add (i * 4)).block, (ad.add (i * 4)).off + 2, none⟩ = some (.int .i64 x.f2) := by rw [← hW]; exact y2 _
  have y3' : W.cell? ⟨(ad.add (i * 4)).block, (ad.add (i * 4)).off + 3, none⟩ = some (.int .i64 x.f3) := by rw [← hW]; exact y3 _
  have HW := Aside0.mk hW
  have up2 : ∀ (o : Obj) {a : Addr} {v : Value}, W.cell? a = some v → (W.alloc o).cell? a = some v := fun o {a} {v} h => pw_cell_below ((Below.refl _ W).alloc (Nat.le_refl _) o) h
  have m0'' := fun o => up2 o m0'
  have m2'' := fun o => up2 o m2'
  have y0'' := fun o => up2 o y0'
  have y1'' := fun o => up2 o y1'
  have y2'' := fun o => up2 o y2'
  have y3'' := fun o => up2 o y3'
  clear hW m0 m2 y0 y1 y2 y3 up2
  go_region
  generalize hW2 : (W.alloc (.cells #[.int .u8 x.f0, .string x.f1, .int .i64 x.f2, .int .i64 x.f3] 70)).drew = W2
  have b1 : W2.heap[W.heap.size]? = some (.cells #[.int .u8 x.f0, .string x.f1, .int .i64 x.f2, .int .i64 x.f3] 70 (0, 0)) := by rw [← hW2]; exact blk_new W _
  have B1 : Below w.heap.size w W := by rw [← HW.out]; exact pw_below_drewN ((Below.refl _ w).alloc (Nat.le_refl _) _) _
  have s1 : W.heap.size = w.heap.size + 1 := by rw [← HW.out]; simp
  have HS1 := Aside0.mk s1
  have B2 : Below w.heap.size w W2 := by rw [← hW2]; exact below_drew1 (B1.alloc B1.size _)
  have b2 : W2.heap[w.heap.size]? = some (.cells #[.int .u8 0, .string ⟨#[]⟩, .int .i64 0, .slice none 0 0] 24 (0, 0)) := by
    rw [← hW2]
    refine blk_drew (blk_alloc ?_ _)
    rw [← HW.out]; exact blk_drewN (blk_new w _) _
  have IW2 : IsS67 w0 W2 g toks cs i dp := HI.out.below B2
  have hG := (B2.block g HI.out.lt).trans HG.out
  have c1 := blk_cell b1 0
  have c2 := blk_cell b1 1
  have c3 := cellS67_2 hG
  have c4 := blk_frozen hG 2
  have gl := HI.out.lt
  have n1 : g ≠ W.heap.size := by omega
  have HI2 := Aside0.mk IW2
  have Hb1 := Aside0.mk b1
  have Hb2 := Aside0.mk b2
  have HB2 := Aside0.mk B2
  clear s1 hG b1 b2 B1 B2 IW2 m0' m2' y0' y1' y2' y3' m0'' m2'' y0'' y1'' y2'' y3'' g0 g1 g2 g3 x0 x1 x2 x3 hW2
  go_wp2_with (fail)
  go_at_call 107
  refine (lics_reader_enter.calls g toks cs i dp 0 ((i : Int) + 1) (dp + 1) w0 _ HI2.out (HB.out.trans (HB2.out.mono HB.out.size)) HE.out).mono ?_
  rintro e_ w3 ⟨rfl, hi, hb, hk⟩
  have f0 := hk.blk Hb2.out (by have := HI.out.lt; omega) (by simp)
  have HF0 := Aside0.mk f0
  have HI3 := Aside0.mk hi
  have HB3 := Aside0.mk hb
  have HK3 := Aside0.mk ((KeepBut.of_below HB2.out g none).trans hk (.inl rfl))
  have d0 := blk_cell f0 0
  have d1 := blk_cell f0 1
  have d2 := blk_cell f0 2
  have d3 := blk_cell f0 3
  have k0 := blk_frozen f0 0
  have k1 := blk_frozen f0 1
  have k2 := blk_frozen f0 2
  have k3 := blk_frozen f0 3
  clear f0 hi hb hk
  clear d0 d1 d2 d3 k0 k1 k2 k3
  go_wp2_with (fail)
  go_at_call 36
  refine (HP.out g w0 _ HI3.out HB3.out).mono ?_
  rintro e_ w4 ⟨a, b, c, A, n, cap, er, j, dp2, rfl, her, hj, hi, hb, hk⟩
  have hern : (er == 0) = false := beq_eq_false_iff_ne.mpr her
  have HEr := Aside0.mk her
  have HJ := Aside0.mk hj
  have f0 := hk.blk HF0.out (by have := HI.out.lt; omega) (by simp)
  have HF4 := Aside0.mk f0
  have HI4 := Aside0.mk hi
  have HB4 := Aside0.mk hb
  have HK4 := Aside0.mk (HK3.out.trans hk (.inl rfl))
  have d0 := blk_cell f0 0
  have d1 := blk_cell f0 1
  have d2 := blk_cell f0 2
  have d3 := blk_cell f0 3
  have k0 := blk_frozen f0 0
  have k1 := blk_frozen f0 1
  have k2 := blk_frozen f0 2
  have k3 := blk_frozen f0 3
  clear f0 hi hb hk
  clear her hj
  go_wp2_with (fail)
  obtain ⟨o1, o2, o3, o5⟩ := lic_bad HI4.out HB4.out HK4.out HF4.out HB.out.size HI.out.lt (.int .u8 a) (.string b) (.int .i64 c) (.slice A n cap)
  obtain ⟨p1, p2, p3, p5⟩ := lic_bad o1 o2 o3 o5 HB.out.size HI.out.lt (.int .u8 a) (.string b) (.int .i64 c) (.slice A n cap)
  have e0 := blk_cell p5 0
  have e1 := blk_cell p5 1
  have e2 := blk_cell p5 2
  have e3 := blk_cell p5 3
  refine bodyPost_ret (v := .tuple #[.agg #[.int .u8 a, .string b, .int .i64 c, .slice A n cap], .int .i64 er]) ?_ rfl ⟨a, b, c, A, n, cap, er, j, dp2, rfl, HEr.out, HJ.out, p1, p2, p3⟩
  simp [results, Tryz.results81, go_sem, e0, e1, e2, e3]
set_option maxHeartbeats 8000000 in
set_option maxRecDepth 100000 in
theorem lics_one_in.calls (toks : List S70) (cs : List S138) (i : Nat) (dp : Int) (x : S70) (hi : i < toks.length) (hm : toks.length ≤ 8192) (hx : x = rd_T70 toks i) (hk1 : x.f0 ≠ 1) (hk4 : x.f0 ≠ 4) (hk5 : x.f0 ≠ 5) (l : S24) (j : Nat) (n2 : Int) (hE : lics_reader_enter.f toks cs i dp = some (0, (i : Int) + 1, dp + 1)) (hP : PartOK toks cs 36 ((i : Int) + 1) (dp + 1) l j) (hL : lics_reader_leave.f toks cs j (dp + 1) = some (0, n2, dp)) : PartOK toks cs 81 i dp l n2 := by
  have HE := Aside0.mk hE
  have HP := Aside0.mk hP
  have HIn := Aside0.mk hi
  clear hE hP
  have HLv := Aside0.mk hL
  clear hL
  have kd5 : (x.f0 == 5) = false := beq_eq_false_iff_ne.mpr hk5
  have kd1 : (x.f0 == 1) = false := beq_eq_false_iff_ne.mpr hk1
  have kd4 : (x.f0 == 4) = false := beq_eq_false_iff_ne.mpr hk4
  intro g w0 w hI hB
  have HI := Aside0.mk hI
  have HB := Aside0.mk hB
  have HX := Aside0.mk hx
  have q1 : decide ((i : Int) < (toks.length : Int)) = true := decide_eq_true (by omega)
  have q2 : ((i : Int) == (toks.length : Int)) = false := beq_eq_false_iff_ne.mpr (by omega)
  have q3 : (i == toks.length) = false := beq_eq_false_iff_ne.mpr (by omega)
  have q4 : IntKind.i64.wrap ((i : Int) + 1) = (i : Int) + 1 := IntWalk.i64_in _ (by omega)
  obtain ⟨A0, c0, A1, c1, hG, hge, hS0, hS1⟩ := hI
  obtain ⟨ad, e0, x0, x1, x2, x3⟩ := at_T70 hS0 (i : Int) (by omega) (by omega)
  subst e0
  rw [← hx] at x0 x1 x2 x3
  replace x0 := pw_cell_below hB x0
  replace x1 := pw_cell_below hB x1
  replace x2 := pw_cell_below hB x2
  replace x3 := pw_cell_below hB x3
  have p1 : (0 ≤ (i : Int)) = True := eq_true (by omega)
  have p2 : ((i : Int) < (toks.length : Int)) = True := eq_true (by omega)
  have p3 : (i < toks.length) = True := eq_true hi
  have g0 := cellS67_0 hG
  have g1 := cellS67_1 hG
  have g2 := cellS67_2 hG
  have g3 := cellS67_3 hG
  have gf := blk_frozen hG 2
  have HG := Aside0.mk hG
  clear hG hge hS0 hS1 hB hx hi
  have up : ∀ (o : Obj) {a : Addr} {v : Value}, w.cell? a = some v → (w.alloc o).cell? a = some v := fun o {a} {v} h => pw_cell_below ((Below.refl _ w).alloc (Nat.le_refl _) o) h
  have m0 := fun o => up o g0
  have m2 := fun o => up o g2
  have y0 := fun o => up o x0
  have y1 := fun o => up o x1
  have y2 := fun o => up o x2
  have y3 := fun o => up o x3
  clear up
  go_enter Tryz.func81, Tryz.ntmps81
  go_wp2_with (fail)
  go_quiet (fail)
  go_wp2_with (fail)
  generalize hW : (w.alloc (.cells #[.int .u8 0, .string ⟨#[]⟩, .int .i64 0, .slice none 0 0] 24)).drewN _ = W
  have m0' : W.cell? ⟨g, 0, none⟩ = some (.slice (some ad) toks.length c0) := by rw [← hW]; exact m0 _
  have m2' : W.cell? ⟨g, 2, none⟩ = some (.int .i64 i) := by rw [← hW]; exact m2 _
  have y0' : W.cell? (ad.add (i * 4)) = some (.int .u8 x.f0) := by rw [← hW]; exact y0 _
  have y1' : W.cell? ⟨(ad.add (i * 4)).block, (ad.add (i * 4)).off + 1, none⟩ = some (.string x.f1) := by rw [← hW]; exact y1 _
  have y2' : W.cell? ⟨(ad.add (i * 4)).block, (ad.add (i * 4)).off + 2, none⟩ = some (.int .i64 x.f2) := by rw [← hW]; exact y2 _
  have y3' : W.cell? ⟨(ad.add (i * 4)).block, (ad.add (i * 4)).off + 3, none⟩ = some (.int .i64 x.f3) := by rw [← hW]; exact y3 _
  have HW := Aside0.mk hW
  have up2 : ∀ (o : Obj) {a : Addr} {v : Value}, W.cell? a = some v → (W.alloc o).cell? a = some v := fun o {a} {v} h => pw_cell_below ((Below.refl _ W).alloc (Nat.le_refl _) o) h
  have m0'' := fun o => up2 o m0'
  have m2'' := fun o => up2 o m2'
  have y0'' := fun o => up2 o y0'
  have y1'' := fun o => up2 o y1'
  have y2'' := fun o => up2 o y2'
  have y3'' := fun o => up2 o y3'
  clear hW m0 m2 y0 y1 y2 y3 up2
  go_region
  generalize hW2 : (W.alloc (.cells #[.int .u8 x.f0, .string x.f1, .int .i64 x.f2, .int .i64 x.f3] 70)).drew = W2
  have b1 : W2.heap[W.heap.size]? = some (.cells #[.int .u8 x.f0, .string x.f1, .int .i64 x.f2, .int .i64 x.f3] 70 (0, 0)) := by rw [← hW2]; exact blk_new W _
  have B1 : Below w.heap.size w W := by rw [← HW.out]; exact pw_below_drewN ((Below.refl _ w).alloc (Nat.le_refl _) _) _
  have s1 : W.heap.size = w.heap.size + 1 := by rw [← HW.out]; simp
  have HS1 := Aside0.mk s1
  have B2 : Below w.heap.size w W2 := by rw [← hW2]; exact below_drew1 (B1.alloc B1.size _)
  have b2 : W2.heap[w.heap.size]? = some (.cells #[.int .u8 0, .string ⟨#[]⟩, .int .i64 0, .slice none 0 0] 24 (0, 0)) := by
    rw [← hW2]
    refine blk_drew (blk_alloc ?_ _)
    rw [← HW.out]; exact blk_drewN (blk_new w _) _
  have IW2 : IsS67 w0 W2 g toks cs i dp := HI.out.below B2
  have hG := (B2.block g HI.out.lt).trans HG.out
  have c1 := blk_cell b1 0
  have c2 := blk_cell b1 1
  have c3 := cellS67_2 hG
  have c4 := blk_frozen hG 2
  have gl := HI.out.lt
  have n1 : g ≠ W.heap.size := by omega
  have HI2 := Aside0.mk IW2
  have Hb1 := Aside0.mk b1
  have Hb2 := Aside0.mk b2
  have HB2 := Aside0.mk B2
  clear s1 hG b1 b2 B1 B2 IW2 m0' m2' y0' y1' y2' y3' m0'' m2'' y0'' y1'' y2'' y3'' g0 g1 g2 g3 x0 x1 x2 x3 hW2
  go_wp2_with (fail)
  go_at_call 107
  refine (lics_reader_enter.calls g toks cs i dp 0 ((i : Int) + 1) (dp + 1) w0 _ HI2.out (HB.out.trans (HB2.out.mono HB.out.size)) HE.out).mono ?_
  rintro e_ w3 ⟨rfl, hi, hb, hk⟩
  have f0 := hk.blk Hb2.out (by have := HI.out.lt; omega) (by simp)
  have HF0 := Aside0.mk f0
  have HI3 := Aside0.mk hi
  have HB3 := Aside0.mk hb
  have HK3 := Aside0.mk ((KeepBut.of_below HB2.out g none).trans hk (.inl rfl))
  have d0 := blk_cell f0 0
  have d1 := blk_cell f0 1
  have d2 := blk_cell f0 2
  have d3 := blk_cell f0 3
  have k0 := blk_frozen f0 0
  have k1 := blk_frozen f0 1
  have k2 := blk_frozen f0 2
  have k3 := blk_frozen f0 3
  clear f0 hi hb hk
  clear d0 d1 d2 d3 k0 k1 k2 k3
  go_wp2_with (fail)
  go_at_call 36
  refine (HP.out g w0 _ HI3.out HB3.out).mono ?_
  rintro e_ w4 ⟨v4, rfl, hi, hb, hk, hr⟩
  obtain ⟨A4, cp4, rfl⟩ := Kd.R_slice hr
  have HR4 := Aside0.mk hr
  have f0 := hk.blk HF0.out (by have := HI.out.lt; omega) (by simp)
  have HF4 := Aside0.mk f0
  have HI4 := Aside0.mk hi
  have HB4 := Aside0.mk hb
  have HK4 := Aside0.mk (HK3.out.trans hk (.inl rfl))
  have d0 := blk_cell f0 0
  have d1 := blk_cell f0 1
  have d2 := blk_cell f0 2
  have d3 := blk_cell f0 3
  have k0 := blk_frozen f0 0
  have k1 := blk_frozen f0 1
  have k2 := blk_frozen f0 2
  have k3 := blk_frozen f0 3
  clear f0 hi hb hk
  clear hr
  go_wp2_with (fail)
  have hr2 := Kd.R_lower (Kd.R_mono (Kd.R_bound HR4.out) (fun k hk => (by have := hk.2.1; have := blk_lt HF0.out; omega : k ≠ w.heap.size))) (Nat.le_of_lt (blk_lt HF0.out))
  have hr5 := Kd.R_far (Kd.R_far (Kd.R_far (Kd.R_far hr2 (fun k hk => hk) (p := ⟨w.heap.size, 0, none⟩) (.int .u8 l.f0)) (fun k hk => hk) (p := ⟨w.heap.size, 1, none⟩) (.string l.f1)) (fun k hk => hk) (p := ⟨w.heap.size, 2, none⟩) (.int .i64 l.f2)) (fun k hk => hk) (p := ⟨w.heap.size, 3, none⟩) (.slice A4 l.f3.length cp4)
  obtain ⟨o1, o2, o3, o5⟩ := lic_bad HI4.out HB4.out HK4.out HF4.out HB.out.size HI.out.lt (.int .u8 l.f0) (.string l.f1) (.int .i64 l.f2) (.slice A4 l.f3.length cp4)
  generalize ((((w4.setCell ⟨w.heap.size, 0, none⟩ (.int .u8 l.f0)).setCell ⟨w.heap.size, 1, none⟩ (.string l.f1)).setCell ⟨w.heap.size, 2, none⟩ (.int .i64 l.f2)).setCell ⟨w.heap.size, 3, none⟩ (.slice A4 l.f3.length cp4)) = W5 at hr5 o1 o2 o3 o5 ⊢
  clear d0 d1 d2 d3 k0 k1 k2 k3
  have d0 := blk_cell o5 0
  have d1 := blk_cell o5 1
  have d2 := blk_cell o5 2
  have d3 := blk_cell o5 3
  have k0 := blk_frozen o5 0
  have k1 := blk_frozen o5 1
  have k2 := blk_frozen o5 2
  have k3 := blk_frozen o5 3
  have HR5 := Aside0.mk hr5
  have HI5 := Aside0.mk o1
  have HB5 := Aside0.mk o2
  have HK5 := Aside0.mk o3
  have HF5 := Aside0.mk o5
  clear hr2 hr5 o1 o2 o3 o5
  go_region_with (first | (go_at_call 108; (refine (lics_reader_leave.calls g toks cs _ (dp + 1) 0 n2 dp w0 _ (IsS67.drew HI5.out) (below_drew1 HB5.out) HLv.out).mono ?_); rintro e_ w9 ⟨rfl, hi, hb, hk⟩; have f9 := hk.blk (blk_drew HF5.out) (by have := HI.out.lt; omega) (by simp); have hr9 := Kd.R_keep (Kd.R_drew (Kd.R_mono (Kd.R_bound HR5.out) (fun k hk => (⟨hk.1, hk.2.1⟩ : k ≠ w.heap.size ∧ w.heap.size ≤ k)))) hk (fun k hk => by have := HI.out.lt; omega); have HR9 := Aside0.mk hr9; have HI9 := Aside0.mk hi; have HB9 := Aside0.mk hb; have HF9 := Aside0.mk f9; have HK9 := Aside0.mk ((keep_drew HK5.out).trans hk (.inl rfl)); clear hr9 hi hb hk d0 d1 d2 d3 k0 k1 k2 k3; have d0 := blk_cell f9 0; have d1 := blk_cell f9 1; have d2 := blk_cell f9 2; have d3 := blk_cell f9 3; have k0 := blk_frozen f9 0; have k1 := blk_frozen f9 1; have k2 := blk_frozen f9 2; have k3 := blk_frozen f9 3; clear f9))
  all_goals go_wp2_with (fail)
  all_goals (obtain ⟨o1, o2, o3, o4, o5⟩ := lic_out (r := l) HI9.out HB9.out HK9.out HF9.out (Kd.R_mono HR9.out (fun k hk => hk.1)) HB.out.size HI.out.lt; have e0 := blk_cell o5 0; have e1 := blk_cell o5 1; have e2 := blk_cell o5 2; have e3 := blk_cell o5 3; refine bodyPost_ret (v := .tuple #[.agg #[.int .u8 l.f0, .string l.f1, .int .i64 l.f2, .slice A4 l.f3.length cp4], .int .i64 0]) ?_ rfl ⟨_, rfl, o1, o2, o3, o4⟩; simp [results, Tryz.results81, go_sem, e0, e1, e2, e3])
set_option maxHeartbeats 8000000 in
set_option maxRecDepth 100000 in
theorem lics_one_open.calls (toks : List S70) (cs : List S138) (i : Nat) (dp : Int) (x : S70) (hi : i < toks.length) (hm : toks.length ≤ 8192) (hx : x = rd_T70 toks i) (hk1 : x.f0 ≠ 1) (hk4 : x.f0 ≠ 4) (hk5 : x.f0 ≠ 5) (l : S24) (j : Nat) (er : Int) (her : er ≠ 0) (hj : j ≤ toks.length) (hE : lics_reader_enter.f toks cs i dp = some (0, (i : Int) + 1, dp + 1)) (hP : PartOK toks cs 36 ((i : Int) + 1) (dp + 1) l j) (hL : lics_reader_leave.f toks cs j (dp + 1) = some (er, (j : Int), dp + 1)) : PartNo toks cs 81 i dp := by
  have HE := Aside0.mk hE
  have HP := Aside0.mk hP
  have HIn := Aside0.mk hi
  clear hE hP
  have HLv := Aside0.mk hL
  have HEr := Aside0.mk her
  have HJ := Aside0.mk hj
  clear her hj
  clear hL
  have kd5 : (x.f0 == 5) = false := beq_eq_false_iff_ne.mpr hk5
  have kd1 : (x.f0 == 1) = false := beq_eq_false_iff_ne.mpr hk1
  have kd4 : (x.f0 == 4) = false := beq_eq_false_iff_ne.mpr hk4
  intro g w0 w hI hB
  have HI := Aside0.mk hI
  have HB := Aside0.mk hB
  have HX := Aside0.mk hx
  have q1 : decide ((i : Int) < (toks.length : Int)) = true := decide_eq_true (by omega)
  have q2 : ((i : Int) == (toks.length : Int)) = false := beq_eq_false_iff_ne.mpr (by omega)
  have q3 : (i == toks.length) = false := beq_eq_false_iff_ne.mpr (by omega)
  have q4 : IntKind.i64.wrap ((i : Int) + 1) = (i : Int) + 1 := IntWalk.i64_in _ (by omega)
  obtain ⟨A0, c0, A1, c1, hG, hge, hS0, hS1⟩ := hI
  obtain ⟨ad, e0, x0, x1, x2, x3⟩ := at_T70 hS0 (i : Int) (by omega) (by omega)
  subst e0
  rw [← hx] at x0 x1 x2 x3
  replace x0 := pw_cell_below hB x0
  replace x1 := pw_cell_below hB x1
  replace x2 := pw_cell_below hB x2
  replace x3 := pw_cell_below hB x3
  have p1 : (0 ≤ (i : Int)) = True := eq_true (by omega)
  have p2 : ((i : Int) < (toks.length : Int)) = True := eq_true (by omega)
  have p3 : (i < toks.length) = True := eq_true hi
  have g0 := cellS67_0 hG
  have g1 := cellS67_1 hG
  have g2 := cellS67_2 hG
  have g3 := cellS67_3 hG
  have gf := blk_frozen hG 2
  have HG := Aside0.mk hG
  clear hG hge hS0 hS1 hB hx hi
  have up : ∀ (o : Obj) {a : Addr} {v : Value}, w.cell? a = some v → (w.alloc o).cell? a = some v := fun o {a} {v} h => pw_cell_below ((Below.refl _ w).alloc (Nat.le_refl _) o) h
  have m0 := fun o => up o g0
  have m2 := fun o => up o g2
  have y0 := fun o => up o x0
  have y1 := fun o => up o x1
  have y2 := fun o => up o x2
  have y3 := fun o => up o x3
  clear up
  go_enter Tryz.func81, Tryz.ntmps81
  go_wp2_with (fail)
  go_quiet (fail)
  go_wp2_with (fail)
  generalize hW : (w.alloc (.cells #[.int .u8 0, .string ⟨#[]⟩, .int .i64 0, .slice none 0 0] 24)).drewN _ = W
  have m0' : W.cell? ⟨g, 0, none⟩ = some (.slice (some ad) toks.length c0) := by rw [← hW]; exact m0 _
  have m2' : W.cell? ⟨g, 2, none⟩ = some (.int .i64 i) := by rw [← hW]; exact m2 _
  have y0' : W.cell? (ad.add (i * 4)) = some (.int .u8 x.f0) := by rw [← hW]; exact y0 _
  have y1' : W.cell? ⟨(ad.add (i * 4)).block, (ad.add (i * 4)).off + 1, none⟩ = some (.string x.f1) := by rw [← hW]; exact y1 _
  have y2' : W.cell? ⟨(ad.add (i * 4)).block, (ad.add (i * 4)).off + 2, none⟩ = some (.int .i64 x.f2) := by rw [← hW]; exact y2 _
  have y3' : W.cell? ⟨(ad.add (i * 4)).block, (ad.add (i * 4)).off + 3, none⟩ = some (.int .i64 x.f3) := by rw [← hW]; exact y3 _
  have HW := Aside0.mk hW
  have up2 : ∀ (o : Obj) {a : Addr} {v : Value}, W.cell? a = some v → (W.alloc o).cell? a = some v := fun o {a} {v} h => pw_cell_below ((Below.refl _ W).alloc (Nat.le_refl _) o) h
  have m0'' := fun o => up2 o m0'
  have m2'' := fun o => up2 o m2'
  have y0'' := fun o => up2 o y0'
  have y1'' := fun o => up2 o y1'
  have y2'' := fun o => up2 o y2'
  have y3'' := fun o => up2 o y3'
  clear hW m0 m2 y0 y1 y2 y3 up2
  go_region
  generalize hW2 : (W.alloc (.cells #[.int .u8 x.f0, .string x.f1, .int .i64 x.f2, .int .i64 x.f3] 70)).drew = W2
  have b1 : W2.heap[W.heap.size]? = some (.cells #[.int .u8 x.f0, .string x.f1, .int .i64 x.f2, .int .i64 x.f3] 70 (0, 0)) := by rw [← hW2]; exact blk_new W _
  have B1 : Below w.heap.size w W := by rw [← HW.out]; exact pw_below_drewN ((Below.refl _ w).alloc (Nat.le_refl _) _) _
  have s1 : W.heap.size = w.heap.size + 1 := by rw [← HW.out]; simp
  have HS1 := Aside0.mk s1
  have B2 : Below w.heap.size w W2 := by rw [← hW2]; exact below_drew1 (B1.alloc B1.size _)
  have b2 : W2.heap[w.heap.size]? = some (.cells #[.int .u8 0, .string ⟨#[]⟩, .int .i64 0, .slice none 0 0] 24 (0, 0)) := by
    rw [← hW2]
    refine blk_drew (blk_alloc ?_ _)
    rw [← HW.out]; exact blk_drewN (blk_new w _) _
  have IW2 : IsS67 w0 W2 g toks cs i dp := HI.out.below B2
  have hG := (B2.block g HI.out.lt).trans HG.out
  have c1 := blk_cell b1 0
  have c2 := blk_cell b1 1
  have c3 := cellS67_2 hG
  have c4 := blk_frozen hG 2
  have gl := HI.out.lt
  have n1 : g ≠ W.heap.size := by omega
  have HI2 := Aside0.mk IW2
  have Hb1 := Aside0.mk b1
  have Hb2 := Aside0.mk b2
  have HB2 := Aside0.mk B2
  clear s1 hG b1 b2 B1 B2 IW2 m0' m2' y0' y1' y2' y3' m0'' m2'' y0'' y1'' y2'' y3'' g0 g1 g2 g3 x0 x1 x2 x3 hW2
  go_wp2_with (fail)
  go_at_call 107
  refine (lics_reader_enter.calls g toks cs i dp 0 ((i : Int) + 1) (dp + 1) w0 _ HI2.out (HB.out.trans (HB2.out.mono HB.out.size)) HE.out).mono ?_
  rintro e_ w3 ⟨rfl, hi, hb, hk⟩
  have f0 := hk.blk Hb2.out (by have := HI.out.lt; omega) (by simp)
  have HF0 := Aside0.mk f0
  have HI3 := Aside0.mk hi
  have HB3 := Aside0.mk hb
  have HK3 := Aside0.mk ((KeepBut.of_below HB2.out g none).trans hk (.inl rfl))
  have d0 := blk_cell f0 0
  have d1 := blk_cell f0 1
  have d2 := blk_cell f0 2
  have d3 := blk_cell f0 3
  have k0 := blk_frozen f0 0
  have k1 := blk_frozen f0 1
  have k2 := blk_frozen f0 2
  have k3 := blk_frozen f0 3
  clear f0 hi hb hk
  clear d0 d1 d2 d3 k0 k1 k2 k3
  go_wp2_with (fail)
  go_at_call 36
  refine (HP.out g w0 _ HI3.out HB3.out).mono ?_
  rintro e_ w4 ⟨v4, rfl, hi, hb, hk, hr⟩
  obtain ⟨A4, cp4, rfl⟩ := Kd.R_slice hr
  have HR4 := Aside0.mk hr
  have f0 := hk.blk HF0.out (by have := HI.out.lt; omega) (by simp)
  have HF4 := Aside0.mk f0
  have HI4 := Aside0.mk hi
  have HB4 := Aside0.mk hb
  have HK4 := Aside0.mk (HK3.out.trans hk (.inl rfl))
  have d0 := blk_cell f0 0
  have d1 := blk_cell f0 1
  have d2 := blk_cell f0 2
  have d3 := blk_cell f0 3
  have k0 := blk_frozen f0 0
  have k1 := blk_frozen f0 1
  have k2 := blk_frozen f0 2
  have k3 := blk_frozen f0 3
  clear f0 hi hb hk
  clear hr
  go_wp2_with (fail)
  have hr2 := Kd.R_lower (Kd.R_mono (Kd.R_bound HR4.out) (fun k hk => (by have := hk.2.1; have := blk_lt HF0.out; omega : k ≠ w.heap.size))) (Nat.le_of_lt (blk_lt HF0.out))
  have hr5 := Kd.R_far (Kd.R_far (Kd.R_far (Kd.R_far hr2 (fun k hk => hk) (p := ⟨w.heap.size, 0, none⟩) (.int .u8 l.f0)) (fun k hk => hk) (p := ⟨w.heap.size, 1, none⟩) (.string l.f1)) (fun k hk => hk) (p := ⟨w.heap.size, 2, none⟩) (.int .i64 l.f2)) (fun k hk => hk) (p := ⟨w.heap.size, 3, none⟩) (.slice A4 l.f3.length cp4)
  obtain ⟨o1, o2, o3, o5⟩ := lic_bad HI4.out HB4.out HK4.out HF4.out HB.out.size HI.out.lt (.int .u8 l.f0) (.string l.f1) (.int .i64 l.f2) (.slice A4 l.f3.length cp4)
  generalize ((((w4.setCell ⟨w.heap.size, 0, none⟩ (.int .u8 l.f0)).setCell ⟨w.heap.size, 1, none⟩ (.string l.f1)).setCell ⟨w.heap.size, 2, none⟩ (.int .i64 l.f2)).setCell ⟨w.heap.size, 3, none⟩ (.slice A4 l.f3.length cp4)) = W5 at hr5 o1 o2 o3 o5 ⊢
  clear d0 d1 d2 d3 k0 k1 k2 k3
  have d0 := blk_cell o5 0
  have d1 := blk_cell o5 1
  have d2 := blk_cell o5 2
  have d3 := blk_cell o5 3
  have k0 := blk_frozen o5 0
  have k1 := blk_frozen o5 1
  have k2 := blk_frozen o5 2
  have k3 := blk_frozen o5 3
  have HR5 := Aside0.mk hr5
  have HI5 := Aside0.mk o1
  have HB5 := Aside0.mk o2
  have HK5 := Aside0.mk o3
  have HF5 := Aside0.mk o5
  clear hr2 hr5 o1 o2 o3 o5
  go_region_with (first | (go_at_call 108; (refine (lics_reader_leave.calls g toks cs _ (dp + 1) er j (dp + 1) w0 _ (IsS67.drew HI5.out) (below_drew1 HB5.out) HLv.out).mono ?_); rintro e_ w9 ⟨rfl, hi, hb, hk⟩; have f9 := hk.blk (blk_drew HF5.out) (by have := HI.out.lt; omega) (by simp); have hr9 := Kd.R_keep (Kd.R_drew (Kd.R_mono (Kd.R_bound HR5.out) (fun k hk => (⟨hk.1, hk.2.1⟩ : k ≠ w.heap.size ∧ w.heap.size ≤ k)))) hk (fun k hk => by have := HI.out.lt; omega); have HR9 := Aside0.mk hr9; have HI9 := Aside0.mk hi; have HB9 := Aside0.mk hb; have HF9 := Aside0.mk f9; have HK9 := Aside0.mk ((keep_drew HK5.out).trans hk (.inl rfl)); clear hr9 hi hb hk d0 d1 d2 d3 k0 k1 k2 k3; have d0 := blk_cell f9 0; have d1 := blk_cell f9 1; have d2 := blk_cell f9 2; have d3 := blk_cell f9 3; have k0 := blk_frozen f9 0; have k1 := blk_frozen f9 1; have k2 := blk_frozen f9 2; have k3 := blk_frozen f9 3; clear f9))
  all_goals go_wp2_with (fail)
  all_goals (obtain ⟨o1, o2, o3, o4, o5⟩ := lic_out (r := l) HI9.out HB9.out HK9.out HF9.out (Kd.R_mono HR9.out (fun k hk => hk.1)) HB.out.size HI.out.lt; have e0 := blk_cell o5 0; have e1 := blk_cell o5 1; have e2 := blk_cell o5 2; have e3 := blk_cell o5 3; refine bodyPost_ret (v := .tuple #[.agg #[.int .u8 l.f0, .string l.f1, .int .i64 l.f2, .slice A4 l.f3.length cp4], .int .i64 er]) ?_ rfl ⟨l.f0, l.f1, l.f2, A4, l.f3.length, cp4, er, j, dp + 1, rfl, HEr.out, HJ.out, o1, o2, o3⟩; simp [results, Tryz.results81, go_sem, e0, e1, e2, e3])
end Go.Proofs.YtjapfefiaijfcaaGreatDoor.Q
namespace Go.Proofs.YtjapfefiaijfcaaGreatDoor.Q
open Go.RowKit Go.Proofs.YtjapfefiaijfcaaGreatDoorW.PrintWords Go.Proofs.YtjapfefiaijfcaaGreatDoorW.PrintLast Go.Proofs.YtjapfefiaijfcaaGreatDoorW.PrintMore
set_option linter.unusedVariables false
set_option maxHeartbeats 8000000 in
set_option maxRecDepth 100000 in
theorem lics_one_of_no.calls (toks : List S70) (cs : List S138) (i : Nat) (dp : Int) (x : S70) (hi : i < toks.length) (hm : toks.length ≤ 8192) (hx : x = rd_T70 toks i) (hk : x.f0 = 5) (hP : PartNo toks cs 104 i dp) : PartNo toks cs 81 i dp := by
  intro g w0 w hI hB
  have HI := Aside0.mk hI
  have HB := Aside0.mk hB
  have HX := Aside0.mk hx
  have HP := Aside0.mk hP
  clear hP
  have q1 : decide ((i : Int) < (toks.length : Int)) = true := decide_eq_true (by omega)
  have q2 : ((i : Int) == (toks.length : Int)) = false := beq_eq_false_iff_ne.mpr (by omega)
  have q3 : (i == toks.length) = false := beq_eq_false_iff_ne.mpr (by omega)
  have q4 : IntKind.i64.wrap ((i : Int) + 1) = (i : Int) + 1 := IntWalk.i64_in _ (by omega)
  obtain ⟨A0, c0, A1, c1, hG, hge, hS0, hS1⟩ := hI
  obtain ⟨ad, e0, x0, x1, x2, x3⟩ := at_T70 hS0 (i : Int) (by omega) (by omega)
  subst e0
  rw [← hx] at x0 x1 x2 x3
  rw [hk] at x0
  replace x0 := pw_cell_below hB x0
  replace x1 := pw_cell_below hB x1
  replace x2 := pw_cell_below hB x2
  replace x3 := pw_cell_below hB x3
  have p1 : (0 ≤ (i : Int)) = True := eq_true (by omega)
  have p2 : ((i : Int) < (toks.length : Int)) = True := eq_true (by omega)
  have p3 : (i < toks.length) = True := eq_true hi
  have g0 := cellS67_0 hG
  have g1 := cellS67_1 hG
  have g2 := cellS67_2 hG
  have g3 := cellS67_3 hG
  have gf := blk_frozen hG 2
  have HG := Aside0.mk hG
  clear hG hge hS0 hS1 hB hx hi
  have up : ∀ (o : Obj) {a : Addr} {v : Value}, w.cell? a = some v → (w.alloc o).cell? a = some v := fun o {a} {v} h => pw_cell_below ((Below.refl _ w).alloc (Nat.le_refl _) o) h
  have m0 := fun o => up o g0
  have m2 := fun o => up o g2
  have y0 := fun o => up o x0
  have y1 := fun o => up o x1
  have y2 := fun o => up o x2
  have y3 := fun o => up o x3
  clear up
  go_enter Tryz.func81, Tryz.ntmps81
  go_wp2_with (fail)
  go_quiet (fail)
  go_wp2_with (fail)
  generalize hW : (w.alloc (.cells #[.int .u8 0, .string ⟨#[]⟩, .int .i64 0, .slice none 0 0] 24)).drewN _ = W
  have m0' : W.cell? ⟨g, 0, none⟩ = some (.slice (some ad) toks.length c0) := by rw [← hW]; exact m0 _
  have m2' : W.cell? ⟨g, 2, none⟩ = some (.int .i64 i) := by rw [← hW]; exact m2 _
  have y0' : W.cell? (ad.add (i * 4)) = some (.int .u8 5) := by rw [← hW]; exact y0 _
  have y1' : W.cell? ⟨(ad.add (i * 4)).block, (ad.add (i * 4)).off + 1, none⟩ = some (.string x.f1) := by rw [← hW]; exact y1 _
  have y2' : W.cell? ⟨(ad.add (i * 4)).block, (ad.add (i * 4)).off + 2, none⟩ = some (.int .i64 x.f2) := by rw [← hW]; exact y2 _
  have y3' : W.cell? ⟨(ad.add (i * 4)).block, (ad.add (i * 4)).off + 3, none⟩ = some (.int .i64 x.f3) := by rw [← hW]; exact y3 _
  have HW := Aside0.mk hW
  have up2 : ∀ (o : Obj) {a : Addr} {v : Value}, W.cell? a = some v → (W.alloc o).cell? a = some v := fun o {a} {v} h => pw_cell_below ((Below.refl _ W).alloc (Nat.le_refl _) o) h
  have m0'' := fun o => up2 o m0'
  have m2'' := fun o => up2 o m2'
  have y0'' := fun o => up2 o y0'
  have y1'' := fun o => up2 o y1'
  have y2'' := fun o => up2 o y2'
  have y3'' := fun o => up2 o y3'
  clear hW m0 m2 y0 y1 y2 y3 up2
  go_region
  generalize hW2 : (W.alloc (.cells #[.int .u8 5, .string x.f1, .int .i64 x.f2, .int .i64 x.f3] 70)).drew = W2
  have b1 : W2.heap[W.heap.size]? = some (.cells #[.int .u8 5, .string x.f1, .int .i64 x.f2, .int .i64 x.f3] 70 (0, 0)) := by rw [← hW2]; exact blk_new W _
  have B1 : Below w.heap.size w W := by rw [← HW.out]; exact pw_below_drewN ((Below.refl _ w).alloc (Nat.le_refl _) _) _
  have s1 : W.heap.size = w.heap.size + 1 := by rw [← HW.out]; simp
  have HS1 := Aside0.mk s1
  have B2 : Below w.heap.size w W2 := by rw [← hW2]; exact below_drew1 (B1.alloc B1.size _)
  have b2 : W2.heap[w.heap.size]? = some (.cells #[.int .u8 0, .string ⟨#[]⟩, .int .i64 0, .slice none 0 0] 24 (0, 0)) := by
    rw [← hW2]
    refine blk_drew (blk_alloc ?_ _)
    rw [← HW.out]; exact blk_drewN (blk_new w _) _
  have IW2 : IsS67 w0 W2 g toks cs i dp := HI.out.below B2
  have hG := (B2.block g HI.out.lt).trans HG.out
  have c1 := blk_cell b1 0
  have c2 := blk_cell b1 1
  have c3 := cellS67_2 hG
  have c4 := blk_frozen hG 2
  have gl := HI.out.lt
  have n1 : g ≠ W.heap.size := by omega
  have HI2 := Aside0.mk IW2
  have Hb1 := Aside0.mk b1
  have Hb2 := Aside0.mk b2
  have HB2 := Aside0.mk B2
  clear s1 c2 c3 c4 hG b1 b2 B1 B2 IW2 m0' m2' y0' y1' y2' y3' m0'' m2'' y0'' y1'' y2'' y3'' g0 g1 g2 g3 x0 x1 x2 x3 hW2
  go_wp2_with (fail)
  go_at_call 104
  refine (HP.out g w0 _ HI2.out (HB.out.trans (HB2.out.mono HB.out.size))).mono ?_
  rintro e_ w3 ⟨a, b, c, A, n, cap, er, j, dp2, rfl, her, hj, hi, hb, hk⟩
  have HEr := Aside0.mk her
  have HJ := Aside0.mk hj
  have f0 := hk.blk Hb2.out (by have := HI.out.lt; omega) (by simp)
  have HF0 := Aside0.mk f0
  have HI3 := Aside0.mk hi
  have HB3 := Aside0.mk hb
  have HK3 := Aside0.mk ((KeepBut.of_below HB2.out g none).trans hk (.inl rfl))
  have d0 := blk_cell f0 0
  have d1 := blk_cell f0 1
  have d2 := blk_cell f0 2
  have d3 := blk_cell f0 3
  have k0 := blk_frozen f0 0
  have k1 := blk_frozen f0 1
  have k2 := blk_frozen f0 2
  have k3 := blk_frozen f0 3
  clear f0 hi hb hk her hj
  go_wp2_with (fail)
  obtain ⟨p1, p2, p3, p5⟩ := lic_bad HI3.out HB3.out HK3.out HF0.out HB.out.size HI.out.lt (.int .u8 a) (.string b) (.int .i64 c) (.slice A n cap)
  have e0 := blk_cell p5 0
  have e1 := blk_cell p5 1
  have e2 := blk_cell p5 2
  have e3 := blk_cell p5 3
  refine bodyPost_ret (v := .tuple #[.agg #[.int .u8 a, .string b, .int .i64 c, .slice A n cap], .int .i64 er]) ?_ rfl ⟨a, b, c, A, n, cap, er, j, dp2, rfl, HEr.out, HJ.out, p1, p2, p3⟩
  simp [results, Tryz.results81, go_sem, e0, e1, e2, e3]
end Go.Proofs.YtjapfefiaijfcaaGreatDoor.Q
namespace Go.Proofs.YtjapfefiaijfcaaGreatDoor.Q
open Go.RowKit Go.Proofs.YtjapfefiaijfcaaGreatDoorW.PrintWords Go.Proofs.YtjapfefiaijfcaaGreatDoorW.PrintLast Go.Proofs.YtjapfefiaijfcaaGreatDoorW.PrintMore
set_option linter.unusedVariables false
set_option maxHeartbeats 8000000 in
set_option maxRecDepth 100000 in
theorem lics_chain_81_no.calls (toks : List S70) (cs : List S138) (s : ByteArray) (op : Int) (i dp : Int) (hP : PartNo toks cs 81 i dp)
    (g : Nat) (w0 w : World) (hI : IsS67 w0 w g toks cs i dp) (hB : Below w0.heap.size w0 w) :
    Calls Tryz.prog 58 #[.pointer (some ⟨g, 0, none⟩), .string s, .int .u8 op, .func (.func 81) #[.pointer (some ⟨g, 0, none⟩)] #[]] w (LicBad g w0 w toks cs) := by
  have HI := Aside0.mk hI
  have HB := Aside0.mk hB
  have HP := Aside0.mk hP
  clear hI hB hP
  go_enter Tryz.func58, Tryz.ntmps58
  have a1 : ∀ o : Obj, IsS67 w0 (w.alloc o) g toks cs i dp := fun o => HI.out.alloc o
  have a2 : ∀ o : Obj, Below w0.heap.size w0 (w.alloc o) := fun o => HB.out.alloc HB.out.size o
  have HA1 := Aside0.mk a1
  have HA2 := Aside0.mk a2
  clear a1 a2
  go_wp2_with (fail)
  go_at_call 81
  refine (HP.out g w0 _ (HA1.out _) (HA2.out _)).mono ?_
  rintro e_ w1 ⟨a, b, c, A, n, cap, er, j, dp2, rfl, her, hj, hi, hb, hk⟩
  have hern : (er == 0) = false := beq_eq_false_iff_ne.mpr her
  have HEr := Aside0.mk her
  have HJ := Aside0.mk hj
  have HI1 := Aside0.mk hi
  have HB1 := Aside0.mk hb
  have HK1 := Aside0.mk hk
  have hr0 : w1.heap[w.heap.size]? = some (.cells #[.int .u8 0, .string ⟨#[]⟩, .int .i64 0, .slice none 0 0] 24 (0, 0)) := hk.blk (blk_new w _) (by have := HI.out.lt; omega) (by simp)
  have HR0 := Aside0.mk hr0
  clear her hj hi hb hk hr0
  go_wp2_with (fail)
  go_loopw [11] (fun u wr => u = .int .i64 er ∧ wr = w1.alloc (.cells #[.int .u8 a, .string b, .int .i64 c, .slice A n cap] 24)) (fun _ wr => 0)
  case atStart => exact ⟨rfl, rfl⟩
  case round =>
    obtain ⟨rfl, rfl⟩ := hrel
    have f1 := blk_new w1 (.cells #[.int .u8 a, .string b, .int .i64 c, .slice A n cap] 24)
    have f0 := blk_alloc HR0.out (.cells #[.int .u8 a, .string b, .int .i64 c, .slice A n cap] 24)
    have F0 := Aside0.mk f0
    have c0 := blk_cell f1 0
    have c1 := blk_cell f1 1
    have c2 := blk_cell f1 2
    have c3 := blk_cell f1 3
    have d0 := blk_cell f0 0
    have d1 := blk_cell f0 1
    have d2 := blk_cell f0 2
    have d3 := blk_cell f0 3
    have k0 := blk_frozen f0 0
    have k1 := blk_frozen f0 1
    have k2 := blk_frozen f0 2
    have k3 := blk_frozen f0 3
    clear f0 f1
    go_wp2_with (fail)
    obtain ⟨p1, p2, p3, p5⟩ := lic_bad (HI1.out.alloc _) (HB1.out.alloc HB1.out.size _) (keep_alloc ((keep_alloc (KeepBut.refl w g none) _).trans HK1.out (.inl rfl)) _) F0.out HB.out.size HI.out.lt (.int .u8 a) (.string b) (.int .i64 c) (.slice A n cap)
    have e0 := blk_cell p5 0
    have e1 := blk_cell p5 1
    have e2 := blk_cell p5 2
    have e3 := blk_cell p5 3
    refine bodyPost_ret (v := .tuple #[.agg #[.int .u8 a, .string b, .int .i64 c, .slice A n cap], .int .i64 er]) ?_ rfl ⟨a, b, c, A, n, cap, er, j, dp2, rfl, HEr.out, HJ.out, p1, p2, p3⟩
    simp [results, Tryz.results58, go_sem, e0, e1, e2, e3]
set_option maxHeartbeats 8000000 in
set_option maxRecDepth 100000 in
theorem lics_chain_59_no.calls (toks : List S70) (cs : List S138) (s : ByteArray) (op : Int) (i dp : Int) (hP : PartNo toks cs 59 i dp)
    (g : Nat) (w0 w : World) (hI : IsS67 w0 w g toks cs i dp) (hB : Below w0.heap.size w0 w) :
    Calls Tryz.prog 58 #[.pointer (some ⟨g, 0, none⟩), .string s, .int .u8 op, .func (.func 59) #[.pointer (some ⟨g, 0, none⟩)] #[]] w (LicBad g w0 w toks cs) := by
  have HI := Aside0.mk hI
  have HB := Aside0.mk hB
  have HP := Aside0.mk hP
  clear hI hB hP
  go_enter Tryz.func58, Tryz.ntmps58
  have a1 : ∀ o : Obj, IsS67 w0 (w.alloc o) g toks cs i dp := fun o => HI.out.alloc o
  have a2 : ∀ o : Obj, Below w0.heap.size w0 (w.alloc o) := fun o => HB.out.alloc HB.out.size o
  have HA1 := Aside0.mk a1
  have HA2 := Aside0.mk a2
  clear a1 a2
  go_wp2_with (fail)
  go_at_call 59
  refine (HP.out g w0 _ (HA1.out _) (HA2.out _)).mono ?_
  rintro e_ w1 ⟨a, b, c, A, n, cap, er, j, dp2, rfl, her, hj, hi, hb, hk⟩
  have hern : (er == 0) = false := beq_eq_false_iff_ne.mpr her
  have HEr := Aside0.mk her
  have HJ := Aside0.mk hj
  have HI1 := Aside0.mk hi
  have HB1 := Aside0.mk hb
  have HK1 := Aside0.mk hk
  have hr0 : w1.heap[w.heap.size]? = some (.cells #[.int .u8 0, .string ⟨#[]⟩, .int .i64 0, .slice none 0 0] 24 (0, 0)) := hk.blk (blk_new w _) (by have := HI.out.lt; omega) (by simp)
  have HR0 := Aside0.mk hr0
  clear her hj hi hb hk hr0
  go_wp2_with (fail)
  go_loopw [11] (fun u wr => u = .int .i64 er ∧ wr = w1.alloc (.cells #[.int .u8 a, .string b, .int .i64 c, .slice A n cap] 24)) (fun _ wr => 0)
  case atStart => exact ⟨rfl, rfl⟩
  case round =>
    obtain ⟨rfl, rfl⟩ := hrel
    have f1 := blk_new w1 (.cells #[.int .u8 a, .string b, .int .i64 c, .slice A n cap] 24)
    have f0 := blk_alloc HR0.out (.cells #[.int .u8 a, .string b, .int .i64 c, .slice A n cap] 24)
    have F0 := Aside0.mk f0
    have c0 := blk_cell f1 0
    have c1 := blk_cell f1 1
    have c2 := blk_cell f1 2
    have c3 := blk_cell f1 3
    have d0 := blk_cell f0 0
    have d1 := blk_cell f0 1
    have d2 := blk_cell f0 2
    have d3 := blk_cell f0 3
    have k0 := blk_frozen f0 0
    have k1 := blk_frozen f0 1
    have k2 := blk_frozen f0 2
    have k3 := blk_frozen f0 3
    clear f0 f1
    go_wp2_with (fail)
    obtain ⟨p1, p2, p3, p5⟩ := lic_bad (HI1.out.alloc _) (HB1.out.alloc HB1.out.size _) (keep_alloc ((keep_alloc (KeepBut.refl w g none) _).trans HK1.out (.inl rfl)) _) F0.out HB.out.size HI.out.lt (.int .u8 a) (.string b) (.int .i64 c) (.slice A n cap)
    have e0 := blk_cell p5 0
    have e1 := blk_cell p5 1
    have e2 := blk_cell p5 2
    have e3 := blk_cell p5 3
    refine bodyPost_ret (v := .tuple #[.agg #[.int .u8 a, .string b, .int .i64 c, .slice A n cap], .int .i64 er]) ?_ rfl ⟨a, b, c, A, n, cap, er, j, dp2, rfl, HEr.out, HJ.out, p1, p2, p3⟩
    simp [results, Tryz.results58, go_sem, e0, e1, e2, e3]
end Go.Proofs.YtjapfefiaijfcaaGreatDoor.Q
namespace Go.Proofs.YtjapfefiaijfcaaGreatDoor.Q
open Go.RowKit Go.Proofs.YtjapfefiaijfcaaGreatDoorW.PrintWords Go.Proofs.YtjapfefiaijfcaaGreatDoorW.PrintLast Go.Proofs.YtjapfefiaijfcaaGreatDoorW.PrintMore
set_option linter.unusedVariables false
/-- Parts with a sign between, of which a later one does not go through. -/
inductive ChainBad (toks : List S70) (cs : List S138) (pf : Nat) (s : ByteArray) (dp : Int) : Nat → Prop
  | bad {j : Nat} : j < toks.length → lics_reader_sign.f toks cs j dp s = some (true, (j : Int), dp) → PartNo toks cs pf ((j : Int) + 1) dp → ChainBad toks cs pf s dp j
  | more {j : Nat} {m : S24} {k : Nat} : j < toks.length → lics_reader_sign.f toks cs j dp s = some (true, (j : Int), dp) → PartOK toks cs pf ((j : Int) + 1) dp m k → j < k → ChainBad toks cs pf s dp k → ChainBad toks cs pf s dp j
set_option maxHeartbeats 8000000 in
set_option maxRecDepth 100000 in
theorem lics_chain_81_bad.calls (toks : List S70) (cs : List S138) (hm : toks.length ≤ 8192) (s : ByteArray) (op : Int) (i dp : Int) (l : S24) (j : Nat) (hP : PartOK toks cs 81 i dp l j) (hC : ChainBad toks cs 81 s dp j)
    (g : Nat) (w0 w : World) (hI : IsS67 w0 w g toks cs i dp) (hB : Below w0.heap.size w0 w) :
    Calls Tryz.prog 58 #[.pointer (some ⟨g, 0, none⟩), .string s, .int .u8 op, .func (.func 81) #[.pointer (some ⟨g, 0, none⟩)] #[]] w (LicBad g w0 w toks cs) := by
  have HI := Aside0.mk hI
  have HB := Aside0.mk hB
  have HP := Aside0.mk hP
  have HC := Aside0.mk hC
  clear hI hB hP hC
  go_enter Tryz.func58, Tryz.ntmps58
  have a1 : ∀ o : Obj, IsS67 w0 (w.alloc o) g toks cs i dp := fun o => HI.out.alloc o
  have a2 : ∀ o : Obj, Below w0.heap.size w0 (w.alloc o) := fun o => HB.out.alloc HB.out.size o
  have HA1 := Aside0.mk a1
  have HA2 := Aside0.mk a2
  clear a1 a2
  go_wp2_with (first | (go_at_call 81; (refine (HP.out g w0 _ (HA1.out _) (HA2.out _)).mono ?_); rintro e_ w1 ⟨v1, rfl, hi, hb, hk, hr⟩; obtain ⟨A1, cp1, rfl⟩ := Kd.R_slice hr; have HI1 := Aside0.mk hi; have HB1 := Aside0.mk hb; have HK1 := Aside0.mk hk; have HR1 := Aside0.mk hr; clear hi hb hk hr))
  have hz1 : w.heap.size + 1 ≤ w1.heap.size := by have := HK1.out.1; simpa using this
  have HZ1 := Aside0.mk hz1
  have hr0 : w1.heap[w.heap.size]? = some (.cells #[.int .u8 0, .string ⟨#[]⟩, .int .i64 0, .slice none 0 0] 24 (0, 0)) := HK1.out.blk (blk_new w _) (by have := HI.out.lt; omega) (by simp)
  have HR0 := Aside0.mk hr0
  clear hz1 hr0
  go_loopw [11] (fun u wr => (u = .int .i64 0 ∧ ∃ (a : Int) (b : ByteArray) (c : Int) (A : Option Addr) (n cap : Nat) (j : Nat), ChainBad toks cs 81 s dp j ∧ IsS67 w0 wr g toks cs j dp ∧ Below w0.heap.size w0 wr ∧ KeepBut w wr g none ∧ wr.heap[w1.heap.size]? = some (.cells #[.int .u8 a, .string b, .int .i64 c, .slice A n cap] 24 (0, 0)) ∧ wr.heap[w.heap.size]? = some (.cells #[.int .u8 0, .string ⟨#[]⟩, .int .i64 0, .slice none 0 0] 24 (0, 0))) ∨ (∃ (a : Int) (b : ByteArray) (c : Int) (A : Option Addr) (n cap : Nat) (er : Int) (j : Nat) (dp2 : Int), u = .int .i64 er ∧ er ≠ 0 ∧ j ≤ toks.length ∧ IsS67 w0 wr g toks cs j dp2 ∧ Below w0.heap.size w0 wr ∧ KeepBut w wr g none ∧ wr.heap[w1.heap.size]? = some (.cells #[.int .u8 a, .string b, .int .i64 c, .slice A n cap] 24 (0, 0)) ∧ wr.heap[w.heap.size]? = some (.cells #[.int .u8 0, .string ⟨#[]⟩, .int .i64 0, .slice none 0 0] 24 (0, 0)))) (fun u wr => if intOf u = 0 then (8193 - rdAt wr g).toNat else 0)
  case atStart =>
    refine .inl ⟨rfl, l.f0, l.f1, l.f2, A1, l.f3.length, cp1, j, HC.out, HI1.out.alloc _, HB1.out.alloc HB1.out.size _, ?_, blk_new _ _, blk_alloc HR0.out _⟩
    exact keep_alloc ((keep_alloc (KeepBut.refl w g none) _).trans HK1.out (.inl rfl)) _
  case round =>
    rcases hrel with ⟨rfl, la, lb, lc, A2, ln, cp2, j, hC, hI, hB, hK, hb1, hb0⟩ | ⟨a, b, c, A, n, cap, er, j, dp2, rfl, her, hj, hI, hB, hK, hb1, hb0⟩
    · have HIr := Aside0.mk hI
      have HBr := Aside0.mk hB
      have HKr := Aside0.mk hK
      have Hb1 := Aside0.mk hb1
      have Hb0 := Aside0.mk hb0
      cases hC with
      | bad hj hs hp =>
        have HS := Aside0.mk hs
        have HP2 := Aside0.mk hp
        have HJ := Aside0.mk hj
        have q4 : IntKind.i64.wrap ((j : Int) + 1) = (j : Int) + 1 := IntWalk.i64_in _ (by omega)
        clear hI hB hK hb1 hb0 hs hp hj
        go_wp2_with (first | (go_at_call 80; (refine (lics_reader_sign.calls g toks cs _ dp s true _ dp w0 _ HIr.out HBr.out HS.out).mono ?_); rintro e_ w3 ⟨rfl, hi, hb, hk⟩; have f1 := hk.blk Hb1.out (by have := HIr.out.ne_blk Hb1.out (by decide); omega) (by simp); have f0 := hk.blk Hb0.out (by have := HIr.out.ne_blk Hb0.out (by decide); omega) (by simp); have F0 := Aside0.mk f0; have F1 := Aside0.mk f1; have HI3 := Aside0.mk hi; have HB3 := Aside0.mk hb; have HK3 := Aside0.mk hk; obtain ⟨A0', c0', A1', c1', hG, -, -, -⟩ := hi; have g2 := cellS67_2 hG; have gf := blk_frozen hG 2; clear f0 f1 hG hb hk) | (go_at_call 81; (refine (HP2.out g w0 _ ((HI3.out.set_2 _).alloc _) ((HB3.out.setCell HI.out.ge _).alloc (by have := HB3.out.size; simpa using this) _)).mono ?_); rintro e_ w4 ⟨a, b, c, A3, n, cp3, er, j2, dp2, rfl, her, hj2, hi, hb, hk⟩; have HEr := Aside0.mk her; have HJ2 := Aside0.mk hj2; clear her hj2; have HI4 := Aside0.mk hi; have HB4 := Aside0.mk hb; have HK4 := Aside0.mk hk; obtain ⟨g10, g0, g12, hn⟩ := chain_w4 HI.out.lt HZ1.out HKr.out HK3.out F1.out F0.out HK4.out; have x10 := four_far g10 (by omega : w1.heap.size ≠ w3.heap.size) (.int .u8 a) (.string b) (.int .i64 c) (.slice A3 n cp3); have x0 := four_far g0 (by have := HZ1.out; omega : w.heap.size ≠ w3.heap.size) (.int .u8 a) (.string b) (.int .i64 c) (.slice A3 n cp3); have x12 := four_at g12 (.int .u8 a) (.string b) (.int .i64 c) (.slice A3 n cp3); have t0 := blk_cell g12 0; have t1 := blk_cell g12 1; have t2 := blk_cell g12 2; have t3 := blk_cell g12 3; have z0 := blk_frozen g12 0; have z1 := blk_frozen g12 1; have z2 := blk_frozen g12 2; have z3 := blk_frozen g12 3; have p0 : World.cell? (four _ _ _ _ _ _) _ = _ := blk_cell x10 0; have p1 : World.cell? (four _ _ _ _ _ _) _ = _ := blk_cell x10 1; have p2 : World.cell? (four _ _ _ _ _ _) _ = _ := blk_cell x10 2; have p3 : World.cell? (four _ _ _ _ _ _) _ = _ := blk_cell x10 3; have r0 : World.cell? (four _ _ _ _ _ _) _ = _ := blk_cell x12 0; have r1 : World.cell? (four _ _ _ _ _ _) _ = _ := blk_cell x12 1; have r2 : World.cell? (four _ _ _ _ _ _) _ = _ := blk_cell x12 2; have r3 : World.cell? (four _ _ _ _ _ _) _ = _ := blk_cell x12 3; unfold four at p0 p1 p2 p3 r0 r1 r2 r3; have y0 := fun o => blk_cell (blk_alloc x10 o) 0; have y1 := fun o => blk_cell (blk_alloc x10 o) 1; have y2 := fun o => blk_cell (blk_alloc x10 o) 2; have y3 := fun o => blk_cell (blk_alloc x10 o) 3; have h0 := fun o => blk_frozen (blk_alloc x10 o) 0; have h1 := fun o => blk_frozen (blk_alloc x10 o) 1; have h2 := fun o => blk_frozen (blk_alloc x10 o) 2; have h3 := fun o => blk_frozen (blk_alloc x10 o) 3; unfold four at y0 y1 y2 y3 h0 h1 h2 h3; have X10 := Aside0.mk x10; have X0 := Aside0.mk x0; have X12 := Aside0.mk x12; have HN := Aside0.mk hn; clear hi hb hk g10 g0 g12 x10 x0 x12 hn))
        have z3 : w.heap.size ≤ w3.heap.size := (HKr.out.trans HK3.out (.inl rfl)).1
        have zc : ((w3.setCell ⟨g, 2, none⟩ (.int .i64 ((j : Int) + 1))).alloc (.cells #[.int .u8 0, .string ⟨#[]⟩, .int .i64 0, .slice none 0 0] 24)).heap.size = w3.heap.size + 1 := by simp
        have z4 : w3.heap.size + 1 ≤ w4.heap.size := by have := HK4.out.1; rw [zc] at this; exact this
        have gl := HI.out.lt
        have hn := HN.out
        have hz1 := HZ1.out
        have hI7 := ((HI4.out.four (by omega : g ≠ w3.heap.size) (.int .u8 a) (.string b) (.int .i64 c) (.slice A3 n cp3)).alloc (.cells #[.int .u8 la, .string lb, .int .i64 lc, .slice A2 ln cp2, .int .u8 a, .string b, .int .i64 c, .slice A3 n cp3] 24)).four (by omega : g ≠ w1.heap.size) (.int .u8 op) (.string ⟨#[]⟩) (.int .i64 0) (.slice (some ⟨w4.heap.size, 0, none⟩) 2 2)
        refine ⟨.inr ⟨op, ⟨#[]⟩, 0, some ⟨w4.heap.size, 0, none⟩, 2, 2, er, j2, dp2, rfl, HEr.out, HJ2.out, hI7, ?_, ?_, four_at (blk_alloc X10.out _) _ _ _ _, four_far (blk_alloc X0.out _) (by omega) _ _ _ _⟩, ?_⟩
        · exact below_four ((below_four HB4.out (by have := HB3.out.size; omega) _ _ _ _).alloc (by rw [four_size]; exact HB4.out.size) _) (by have := HB.out.size; omega) _ _ _ _
        · refine keep_four (keep_alloc (keep_four (KeepBut.trans ?_ HK4.out (.inl rfl)) (by omega) _ _ _ _) _) (by omega) _ _ _ _
          exact keep_alloc ((HKr.out.trans HK3.out (.inl rfl)).set_ _ _) _
        · have e2 : intOf (.int .i64 er) ≠ 0 := HEr.out
          rw [if_neg e2, if_pos (show intOf (.int .i64 0) = 0 from rfl), HIr.out.at_eq]
          have := HJ.out
          omega
      | more hj hs hp hk hr =>
        rename_i m k
        have HS := Aside0.mk hs
        have HP2 := Aside0.mk hp
        have HJ := Aside0.mk hj
        have HKj := Aside0.mk hk
        have HRr := Aside0.mk hr
        have q4 : IntKind.i64.wrap ((j : Int) + 1) = (j : Int) + 1 := IntWalk.i64_in _ (by omega)
        clear hI hB hK hb1 hb0 hs hp hj hk hr
        go_wp2_with (first | (go_at_call 80; (refine (lics_reader_sign.calls g toks cs _ dp s true _ dp w0 _ HIr.out HBr.out HS.out).mono ?_); rintro e_ w3 ⟨rfl, hi, hb, hk⟩; have f1 := hk.blk Hb1.out (by have := HIr.out.ne_blk Hb1.out (by decide); omega) (by simp); have f0 := hk.blk Hb0.out (by have := HIr.out.ne_blk Hb0.out (by decide); omega) (by simp); have F0 := Aside0.mk f0; have F1 := Aside0.mk f1; have HI3 := Aside0.mk hi; have HB3 := Aside0.mk hb; have HK3 := Aside0.mk hk; obtain ⟨A0', c0', A1', c1', hG, -, -, -⟩ := hi; have g2 := cellS67_2 hG; have gf := blk_frozen hG 2; clear f0 f1 hG hb hk) | (go_at_call 81; (refine (HP2.out g w0 _ ((HI3.out.set_2 _).alloc _) ((HB3.out.setCell HI.out.ge _).alloc (by have := HB3.out.size; simpa using this) _)).mono ?_); rintro e_ w4 ⟨v2, rfl, hi, hb, hk, hr⟩; obtain ⟨A3, cp3, rfl⟩ := Kd.R_slice hr; have HI4 := Aside0.mk hi; have HB4 := Aside0.mk hb; have HK4 := Aside0.mk hk; have HR4 := Aside0.mk hr; obtain ⟨g10, g0, g12, hn⟩ := chain_w4 HI.out.lt HZ1.out HKr.out HK3.out F1.out F0.out HK4.out; have x10 := four_far g10 (by omega : w1.heap.size ≠ w3.heap.size) (.int .u8 m.f0) (.string m.f1) (.int .i64 m.f2) (.slice A3 m.f3.length cp3); have x0 := four_far g0 (by have := HZ1.out; omega : w.heap.size ≠ w3.heap.size) (.int .u8 m.f0) (.string m.f1) (.int .i64 m.f2) (.slice A3 m.f3.length cp3); have x12 := four_at g12 (.int .u8 m.f0) (.string m.f1) (.int .i64 m.f2) (.slice A3 m.f3.length cp3); have t0 := blk_cell g12 0; have t1 := blk_cell g12 1; have t2 := blk_cell g12 2; have t3 := blk_cell g12 3; have z0 := blk_frozen g12 0; have z1 := blk_frozen g12 1; have z2 := blk_frozen g12 2; have z3 := blk_frozen g12 3; have p0 : World.cell? (four _ _ _ _ _ _) _ = _ := blk_cell x10 0; have p1 : World.cell? (four _ _ _ _ _ _) _ = _ := blk_cell x10 1; have p2 : World.cell? (four _ _ _ _ _ _) _ = _ := blk_cell x10 2; have p3 : World.cell? (four _ _ _ _ _ _) _ = _ := blk_cell x10 3; have r0 : World.cell? (four _ _ _ _ _ _) _ = _ := blk_cell x12 0; have r1 : World.cell? (four _ _ _ _ _ _) _ = _ := blk_cell x12 1; have r2 : World.cell? (four _ _ _ _ _ _) _ = _ := blk_cell x12 2; have r3 : World.cell? (four _ _ _ _ _ _) _ = _ := blk_cell x12 3; unfold four at p0 p1 p2 p3 r0 r1 r2 r3; have y0 := fun o => blk_cell (blk_alloc x10 o) 0; have y1 := fun o => blk_cell (blk_alloc x10 o) 1; have y2 := fun o => blk_cell (blk_alloc x10 o) 2; have y3 := fun o => blk_cell (blk_alloc x10 o) 3; have h0 := fun o => blk_frozen (blk_alloc x10 o) 0; have h1 := fun o => blk_frozen (blk_alloc x10 o) 1; have h2 := fun o => blk_frozen (blk_alloc x10 o) 2; have h3 := fun o => blk_frozen (blk_alloc x10 o) 3; unfold four at y0 y1 y2 y3 h0 h1 h2 h3; have X10 := Aside0.mk x10; have X0 := Aside0.mk x0; have X12 := Aside0.mk x12; have HN := Aside0.mk hn; clear hi hb hk hr g10 g0 g12 x10 x0 x12 hn))
        have z3 : w.heap.size ≤ w3.heap.size := (HKr.out.trans HK3.out (.inl rfl)).1
        have zc : ((w3.setCell ⟨g, 2, none⟩ (.int .i64 ((j : Int) + 1))).alloc (.cells #[.int .u8 0, .string ⟨#[]⟩, .int .i64 0, .slice none 0 0] 24)).heap.size = w3.heap.size + 1 := by simp
        have z4 : w3.heap.size + 1 ≤ w4.heap.size := by have := HK4.out.1; rw [zc] at this; exact this
        have gl := HI.out.lt
        have hn := HN.out
        have hz1 := HZ1.out
        have hI7 := ((HI4.out.four (by omega : g ≠ w3.heap.size) (.int .u8 m.f0) (.string m.f1) (.int .i64 m.f2) (.slice A3 m.f3.length cp3)).alloc (.cells #[.int .u8 la, .string lb, .int .i64 lc, .slice A2 ln cp2, .int .u8 m.f0, .string m.f1, .int .i64 m.f2, .slice A3 m.f3.length cp3] 24)).four (by omega : g ≠ w1.heap.size) (.int .u8 op) (.string ⟨#[]⟩) (.int .i64 0) (.slice (some ⟨w4.heap.size, 0, none⟩) 2 2)
        refine ⟨.inl ⟨rfl, op, ⟨#[]⟩, 0, some ⟨w4.heap.size, 0, none⟩, 2, 2, k, HRr.out, hI7, ?_, ?_, four_at (blk_alloc X10.out _) _ _ _ _, four_far (blk_alloc X0.out _) (by omega) _ _ _ _⟩, ?_⟩
        · exact below_four ((below_four HB4.out (by have := HB3.out.size; omega) _ _ _ _).alloc (by rw [four_size]; exact HB4.out.size) _) (by have := HB.out.size; omega) _ _ _ _
        · refine keep_four (keep_alloc (keep_four (KeepBut.trans ?_ HK4.out (.inl rfl)) (by omega) _ _ _ _) _) (by omega) _ _ _ _
          exact keep_alloc ((HKr.out.trans HK3.out (.inl rfl)).set_ _ _) _
        · have e1 := hI7.at_eq
          unfold four at e1
          rw [if_pos (show intOf (.int .i64 0) = 0 from rfl), if_pos (show intOf (.int .i64 0) = 0 from rfl), e1, HIr.out.at_eq]
          have := HKj.out
          have := HJ.out
          omega
    · have hern : (er == 0) = false := beq_eq_false_iff_ne.mpr her
      have HEr := Aside0.mk her
      have HJ := Aside0.mk hj
      have HIr := Aside0.mk hI
      have HBr := Aside0.mk hB
      have HKr := Aside0.mk hK
      have F0 := Aside0.mk hb0
      have c0 := blk_cell hb1 0
      have c1 := blk_cell hb1 1
      have c2 := blk_cell hb1 2
      have c3 := blk_cell hb1 3
      have d0 := blk_cell hb0 0
      have d1 := blk_cell hb0 1
      have d2 := blk_cell hb0 2
      have d3 := blk_cell hb0 3
      have k0 := blk_frozen hb0 0
      have k1 := blk_frozen hb0 1
      have k2 := blk_frozen hb0 2
      have k3 := blk_frozen hb0 3
      clear hI hB hK hb1 hb0 her hj
      go_wp2_with (fail)
      obtain ⟨p1, p2, p3, p5⟩ := lic_bad HIr.out HBr.out HKr.out F0.out HB.out.size HI.out.lt (.int .u8 a) (.string b) (.int .i64 c) (.slice A n cap)
      have e0 := blk_cell p5 0
      have e1 := blk_cell p5 1
      have e2 := blk_cell p5 2
      have e3 := blk_cell p5 3
      refine bodyPost_ret (v := .tuple #[.agg #[.int .u8 a, .string b, .int .i64 c, .slice A n cap], .int .i64 er]) ?_ rfl ⟨a, b, c, A, n, cap, er, j, dp2, rfl, HEr.out, HJ.out, p1, p2, p3⟩
      simp [results, Tryz.results58, go_sem, e0, e1, e2, e3]
set_option maxHeartbeats 8000000 in
set_option maxRecDepth 100000 in
theorem lics_chain_59_bad.calls (toks : List S70) (cs : List S138) (hm : toks.length ≤ 8192) (s : ByteArray) (op : Int) (i dp : Int) (l : S24) (j : Nat) (hP : PartOK toks cs 59 i dp l j) (hC : ChainBad toks cs 59 s dp j)
    (g : Nat) (w0 w : World) (hI : IsS67 w0 w g toks cs i dp) (hB : Below w0.heap.size w0 w) :
    Calls Tryz.prog 58 #[.pointer (some ⟨g, 0, none⟩), .string s, .int .u8 op, .func (.func 59) #[.pointer (some ⟨g, 0, none⟩)] #[]] w (LicBad g w0 w toks cs) := by
  have HI := Aside0.mk hI
  have HB := Aside0.mk hB
  have HP := Aside0.mk hP
  have HC := Aside0.mk hC
  clear hI hB hP hC
  go_enter Tryz.func58, Tryz.ntmps58
  have a1 : ∀ o : Obj, IsS67 w0 (w.alloc o) g toks cs i dp := fun o => HI.out.alloc o
  have a2 : ∀ o : Obj, Below w0.heap.size w0 (w.alloc o) := fun o => HB.out.alloc HB.out.size o
  have HA1 := Aside0.mk a1
  have HA2 := Aside0.mk a2
  clear a1 a2
  go_wp2_with (first | (go_at_call 59; (refine (HP.out g w0 _ (HA1.out _) (HA2.out _)).mono ?_); rintro e_ w1 ⟨v1, rfl, hi, hb, hk, hr⟩; obtain ⟨A1, cp1, rfl⟩ := Kd.R_slice hr; have HI1 := Aside0.mk hi; have HB1 := Aside0.mk hb; have HK1 := Aside0.mk hk; have HR1 := Aside0.mk hr; clear hi hb hk hr))
  have hz1 : w.heap.size + 1 ≤ w1.heap.size := by have := HK1.out.1; simpa using this
  have HZ1 := Aside0.mk hz1
  have hr0 : w1.heap[w.heap.size]? = some (.cells #[.int .u8 0, .string ⟨#[]⟩, .int .i64 0, .slice none 0 0] 24 (0, 0)) := HK1.out.blk (blk_new w _) (by have := HI.out.lt; omega) (by simp)
  have HR0 := Aside0.mk hr0
  clear hz1 hr0
  go_loopw [11] (fun u wr => (u = .int .i64 0 ∧ ∃ (a : Int) (b : ByteArray) (c : Int) (A : Option Addr) (n cap : Nat) (j : Nat), ChainBad toks cs 59 s dp j ∧ IsS67 w0 wr g toks cs j dp ∧ Below w0.heap.size w0 wr ∧ KeepBut w wr g none ∧ wr.heap[w1.heap.size]? = some (.cells #[.int .u8 a, .string b, .int .i64 c, .slice A n cap] 24 (0, 0)) ∧ wr.heap[w.heap.size]? = some (.cells #[.int .u8 0, .string ⟨#[]⟩, .int .i64 0, .slice none 0 0] 24 (0, 0))) ∨ (∃ (a : Int) (b : ByteArray) (c : Int) (A : Option Addr) (n cap : Nat) (er : Int) (j : Nat) (dp2 : Int), u = .int .i64 er ∧ er ≠ 0 ∧ j ≤ toks.length ∧ IsS67 w0 wr g toks cs j dp2 ∧ Below w0.heap.size w0 wr ∧ KeepBut w wr g none ∧ wr.heap[w1.heap.size]? = some (.cells #[.int .u8 a, .string b, .int .i64 c, .slice A n cap] 24 (0, 0)) ∧ wr.heap[w.heap.size]? = some (.cells #[.int .u8 0, .string ⟨#[]⟩, .int .i64 0, .slice none 0 0] 24 (0, 0)))) (fun u wr => if intOf u = 0 then (8193 - rdAt wr g).toNat else 0)
  case atStart =>
    refine .inl ⟨rfl, l.f0, l.f1, l.f2, A1, l.f3.length, cp1, j, HC.out, HI1.out.alloc _, HB1.out.alloc HB1.out.size _, ?_, blk_new _ _, blk_alloc HR0.out _⟩
    exact keep_alloc ((keep_alloc (KeepBut.refl w g none) _).trans HK1.out (.inl rfl)) _
  case round =>
    rcases hrel with ⟨rfl, la, lb, lc, A2, ln, cp2, j, hC, hI, hB, hK, hb1, hb0⟩ | ⟨a, b, c, A, n, cap, er, j, dp2, rfl, her, hj, hI, hB, hK, hb1, hb0⟩
    · have HIr := Aside0.mk hI
      have HBr := Aside0.mk hB
      have HKr := Aside0.mk hK
      have Hb1 := Aside0.mk hb1
      have Hb0 := Aside0.mk hb0
      cases hC with
      | bad hj hs hp =>
        have HS := Aside0.mk hs
        have HP2 := Aside0.mk hp
        have HJ := Aside0.mk hj
        have q4 : IntKind.i64.wrap ((j : Int) + 1) = (j : Int) + 1 := IntWalk.i64_in _ (by omega)
        clear hI hB hK hb1 hb0 hs hp hj
        go_wp2_with (first | (go_at_call 80; (refine (lics_reader_sign.calls g toks cs _ dp s true _ dp w0 _ HIr.out HBr.out HS.out).mono ?_); rintro e_ w3 ⟨rfl, hi, hb, hk⟩; have f1 := hk.blk Hb1.out (by have := HIr.out.ne_blk Hb1.out (by decide); omega) (by simp); have f0 := hk.blk Hb0.out (by have := HIr.out.ne_blk Hb0.out (by decide); omega) (by simp); have F0 := Aside0.mk f0; have F1 := Aside0.mk f1; have HI3 := Aside0.mk hi; have HB3 := Aside0.mk hb; have HK3 := Aside0.mk hk; obtain ⟨A0', c0', A1', c1', hG, -, -, -⟩ := hi; have g2 := cellS67_2 hG; have gf := blk_frozen hG 2; clear f0 f1 hG hb hk) | (go_at_call 59; (refine (HP2.out g w0 _ ((HI3.out.set_2 _).alloc _) ((HB3.out.setCell HI.out.ge _).alloc (by have := HB3.out.size; simpa using this) _)).mono ?_); rintro e_ w4 ⟨a, b, c, A3, n, cp3, er, j2, dp2, rfl, her, hj2, hi, hb, hk⟩; have HEr := Aside0.mk her; have HJ2 := Aside0.mk hj2; clear her hj2; have HI4 := Aside0.mk hi; have HB4 := Aside0.mk hb; have HK4 := Aside0.mk hk; obtain ⟨g10, g0, g12, hn⟩ := chain_w4 HI.out.lt HZ1.out HKr.out HK3.out F1.out F0.out HK4.out; have x10 := four_far g10 (by omega : w1.heap.size ≠ w3.heap.size) (.int .u8 a) (.string b) (.int .i64 c) (.slice A3 n cp3); have x0 := four_far g0 (by have := HZ1.out; omega : w.heap.size ≠ w3.heap.size) (.int .u8 a) (.string b) (.int .i64 c) (.slice A3 n cp3); have x12 := four_at g12 (.int .u8 a) (.string b) (.int .i64 c) (.slice A3 n cp3); have t0 := blk_cell g12 0; have t1 := blk_cell g12 1; have t2 := blk_cell g12 2; have t3 := blk_cell g12 3; have z0 := blk_frozen g12 0; have z1 := blk_frozen g12 1; have z2 := blk_frozen g12 2; have z3 := blk_frozen g12 3; have p0 : World.cell? (four _ _ _ _ _ _) _ = _ := blk_cell x10 0; have p1 : World.cell? (four _ _ _ _ _ _) _ = _ := blk_cell x10 1; have p2 : World.cell? (four _ _ _ _ _ _) _ = _ := blk_cell x10 2; have p3 : World.cell? (four _ _ _ _ _ _) _ = _ := blk_cell x10 3; have r0 : World.cell? (four _ _ _ _ _ _) _ = _ := blk_cell x12 0; have r1 : World.cell? (four _ _ _ _ _ _) _ = _ := blk_cell x12 1; have r2 : World.cell? (four _ _ _ _ _ _) _ = _ := blk_cell x12 2; have r3 : World.cell? (four _ _ _ _ _ _) _ = _ := blk_cell x12 3; unfold four at p0 p1 p2 p3 r0 r1 r2 r3; have y0 := fun o => blk_cell (blk_alloc x10 o) 0; have y1 := fun o => blk_cell (blk_alloc x10 o) 1; have y2 := fun o => blk_cell (blk_alloc x10 o) 2; have y3 := fun o => blk_cell (blk_alloc x10 o) 3; have h0 := fun o => blk_frozen (blk_alloc x10 o) 0; have h1 := fun o => blk_frozen (blk_alloc x10 o) 1; have h2 := fun o => blk_frozen (blk_alloc x10 o) 2; have h3 := fun o => blk_frozen (blk_alloc x10 o) 3; unfold four at y0 y1 y2 y3 h0 h1 h2 h3; have X10 := Aside0.mk x10; have X0 := Aside0.mk x0; have X12 := Aside0.mk x12; have HN := Aside0.mk hn; clear hi hb hk g10 g0 g12 x10 x0 x12 hn))
        have z3 : w.heap.size ≤ w3.heap.size := (HKr.out.trans HK3.out (.inl rfl)).1
        have zc : ((w3.setCell ⟨g, 2, none⟩ (.int .i64 ((j : Int) + 1))).alloc (.cells #[.int .u8 0, .string ⟨#[]⟩, .int .i64 0, .slice none 0 0] 24)).heap.size = w3.heap.size + 1 := by simp
        have z4 : w3.heap.size + 1 ≤ w4.heap.size := by have := HK4.out.1; rw [zc] at this; exact this
        have gl := HI.out.lt
        have hn := HN.out
        have hz1 := HZ1.out
        have hI7 := ((HI4.out.four (by omega : g ≠ w3.heap.size) (.int .u8 a) (.string b) (.int .i64 c) (.slice A3 n cp3)).alloc (.cells #[.int .u8 la, .string lb, .int .i64 lc, .slice A2 ln cp2, .int .u8 a, .string b, .int .i64 c, .slice A3 n cp3] 24)).four (by omega : g ≠ w1.heap.size) (.int .u8 op) (.string ⟨#[]⟩) (.int .i64 0) (.slice (some ⟨w4.heap.size, 0, none⟩) 2 2)
        refine ⟨.inr ⟨op, ⟨#[]⟩, 0, some ⟨w4.heap.size, 0, none⟩, 2, 2, er, j2, dp2, rfl, HEr.out, HJ2.out, hI7, ?_, ?_, four_at (blk_alloc X10.out _) _ _ _ _, four_far (blk_alloc X0.out _) (by omega) _ _ _ _⟩, ?_⟩
        · exact below_four ((below_four HB4.out (by have := HB3.out.size; omega) _ _ _ _).alloc (by rw [four_size]; exact HB4.out.size) _) (by have := HB.out.size; omega) _ _ _ _
        · refine keep_four (keep_alloc (keep_four (KeepBut.trans ?_ HK4.out (.inl rfl)) (by omega) _ _ _ _) _) (by omega) _ _ _ _
          exact keep_alloc ((HKr.out.trans HK3.out (.inl rfl)).set_ _ _) _
        · have e2 : intOf (.int .i64 er) ≠ 0 := HEr.out
          rw [if_neg e2, if_pos (show intOf (.int .i64 0) = 0 from rfl), HIr.out.at_eq]
          have := HJ.out
          omega
      | more hj hs hp hk hr =>
        rename_i m k
        have HS := Aside0.mk hs
        have HP2 := Aside0.mk hp
        have HJ := Aside0.mk hj
        have HKj := Aside0.mk hk
        have HRr := Aside0.mk hr
        have q4 : IntKind.i64.wrap ((j : Int) + 1) = (j : Int) + 1 := IntWalk.i64_in _ (by omega)
        clear hI hB hK hb1 hb0 hs hp hj hk hr
        go_wp2_with (first | (go_at_call 80; (refine (lics_reader_sign.calls g toks cs _ dp s true _ dp w0 _ HIr.out HBr.out HS.out).mono ?_); rintro e_ w3 ⟨rfl, hi, hb, hk⟩; have f1 := hk.blk Hb1.out (by have := HIr.out.ne_blk Hb1.out (by decide); omega) (by simp); have f0 := hk.blk Hb0.out (by have := HIr.out.ne_blk Hb0.out (by decide); omega) (by simp); have F0 := Aside0.mk f0; have F1 := Aside0.mk f1; have HI3 := Aside0.mk hi; have HB3 := Aside0.mk hb; have HK3 := Aside0.mk hk; obtain ⟨A0', c0', A1', c1', hG, -, -, -⟩ := hi; have g2 := cellS67_2 hG; have gf := blk_frozen hG 2; clear f0 f1 hG hb hk) | (go_at_call 59; (refine (HP2.out g w0 _ ((HI3.out.set_2 _).alloc _) ((HB3.out.setCell HI.out.ge _).alloc (by have := HB3.out.size; simpa using this) _)).mono ?_); rintro e_ w4 ⟨v2, rfl, hi, hb, hk, hr⟩; obtain ⟨A3, cp3, rfl⟩ := Kd.R_slice hr; have HI4 := Aside0.mk hi; have HB4 := Aside0.mk hb; have HK4 := Aside0.mk hk; have HR4 := Aside0.mk hr; obtain ⟨g10, g0, g12, hn⟩ := chain_w4 HI.out.lt HZ1.out HKr.out HK3.out F1.out F0.out HK4.out; have x10 := four_far g10 (by omega : w1.heap.size ≠ w3.heap.size) (.int .u8 m.f0) (.string m.f1) (.int .i64 m.f2) (.slice A3 m.f3.length cp3); have x0 := four_far g0 (by have := HZ1.out; omega : w.heap.size ≠ w3.heap.size) (.int .u8 m.f0) (.string m.f1) (.int .i64 m.f2) (.slice A3 m.f3.length cp3); have x12 := four_at g12 (.int .u8 m.f0) (.string m.f1) (.int .i64 m.f2) (.slice A3 m.f3.length cp3); have t0 := blk_cell g12 0; have t1 := blk_cell g12 1; have t2 := blk_cell g12 2; have t3 := blk_cell g12 3; have z0 := blk_frozen g12 0; have z1 := blk_frozen g12 1; have z2 := blk_frozen g12 2; have z3 := blk_frozen g12 3; have p0 : World.cell? (four _ _ _ _ _ _) _ = _ := blk_cell x10 0; have p1 : World.cell? (four _ _ _ _ _ _) _ = _ := blk_cell x10 1; have p2 : World.cell? (four _ _ _ _ _ _) _ = _ := blk_cell x10 2; have p3 : World.cell? (four _ _ _ _ _ _) _ = _ := blk_cell x10 3; have r0 : World.cell? (four _ _ _ _ _ _) _ = _ := blk_cell x12 0; have r1 : World.cell? (four _ _ _ _ _ _) _ = _ := blk_cell x12 1; have r2 : World.cell? (four _ _ _ _ _ _) _ = _ := blk_cell x12 2; have r3 : World.cell? (four _ _ _ _ _ _) _ = _ := blk_cell x12 3; unfold four at p0 p1 p2 p3 r0 r1 r2 r3; have y0 := fun o => blk_cell (blk_alloc x10 o) 0; have y1 := fun o => blk_cell (blk_alloc x10 o) 1; have y2 := fun o => blk_cell (blk_alloc x10 o) 2; have y3 := fun o => blk_cell (blk_alloc x10 o) 3; have h0 := fun o => blk_frozen (blk_alloc x10 o) 0; have h1 := fun o => blk_frozen (blk_alloc x10 o) 1; have h2 := fun o => blk_frozen (blk_alloc x10 o) 2; have h3 := fun o => blk_frozen (blk_alloc x10 o) 3; unfold four at y0 y1 y2 y3 h0 h1 h2 h3; have X10 := Aside0.mk x10; have X0 := Aside0.mk x0; have X12 := Aside0.mk x12; have HN := Aside0.mk hn; clear hi hb hk hr g10 g0 g12 x10 x0 x12 hn))
        have z3 : w.heap.size ≤ w3.heap.size := (HKr.out.trans HK3.out (.inl rfl)).1
        have zc : ((w3.setCell ⟨g, 2, none⟩ (.int .i64 ((j : Int) + 1))).alloc (.cells #[.int .u8 0, .string ⟨#[]⟩, .int .i64 0, .slice none 0 0] 24)).heap.size = w3.heap.size + 1 := by simp
        have z4 : w3.heap.size + 1 ≤ w4.heap.size := by have := HK4.out.1; rw [zc] at this; exact this
        have gl := HI.out.lt
        have hn := HN.out
        have hz1 := HZ1.out
        have hI7 := ((HI4.out.four (by omega : g ≠ w3.heap.size) (.int .u8 m.f0) (.string m.f1) (.int .i64 m.f2) (.slice A3 m.f3.length cp3)).alloc (.cells #[.int .u8 la, .string lb, .int .i64 lc, .slice A2 ln cp2, .int .u8 m.f0, .string m.f1, .int .i64 m.f2, .slice A3 m.f3.length cp3] 24)).four (by omega : g ≠ w1.heap.size) (.int .u8 op) (.string ⟨#[]⟩) (.int .i64 0) (.slice (some ⟨w4.heap.size, 0, none⟩) 2 2)
        refine ⟨.inl ⟨rfl, op, ⟨#[]⟩, 0, some ⟨w4.heap.size, 0, none⟩, 2, 2, k, HRr.out, hI7, ?_, ?_, four_at (blk_alloc X10.out _) _ _ _ _, four_far (blk_alloc X0.out _) (by omega) _ _ _ _⟩, ?_⟩
        · exact below_four ((below_four HB4.out (by have := HB3.out.size; omega) _ _ _ _).alloc (by rw [four_size]; exact HB4.out.size) _) (by have := HB.out.size; omega) _ _ _ _
        · refine keep_four (keep_alloc (keep_four (KeepBut.trans ?_ HK4.out (.inl rfl)) (by omega) _ _ _ _) _) (by omega) _ _ _ _
          exact keep_alloc ((HKr.out.trans HK3.out (.inl rfl)).set_ _ _) _
        · have e1 := hI7.at_eq
          unfold four at e1
          rw [if_pos (show intOf (.int .i64 0) = 0 from rfl), if_pos (show intOf (.int .i64 0) = 0 from rfl), e1, HIr.out.at_eq]
          have := HKj.out
          have := HJ.out
          omega
    · have hern : (er == 0) = false := beq_eq_false_iff_ne.mpr her
      have HEr := Aside0.mk her
      have HJ := Aside0.mk hj
      have HIr := Aside0.mk hI
      have HBr := Aside0.mk hB
      have HKr := Aside0.mk hK
      have F0 := Aside0.mk hb0
      have c0 := blk_cell hb1 0
      have c1 := blk_cell hb1 1
      have c2 := blk_cell hb1 2
      have c3 := blk_cell hb1 3
      have d0 := blk_cell hb0 0
      have d1 := blk_cell hb0 1
      have d2 := blk_cell hb0 2
      have d3 := blk_cell hb0 3
      have k0 := blk_frozen hb0 0
      have k1 := blk_frozen hb0 1
      have k2 := blk_frozen hb0 2
      have k3 := blk_frozen hb0 3
      clear hI hB hK hb1 hb0 her hj
      go_wp2_with (fail)
      obtain ⟨p1, p2, p3, p5⟩ := lic_bad HIr.out HBr.out HKr.out F0.out HB.out.size HI.out.lt (.int .u8 a) (.string b) (.int .i64 c) (.slice A n cap)
      have e0 := blk_cell p5 0
      have e1 := blk_cell p5 1
      have e2 := blk_cell p5 2
      have e3 := blk_cell p5 3
      refine bodyPost_ret (v := .tuple #[.agg #[.int .u8 a, .string b, .int .i64 c, .slice A n cap], .int .i64 er]) ?_ rfl ⟨a, b, c, A, n, cap, er, j, dp2, rfl, HEr.out, HJ.out, p1, p2, p3⟩
      simp [results, Tryz.results58, go_sem, e0, e1, e2, e3]
end Go.Proofs.YtjapfefiaijfcaaGreatDoor.Q
