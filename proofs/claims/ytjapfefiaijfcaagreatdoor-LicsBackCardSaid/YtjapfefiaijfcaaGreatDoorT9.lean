/- The parser: a string stands for itself; chains of parts. -/
import Derived.Test.YtjapfefiaijfcaaGreatDoorQx0
import Derived.Test.YtjapfefiaijfcaaGreatDoorQx4
import Derived.Test.YtjapfefiaijfcaaGreatDoorT7
import Derived.BigRegion
namespace Go.Proofs.YtjapfefiaijfcaaGreatDoor.Q
open Go.RowKit Go.Proofs.YtjapfefiaijfcaaGreatDoorW.PrintWords Go.Proofs.YtjapfefiaijfcaaGreatDoorW.PrintLast Go.Proofs.YtjapfefiaijfcaaGreatDoorW.PrintMore
set_option linter.unusedVariables false
/-- What a part of the parser leaves: a tree of its own, the reader behind the part. -/
def LicOut (g : Nat) (w0 w : World) (toks : List S70) (cs : List S138) (l : S24) (j dp : Int) (e : Ending) (w' : World) : Prop :=
  ∃ v, e = .returned (.tuple #[.agg #[.int .u8 l.f0, .string l.f1, .int .i64 l.f2, v], .int .i64 0]) ∧ IsS67 w0 w' g toks cs j dp ∧ Below w0.heap.size w0 w' ∧ KeepBut w w' g none ∧ Kd.R k24 24 w' w.heap.size (fun _ => True) v l.f3
def PartOK (toks : List S70) (cs : List S138) (fn : Nat) (i dp : Int) (l : S24) (j : Int) : Prop := ∀ (g : Nat) (w0 w : World), IsS67 w0 w g toks cs i dp → Below w0.heap.size w0 w → Calls Tryz.prog fn #[.pointer (some ⟨g, 0, none⟩)] w (LicOut g w0 w toks cs l j dp)
theorem b3t (t : TypeId) (W : World) (a b c d : Value) : (W.alloc (.cells #[a, b, c, d] t)).heap[W.heap.size]? = some (.cells #[a, b, c, d] t (0, 0)) := blk_new W _
set_option maxHeartbeats 8000000 in
set_option maxRecDepth 100000 in
theorem lics_one_str.calls (toks : List S70) (cs : List S138) (i : Nat) (dp : Int) (x : S70) (hi : i < toks.length) (hm : toks.length ≤ 8192) (hx : x = rd_T70 toks i) (hk : x.f0 = 4) : PartOK toks cs 81 i dp ⟨1, x.f1, 0, []⟩ ((i + 1 : Nat) : Int) := by
  intro g w0 w hI hB
  have HI := Aside0.mk hI
  have HB := Aside0.mk hB
  have HX := Aside0.mk hx
  have q1 : decide ((i : Int) < (toks.length : Int)) = true := decide_eq_true (by omega)
  have q2 : ((i : Int) == (toks.length : Int)) = false := beq_eq_false_iff_ne.mpr (by omega)
  have q3 : (i == toks.length) = false := beq_eq_false_iff_ne.mpr (by omega)
  have q4 : IntKind.i64.wrap ((i : Int) + 1) = (i : Int) + 1 := IntWalk.i64_in _ (by omega)
  obtain ⟨A0, c0, A1, c1, hG, hge, hS0, hS1⟩ := hI
  obtain ⟨ad, e0, x0, x1, x2, x3⟩ := at_T70 hS0 (i : Int) (by omega) (by omega)
  subst e0
  rw [← hx] at x0 x1 x2 x3
  rw [hk] at x0
  replace x0 := pw_cell_below hB x0
  replace x1 := pw_cell_below hB x1
  replace x2 := pw_cell_below hB x2
  replace x3 := pw_cell_below hB x3
  have p1 : (0 ≤ (i : Int)) = True := eq_true (by omega)
  have p2 : ((i : Int) < (toks.length : Int)) = True := eq_true (by omega)
  have p3 : (i < toks.length) = True := eq_true hi
  have g0 := cellS67_0 hG
  have g1 := cellS67_1 hG
  have g2 := cellS67_2 hG
  have g3 := cellS67_3 hG
  have gf := blk_frozen hG 2
  have HG := Aside0.mk hG
  clear hG hge hS0 hS1 hB hx hi
  have up : ∀ (o : Obj) {a : Addr} {v : Value}, w.cell? a = some v → (w.alloc o).cell? a = some v := fun o {a} {v} h => pw_cell_below ((Below.refl _ w).alloc (Nat.le_refl _) o) h
  have m0 := fun o => up o g0
  have m2 := fun o => up o g2
  have y0 := fun o => up o x0
  have y1 := fun o => up o x1
  have y2 := fun o => up o x2
  have y3 := fun o => up o x3
  clear up
  go_enter Tryz.func81, Tryz.ntmps81
  go_wp2_with (fail)
  go_quiet (fail)
  go_wp2_with (fail)
  generalize hW : (w.alloc (.cells #[.int .u8 0, .string ⟨#[]⟩, .int .i64 0, .slice none 0 0] 24)).drewN _ = W
  have m0' : W.cell? ⟨g, 0, none⟩ = some (.slice (some ad) toks.length c0) := by rw [← hW]; exact m0 _
  have m2' : W.cell? ⟨g, 2, none⟩ = some (.int .i64 i) := by rw [← hW]; exact m2 _
  have y0' : W.cell? (ad.add (i * 4)) = some (.int .u8 4) := by rw [← hW]; exact y0 _
  have y1' : W.cell? ⟨(ad.add (i * 4)).block, (ad.add (i * 4)).off + 1, none⟩ = some (.string x.f1) := by rw [← hW]; exact y1 _
  have y2' : W.cell? ⟨(ad.add (i * 4)).block, (ad.add (i * 4)).off + 2, none⟩ = some (.int .i64 x.f2) := by rw [← hW]; exact y2 _
  have y3' : W.cell? ⟨(ad.add (i * 4)).block, (ad.add (i * 4)).off + 3, none⟩ = some (.int .i64 x.f3) := by rw [← hW]; exact y3 _
  have HW := Aside0.mk hW
  have up2 : ∀ (o : Obj) {a : Addr} {v : Value}, W.cell? a = some v → (W.alloc o).cell? a = some v := fun o {a} {v} h => pw_cell_below ((Below.refl _ W).alloc (Nat.le_refl _) o) h
  have m0'' := fun o => up2 o m0'
  have m2'' := fun o => up2 o m2'
  have y0'' := fun o => up2 o y0'
  have y1'' := fun o => up2 o y1'
  have y2'' := fun o => up2 o y2'
  have y3'' := fun o => up2 o y3'
  clear hW m0 m2 y0 y1 y2 y3 up2
  go_region
  generalize hW2 : (W.alloc (.cells #[.int .u8 4, .string x.f1, .int .i64 x.f2, .int .i64 x.f3] 70)).drew = W2
  have b1 : W2.heap[W.heap.size]? = some (.cells #[.int .u8 4, .string x.f1, .int .i64 x.f2, .int .i64 x.f3] 70 (0, 0)) := by rw [← hW2]; exact blk_new W _
  have B1 : Below w.heap.size w W := by rw [← HW.out]; exact pw_below_drewN ((Below.refl _ w).alloc (Nat.le_refl _) _) _
  have s1 : W.heap.size = w.heap.size + 1 := by rw [← HW.out]; simp
  have HS1 := Aside0.mk s1
  have B2 : Below w.heap.size w W2 := by rw [← hW2]; exact below_drew1 (B1.alloc B1.size _)
  have b2 : W2.heap[w.heap.size]? = some (.cells #[.int .u8 0, .string ⟨#[]⟩, .int .i64 0, .slice none 0 0] 24 (0, 0)) := by
    rw [← hW2]
    refine blk_drew (blk_alloc ?_ _)
    rw [← HW.out]; exact blk_drewN (blk_new w _) _
  have IW2 : IsS67 w0 W2 g toks cs i dp := HI.out.below B2
  have hG := (B2.block g HI.out.lt).trans HG.out
  have c1 := blk_cell b1 0
  have c2 := blk_cell b1 1
  have c3 := cellS67_2 hG
  have c4 := blk_frozen hG 2
  have gl := HI.out.lt
  have n1 : g ≠ W.heap.size := by omega
  have HI2 := Aside0.mk IW2
  have Hb1 := Aside0.mk b1
  have Hb2 := Aside0.mk b2
  have HB2 := Aside0.mk B2
  have c5 : (W2.setCell ⟨g, 2, none⟩ (.int .i64 ((i : Int) + 1))).cell? ⟨W.heap.size, 1, none⟩ = some (.string x.f1) := (blk_cell (blk_far b1 (by simp only; omega) _) 1).trans rfl
  have b3 : (W2.setCell ⟨g, 2, none⟩ (.int .i64 ((i : Int) + 1))).heap[w.heap.size]? = _ := blk_far b2 (by simp only; omega) _
  have r0 := blk_cell b3 0
  have r1 := blk_cell b3 1
  have r2 := blk_cell b3 2
  have r3 := blk_cell b3 3
  have k0 := blk_frozen b3 0
  have k1 := blk_frozen b3 1
  have k2 := blk_frozen b3 2
  have k3 := blk_frozen b3 3
  have Hb3 := Aside0.mk b3
  clear s1 hG b1 b2 B1 B2 IW2 b3 m0' m2' y0' y1' y2' y3' m0'' m2'' y0'' y1'' y2'' y3'' g0 g1 g2 g3 x0 x1 x2 x3 hW2
  go_wp2_with (fail)
  have R := blk_set (blk_set (blk_set (blk_set Hb3.out 0 (.int .u8 1)) 1 (.string x.f1)) 2 (.int .i64 0)) 3 (.slice none 0 0)
  have e0 := blk_cell R 0
  have e1 := blk_cell R 1
  have e2 := blk_cell R 2
  have e3 := blk_cell R 3
  have hgw : w.heap.size ≠ g := by omega
  refine bodyPost_ret (v := .tuple #[.agg #[.int .u8 1, .string x.f1, .int .i64 0, .slice none 0 0], .int .i64 0]) ?_ rfl ⟨.slice none 0 0, rfl, ?_, ?_, ?_, Kd.R_nil _ _ _ _ _⟩
  · simp [results, Tryz.results81, go_sem, e0, e1, e2, e3]
  · refine IsS67.far (IsS67.far (IsS67.far (IsS67.far ?_ (Ne.symm hgw) _) (Ne.symm hgw) _) (Ne.symm hgw) _) (Ne.symm hgw) _
    exact HI2.out.set_2 _
  · exact (((((HB.out.trans (HB2.out.mono HB.out.size)).setCell HI.out.ge _).setCell HB.out.size _).setCell HB.out.size _).setCell HB.out.size _).setCell HB.out.size _
  · exact keep_far (keep_far (keep_far (keep_far ((KeepBut.of_below HB2.out g none).set_ _ _) (Nat.le_refl _) _) (Nat.le_refl _) _) (Nat.le_refl _) _) (Nat.le_refl _) _
theorem lic_out {g : Nat} {w0 w w3 : World} {toks : List S70} {cs : List S138} {j dp : Int} {r : S24} {v c0 c1 c2 c3 : Value} (hI : IsS67 w0 w3 g toks cs j dp) (hB : Below w0.heap.size w0 w3) (hK : KeepBut w w3 g none)
    (hb : w3.heap[w.heap.size]? = some (.cells #[c0, c1, c2, c3] 24 (0, 0))) (hR : Kd.R k24 24 w3 w.heap.size (fun k => k ≠ w.heap.size) v r.f3) (hw : w0.heap.size ≤ w.heap.size) (hg : g < w.heap.size) :
    IsS67 w0 ((((w3.setCell ⟨w.heap.size, 0, none⟩ (.int .u8 r.f0)).setCell ⟨w.heap.size, 1, none⟩ (.string r.f1)).setCell ⟨w.heap.size, 2, none⟩ (.int .i64 r.f2)).setCell ⟨w.heap.size, 3, none⟩ v) g toks cs j dp ∧
    Below w0.heap.size w0 ((((w3.setCell ⟨w.heap.size, 0, none⟩ (.int .u8 r.f0)).setCell ⟨w.heap.size, 1, none⟩ (.string r.f1)).setCell ⟨w.heap.size, 2, none⟩ (.int .i64 r.f2)).setCell ⟨w.heap.size, 3, none⟩ v) ∧
    KeepBut w ((((w3.setCell ⟨w.heap.size, 0, none⟩ (.int .u8 r.f0)).setCell ⟨w.heap.size, 1, none⟩ (.string r.f1)).setCell ⟨w.heap.size, 2, none⟩ (.int .i64 r.f2)).setCell ⟨w.heap.size, 3, none⟩ v) g none ∧
    Kd.R k24 24 ((((w3.setCell ⟨w.heap.size, 0, none⟩ (.int .u8 r.f0)).setCell ⟨w.heap.size, 1, none⟩ (.string r.f1)).setCell ⟨w.heap.size, 2, none⟩ (.int .i64 r.f2)).setCell ⟨w.heap.size, 3, none⟩ v) w.heap.size (fun _ => True) v r.f3 ∧
    ((((w3.setCell ⟨w.heap.size, 0, none⟩ (.int .u8 r.f0)).setCell ⟨w.heap.size, 1, none⟩ (.string r.f1)).setCell ⟨w.heap.size, 2, none⟩ (.int .i64 r.f2)).setCell ⟨w.heap.size, 3, none⟩ v).heap[w.heap.size]? = some (.cells #[.int .u8 r.f0, .string r.f1, .int .i64 r.f2, v] 24 (0, 0)) := by
  have hgw : g ≠ w.heap.size := by omega
  refine ⟨(((hI.far hgw _).far hgw _).far hgw _).far hgw _, (((hB.setCell hw _).setCell hw _).setCell hw _).setCell hw _, keep_far (keep_far (keep_far (keep_far hK (Nat.le_refl _) _) (Nat.le_refl _) _) (Nat.le_refl _) _) (Nat.le_refl _) _, ?_, ?_⟩
  · exact Kd.R_mono (Kd.R_far (Kd.R_far (Kd.R_far (Kd.R_far hR (fun k hk => hk) _) (fun k hk => hk) _) (fun k hk => hk) _) (fun k hk => hk) _) (fun _ _ => trivial)
  · have R := blk_set (blk_set (blk_set (blk_set hb 0 (.int .u8 r.f0)) 1 (.string r.f1)) 2 (.int .i64 r.f2)) 3 v
    simpa using R
theorem pair_row {W : World} {base : Nat} {ok : Nat → Prop} {l m : S24} {va vm : Value} (hl : Kd.R k24 24 W base ok va l.f3) (hm : Kd.R k24 24 W base ok vm m.f3) (hb : base ≤ W.heap.size) (hf : ok W.heap.size) :
    Kd.R k24 24 (W.alloc (.cells #[.int .u8 l.f0, .string l.f1, .int .i64 l.f2, va, .int .u8 m.f0, .string m.f1, .int .i64 m.f2, vm] 24)) base ok (.slice (some ⟨W.heap.size, 0, none⟩) 2 2) [l, m] := by
  have hrep : Reps (k24.M W base ok) 4 [l, m] [.int .u8 l.f0, .string l.f1, .int .i64 l.f2, va, .int .u8 m.f0, .string m.f1, .int .i64 m.f2, vm] := by
    refine ⟨by simp, fun j p hj => ?_⟩
    rcases j with _ | _ | j
    · simp at hj; subst hj
      exact k24_mkM _ _ _ _ hl
    · simp at hj; subst hj
      exact k24_mkM _ _ _ _ hm
    · simp at hj
  refine ⟨fun k hk => ?_, _, ?_, hrep.imp_ (fun p c hp => k24.M_mono (fun k hk => ⟨hk.1, fun he => ?_⟩) (Kd.M_below (k24.M_bound hp) (below_alloc (Below.refl _ _) _)))⟩
  · have : W.heap.size = k := by simpa [Value.ownBlock] using hk
    subst this
    exact hf
  · have h2 := World.ownsRow_lit (base := base) (e := 24) (size := 4) W #[.int .u8 l.f0, .string l.f1, .int .i64 l.f2, va, .int .u8 m.f0, .string m.f1, .int .i64 m.f2, vm] 2 hb (by simp [maxLen]) (by simp)
    exact h2
  · have h3 : k = W.heap.size := by simpa [Value.ownBlock] using he
    have := hk.2.2.1
    omega
def four (W : World) (b : Nat) (v0 v1 v2 v3 : Value) : World := (((W.setCell ⟨b, 0, none⟩ v0).setCell ⟨b, 1, none⟩ v1).setCell ⟨b, 2, none⟩ v2).setCell ⟨b, 3, none⟩ v3
theorem four_at {W : World} {b : Nat} {c0 c1 c2 c3 : Value} {t : TypeId} (h : W.heap[b]? = some (.cells #[c0, c1, c2, c3] t (0, 0))) (v0 v1 v2 v3 : Value) : (four W b v0 v1 v2 v3).heap[b]? = some (.cells #[v0, v1, v2, v3] t (0, 0)) := by
  have R := blk_set (blk_set (blk_set (blk_set h 0 v0) 1 v1) 2 v2) 3 v3
  simpa [four] using R
theorem four_far {W : World} {b k : Nat} {cs : Array Value} {t : TypeId} (h : W.heap[k]? = some (.cells cs t (0, 0))) (hne : k ≠ b) (v0 v1 v2 v3 : Value) : (four W b v0 v1 v2 v3).heap[k]? = some (.cells cs t (0, 0)) :=
  blk_far (blk_far (blk_far (blk_far h hne _) hne _) hne _) hne _
theorem four_size (W : World) (b : Nat) (v0 v1 v2 v3 : Value) : (four W b v0 v1 v2 v3).heap.size = W.heap.size := by simp [four]
theorem chain_w4 {w wr w3 w4 : World} {g N : Nat} {u : Value} {cs0 cs1 zs : Array Value} (hg : g < w.heap.size) (hN : w.heap.size + 1 ≤ N) (hK : KeepBut w wr g none) (hK3 : KeepBut wr w3 g none) (F1 : w3.heap[N]? = some (.cells cs1 24 (0, 0))) (F0 : w3.heap[w.heap.size]? = some (.cells cs0 24 (0, 0)))
    (hK4 : KeepBut ((w3.setCell ⟨g, 2, none⟩ u).alloc (.cells zs 24)) w4 g none) : w4.heap[N]? = some (.cells cs1 24 (0, 0)) ∧ w4.heap[w.heap.size]? = some (.cells cs0 24 (0, 0)) ∧ w4.heap[w3.heap.size]? = some (.cells zs 24 (0, 0)) ∧ N < w3.heap.size := by
  have hz : (w3.setCell ⟨g, 2, none⟩ u).heap.size = w3.heap.size := by simp
  refine ⟨hK4.blk (blk_alloc (blk_far F1 (by simp only; omega) _) _) (by omega) (by simp), hK4.blk (blk_alloc (blk_far F0 (by simp only; omega) _) _) (by omega) (by simp), hK4.blk (blk_new' _ hz) (by have := blk_lt F0; omega) (by simp), blk_lt F1⟩
theorem IsS67.four {w0 W : World} {g : Nat} {f0 : List S70} {f1 : List S138} {f2 f3 : Int} (h : IsS67 w0 W g f0 f1 f2 f3) {b : Nat} (hne : g ≠ b) (v0 v1 v2 v3 : Value) : IsS67 w0 (Q.four W b v0 v1 v2 v3) g f0 f1 f2 f3 := (((h.far hne _).far hne _).far hne _).far hne _
theorem below_four {B : Nat} {w0 W : World} (h : Below B w0 W) {b : Nat} (hb : B ≤ b) (v0 v1 v2 v3 : Value) : Below B w0 (four W b v0 v1 v2 v3) := (((h.setCell hb _).setCell hb _).setCell hb _).setCell hb _
theorem keep_four {w W : World} {g : Nat} (h : KeepBut w W g none) {b : Nat} (hb : w.heap.size ≤ b) (v0 v1 v2 v3 : Value) : KeepBut w (four W b v0 v1 v2 v3) g none := keep_far (keep_far (keep_far (keep_far h hb _) hb _) hb _) hb _
theorem R_four {W : World} {base : Nat} {ok : Nat → Prop} {v : Value} {xs : List S24} (h : Kd.R k24 24 W base ok v xs) {b : Nat} (hok : ∀ k, ok k → k ≠ b) (v0 v1 v2 v3 : Value) : Kd.R k24 24 (four W b v0 v1 v2 v3) base ok v xs := Kd.R_far (Kd.R_far (Kd.R_far (Kd.R_far h hok _) hok _) hok _) hok _
/-- Parts with a sign between, from a tree and a place on. -/
inductive Chain (toks : List S70) (cs : List S138) (pf : Nat) (s : ByteArray) (op dp : Int) : S24 → Int → S24 → Int → Prop
  | stop (l : S24) (j : Int) : lics_reader_sign.f toks cs j dp s = some (false, j, dp) → Chain toks cs pf s op dp l j l j
  | more (l : S24) (j : Nat) (m : S24) (k : Int) (r : S24) (n : Int) : j < toks.length → lics_reader_sign.f toks cs j dp s = some (true, (j : Int), dp) → PartOK toks cs pf ((j : Int) + 1) dp m k → (j : Int) < k → Chain toks cs pf s op dp ⟨op, ⟨#[]⟩, 0, [l, m]⟩ k r n → Chain toks cs pf s op dp l j r n
def rdAt (w : World) (g : Nat) : Int := match w.cell? ⟨g, 2, none⟩ with | some (.int _ n) => n | _ => 0
theorem IsS67.at_eq {w0 W : World} {g : Nat} {f0 : List S70} {f1 : List S138} {f2 f3 : Int} (h : IsS67 w0 W g f0 f1 f2 f3) : rdAt W g = f2 := by
  obtain ⟨A0, c0, A1, c1, hG, _⟩ := h
  unfold rdAt; rw [cellS67_2 hG]
set_option maxHeartbeats 8000000 in
set_option maxRecDepth 100000 in
theorem lics_chain_one.calls (toks : List S70) (cs : List S138) (hm : toks.length ≤ 8192) (s : ByteArray) (op : Int) (i dp : Int) (l : S24) (j : Int) (r : S24) (n : Int) (hP : PartOK toks cs 81 i dp l j) (hC : Chain toks cs 81 s op dp l j r n)
    (g : Nat) (w0 w : World) (hI : IsS67 w0 w g toks cs i dp) (hB : Below w0.heap.size w0 w) :
    Calls Tryz.prog 58 #[.pointer (some ⟨g, 0, none⟩), .string s, .int .u8 op, .func (.func 81) #[.pointer (some ⟨g, 0, none⟩)] #[]] w (LicOut g w0 w toks cs r n dp) := by
  have HI := Aside0.mk hI
  have HB := Aside0.mk hB
  have HP := Aside0.mk hP
  have HC := Aside0.mk hC
  clear hI hB hP hC
  go_enter Tryz.func58, Tryz.ntmps58
  have a1 : ∀ o : Obj, IsS67 w0 (w.alloc o) g toks cs i dp := fun o => HI.out.alloc o
  have a2 : ∀ o : Obj, Below w0.heap.size w0 (w.alloc o) := fun o => HB.out.alloc HB.out.size o
  have HA1 := Aside0.mk a1
  have HA2 := Aside0.mk a2
  clear a1 a2
  go_wp2_with (first | (go_at_call 81; (refine (HP.out g w0 _ (HA1.out _) (HA2.out _)).mono ?_); rintro e_ w1 ⟨v1, rfl, hi, hb, hk, hr⟩; obtain ⟨A1, cp1, rfl⟩ := Kd.R_slice hr; have HI1 := Aside0.mk hi; have HB1 := Aside0.mk hb; have HK1 := Aside0.mk hk; have HR1 := Aside0.mk hr; clear hi hb hk hr))
  have hz1 : w.heap.size + 1 ≤ w1.heap.size := by have := HK1.out.1; simpa using this
  have HZ1 := Aside0.mk hz1
  have hr0 : w1.heap[w.heap.size]? = some (.cells #[.int .u8 0, .string ⟨#[]⟩, .int .i64 0, .slice none 0 0] 24 (0, 0)) := HK1.out.blk (blk_new w _) (by have := HI.out.lt; omega) (by simp)
  have HR0 := Aside0.mk hr0
  clear hz1 hr0
  go_loopw [11] (fun u wr => u = .int .i64 0 ∧ ∃ (l : S24) (j : Int) (v : Value), Chain toks cs 81 s op dp l j r n ∧ IsS67 w0 wr g toks cs j dp ∧ Below w0.heap.size w0 wr ∧ KeepBut w wr g none ∧ wr.heap[w1.heap.size]? = some (.cells #[.int .u8 l.f0, .string l.f1, .int .i64 l.f2, v] 24 (0, 0)) ∧ wr.heap[w.heap.size]? = some (.cells #[.int .u8 0, .string ⟨#[]⟩, .int .i64 0, .slice none 0 0] 24 (0, 0)) ∧ Kd.R k24 24 wr w.heap.size (fun k => k ≠ w.heap.size ∧ k ≠ w1.heap.size) v l.f3) (fun _ wr => (8192 - rdAt wr g).toNat)
  case atStart =>
    refine ⟨rfl, l, j, .slice A1 l.f3.length cp1, HC.out, HI1.out.alloc _, HB1.out.alloc HB1.out.size _, ?_, blk_new _ _, blk_alloc HR0.out _, ?_⟩
    · exact keep_alloc ((keep_alloc (KeepBut.refl w g none) _).trans HK1.out (.inl rfl)) _
    · refine Kd.R_mono (Kd.R_alloc (Kd.R_lower (Kd.R_bound HR1.out) (by simp)) _) (fun k hk => ?_)
      have q1 := hk.2.1
      have q2 := hk.2.2.1
      have q3 : (w.alloc (.cells #[.int .u8 0, .string ⟨#[]⟩, .int .i64 0, .slice none 0 0] 24)).heap.size = w.heap.size + 1 := by simp
      rw [q3] at q1
      exact ⟨by omega, by omega⟩
  case round =>
    obtain ⟨rfl, l, j, v, hC, hI, hB, hK, hb1, hb0, hR⟩ := hrel
    obtain ⟨A2, cp2, rfl⟩ := Kd.R_slice hR
    have HIr := Aside0.mk hI
    have HBr := Aside0.mk hB
    have HKr := Aside0.mk hK
    have HR := Aside0.mk hR
    have Hb1 := Aside0.mk hb1
    have Hb0 := Aside0.mk hb0
    cases hC with
    | stop _ _ hs =>
      have HS := Aside0.mk hs
      clear hI hB hK hR hb1 hb0 hs
      go_wp2_with (first | (go_at_call 80; (refine (lics_reader_sign.calls g toks cs _ dp s false _ dp w0 _ HIr.out HBr.out HS.out).mono ?_); rintro e_ w3 ⟨rfl, hi, hb, hk⟩; have f1 := hk.blk Hb1.out (by have := HIr.out.ne_blk Hb1.out (by decide); omega) (by simp); have f0 := hk.blk Hb0.out (by have := HIr.out.ne_blk Hb0.out (by decide); omega) (by simp); have c0 := blk_cell f1 0; have c1 := blk_cell f1 1; have c2 := blk_cell f1 2; have c3 := blk_cell f1 3; have d0 := blk_cell f0 0; have d1 := blk_cell f0 1; have d2 := blk_cell f0 2; have d3 := blk_cell f0 3; have k0 := blk_frozen f0 0; have k1 := blk_frozen f0 1; have k2 := blk_frozen f0 2; have k3 := blk_frozen f0 3; have F0 := Aside0.mk f0; have HI3 := Aside0.mk hi; have HB3 := Aside0.mk hb; have HK3 := Aside0.mk hk; clear f0 f1 hi hb hk))
      have hkw := HKr.out.trans HK3.out (.inl rfl)
      have hR3 := Kd.R_keep (Kd.R_mono (Kd.R_bound HR.out) (fun k hk => (⟨hk.1, hk.2.1⟩ : (k ≠ w.heap.size ∧ k ≠ w1.heap.size) ∧ w.heap.size ≤ k))) HK3.out (fun k hk => by have := HI.out.lt; omega)
      obtain ⟨o1, o2, o3, o4, o5⟩ := lic_out (r := r) HI3.out HB3.out hkw F0.out (Kd.R_mono hR3 (fun k hk => hk.1.1)) HB.out.size HI.out.lt
      have e0 := blk_cell o5 0
      have e1 := blk_cell o5 1
      have e2 := blk_cell o5 2
      have e3 := blk_cell o5 3
      refine bodyPost_ret (v := .tuple #[.agg #[.int .u8 r.f0, .string r.f1, .int .i64 r.f2, .slice A2 r.f3.length cp2], .int .i64 0]) ?_ rfl ⟨_, rfl, o1, o2, o3, o4⟩
      simp [results, Tryz.results58, go_sem, e0, e1, e2, e3]
    | more _ j m k _ _ hj hs hp hk hr =>
      have HS := Aside0.mk hs
      have HP2 := Aside0.mk hp
      have HJ := Aside0.mk hj
      have HKj := Aside0.mk hk
      have HRr := Aside0.mk hr
      have q4 : IntKind.i64.wrap ((j : Int) + 1) = (j : Int) + 1 := IntWalk.i64_in _ (by omega)
      clear hI hB hK hR hb1 hb0 hs hp hj hk hr
      go_wp2_with (first | (go_at_call 80; (refine (lics_reader_sign.calls g toks cs _ dp s true _ dp w0 _ HIr.out HBr.out HS.out).mono ?_); rintro e_ w3 ⟨rfl, hi, hb, hk⟩; have f1 := hk.blk Hb1.out (by have := HIr.out.ne_blk Hb1.out (by decide); omega) (by simp); have f0 := hk.blk Hb0.out (by have := HIr.out.ne_blk Hb0.out (by decide); omega) (by simp); have F0 := Aside0.mk f0; have F1 := Aside0.mk f1; have HI3 := Aside0.mk hi; have HB3 := Aside0.mk hb; have HK3 := Aside0.mk hk; obtain ⟨A0', c0', A1', c1', hG, -, -, -⟩ := hi; have g2 := cellS67_2 hG; have gf := blk_frozen hG 2; clear f0 f1 hG hb hk) | (go_at_call 81; (refine (HP2.out g w0 _ ((HI3.out.set_2 _).alloc _) ((HB3.out.setCell HI.out.ge _).alloc (by have := HB3.out.size; simpa using this) _)).mono ?_); rintro e_ w4 ⟨v2, rfl, hi, hb, hk, hr⟩; obtain ⟨A3, cp3, rfl⟩ := Kd.R_slice hr; have HI4 := Aside0.mk hi; have HB4 := Aside0.mk hb; have HK4 := Aside0.mk hk; have HR4 := Aside0.mk hr; obtain ⟨g10, g0, g12, hn⟩ := chain_w4 HI.out.lt HZ1.out HKr.out HK3.out F1.out F0.out HK4.out; have x10 := four_far g10 (by omega : w1.heap.size ≠ w3.heap.size) (.int .u8 m.f0) (.string m.f1) (.int .i64 m.f2) (.slice A3 m.f3.length cp3); have x0 := four_far g0 (by have := HZ1.out; omega : w.heap.size ≠ w3.heap.size) (.int .u8 m.f0) (.string m.f1) (.int .i64 m.f2) (.slice A3 m.f3.length cp3); have x12 := four_at g12 (.int .u8 m.f0) (.string m.f1) (.int .i64 m.f2) (.slice A3 m.f3.length cp3); have t0 := blk_cell g12 0; have t1 := blk_cell g12 1; have t2 := blk_cell g12 2; have t3 := blk_cell g12 3; have z0 := blk_frozen g12 0; have z1 := blk_frozen g12 1; have z2 := blk_frozen g12 2; have z3 := blk_frozen g12 3; have p0 : World.cell? (four _ _ _ _ _ _) _ = _ := blk_cell x10 0; have p1 : World.cell? (four _ _ _ _ _ _) _ = _ := blk_cell x10 1; have p2 : World.cell? (four _ _ _ _ _ _) _ = _ := blk_cell x10 2; have p3 : World.cell? (four _ _ _ _ _ _) _ = _ := blk_cell x10 3; have r0 : World.cell? (four _ _ _ _ _ _) _ = _ := blk_cell x12 0; have r1 : World.cell? (four _ _ _ _ _ _) _ = _ := blk_cell x12 1; have r2 : World.cell? (four _ _ _ _ _ _) _ = _ := blk_cell x12 2; have r3 : World.cell? (four _ _ _ _ _ _) _ = _ := blk_cell x12 3; unfold four at p0 p1 p2 p3 r0 r1 r2 r3; have y0 := fun o => blk_cell (blk_alloc x10 o) 0; have y1 := fun o => blk_cell (blk_alloc x10 o) 1; have y2 := fun o => blk_cell (blk_alloc x10 o) 2; have y3 := fun o => blk_cell (blk_alloc x10 o) 3; have h0 := fun o => blk_frozen (blk_alloc x10 o) 0; have h1 := fun o => blk_frozen (blk_alloc x10 o) 1; have h2 := fun o => blk_frozen (blk_alloc x10 o) 2; have h3 := fun o => blk_frozen (blk_alloc x10 o) 3; unfold four at y0 y1 y2 y3 h0 h1 h2 h3; have X10 := Aside0.mk x10; have X0 := Aside0.mk x0; have X12 := Aside0.mk x12; have HN := Aside0.mk hn; clear hi hb hk hr g10 g0 g12 x10 x0 x12 hn))
      have z3 : w.heap.size ≤ w3.heap.size := (HKr.out.trans HK3.out (.inl rfl)).1
      have zc : ((w3.setCell ⟨g, 2, none⟩ (.int .i64 ((j : Int) + 1))).alloc (.cells #[.int .u8 0, .string ⟨#[]⟩, .int .i64 0, .slice none 0 0] 24)).heap.size = w3.heap.size + 1 := by simp
      have z4 : w3.heap.size + 1 ≤ w4.heap.size := by have := HK4.out.1; rw [zc] at this; exact this
      have gl := HI.out.lt
      have hn := HN.out
      have hz1 := HZ1.out
      have zr : wr.heap.size ≤ w3.heap.size := HK3.out.1
      have hl : Kd.R k24 24 (four w4 w3.heap.size (.int .u8 m.f0) (.string m.f1) (.int .i64 m.f2) (.slice A3 m.f3.length cp3)) w.heap.size (fun k => k ≠ w.heap.size ∧ k ≠ w1.heap.size) (.slice A2 l.f3.length cp2) l.f3 := by
        have q := Kd.R_mono (Kd.R_bound HR.out) (fun k hk => (⟨hk.1, hk.2.1, hk.2.2.1⟩ : (k ≠ w.heap.size ∧ k ≠ w1.heap.size) ∧ w.heap.size ≤ k ∧ k < wr.heap.size))
        have q2 := Kd.R_keep q HK3.out (fun k hk => by omega)
        have q3 := Kd.R_keep (Kd.R_alloc (Kd.R_far (p := ⟨g, 2, none⟩) q2 (fun k hk => by simp only; omega) (.int .i64 ((j : Int) + 1))) (.cells #[.int .u8 0, .string ⟨#[]⟩, .int .i64 0, .slice none 0 0] 24)) HK4.out (fun k hk => by omega)
        exact Kd.R_mono (R_four q3 (fun k hk => by omega) _ _ _ _) (fun k hk => hk.1)
      have hm' : Kd.R k24 24 (four w4 w3.heap.size (.int .u8 m.f0) (.string m.f1) (.int .i64 m.f2) (.slice A3 m.f3.length cp3)) w.heap.size (fun k => k ≠ w.heap.size ∧ k ≠ w1.heap.size) (.slice A3 m.f3.length cp3) m.f3 := by
        have q := HR4.out
        rw [zc] at q
        have q2 := Kd.R_mono (Kd.R_bound q) (fun k hk => (hk.2.1 : w3.heap.size + 1 ≤ k))
        exact Kd.R_mono (Kd.R_lower (R_four q2 (fun k hk => by omega) _ _ _ _) (by omega)) (fun k hk => by omega)
      have hp := pair_row hl hm' (by rw [four_size]; omega) (by rw [four_size]; omega)
      rw [four_size] at hp
      have hI7 := ((HI4.out.four (by omega : g ≠ w3.heap.size) (.int .u8 m.f0) (.string m.f1) (.int .i64 m.f2) (.slice A3 m.f3.length cp3)).alloc (.cells #[.int .u8 l.f0, .string l.f1, .int .i64 l.f2, .slice A2 l.f3.length cp2, .int .u8 m.f0, .string m.f1, .int .i64 m.f2, .slice A3 m.f3.length cp3] 24)).four (by omega : g ≠ w1.heap.size) (.int .u8 op) (.string ⟨#[]⟩) (.int .i64 0) (.slice (some ⟨w4.heap.size, 0, none⟩) 2 2)
      refine ⟨⟨rfl, ⟨op, ⟨#[]⟩, 0, [l, m]⟩, k, .slice (some ⟨w4.heap.size, 0, none⟩) 2 2, HRr.out, hI7, ?_, ?_, four_at (blk_alloc X10.out _) _ _ _ _, four_far (blk_alloc X0.out _) (by omega) _ _ _ _, R_four hp (fun k hk => hk.2) _ _ _ _⟩, ?_⟩
      · exact below_four ((below_four HB4.out (by have := HB3.out.size; omega) _ _ _ _).alloc (by rw [four_size]; exact HB4.out.size) _) (by have := HB.out.size; omega) _ _ _ _
      · refine keep_four (keep_alloc (keep_four (KeepBut.trans ?_ HK4.out (.inl rfl)) (by omega) _ _ _ _) _) (by omega) _ _ _ _
        exact keep_alloc ((HKr.out.trans HK3.out (.inl rfl)).set_ _ _) _
      · have e1 := hI7.at_eq
        unfold four at e1
        rw [e1, HIr.out.at_eq]
        have := HKj.out
        have := HJ.out
        omega
set_option maxHeartbeats 8000000 in
set_option maxRecDepth 100000 in
theorem lics_chain_all.calls (toks : List S70) (cs : List S138) (hm : toks.length ≤ 8192) (s : ByteArray) (op : Int) (i dp : Int) (l : S24) (j : Int) (r : S24) (n : Int) (hP : PartOK toks cs 59 i dp l j) (hC : Chain toks cs 59 s op dp l j r n)
    (g : Nat) (w0 w : World) (hI : IsS67 w0 w g toks cs i dp) (hB : Below w0.heap.size w0 w) :
    Calls Tryz.prog 58 #[.pointer (some ⟨g, 0, none⟩), .string s, .int .u8 op, .func (.func 59) #[.pointer (some ⟨g, 0, none⟩)] #[]] w (LicOut g w0 w toks cs r n dp) := by
  have HI := Aside0.mk hI
  have HB := Aside0.mk hB
  have HP := Aside0.mk hP
  have HC := Aside0.mk hC
  clear hI hB hP hC
  go_enter Tryz.func58, Tryz.ntmps58
  have a1 : ∀ o : Obj, IsS67 w0 (w.alloc o) g toks cs i dp := fun o => HI.out.alloc o
  have a2 : ∀ o : Obj, Below w0.heap.size w0 (w.alloc o) := fun o => HB.out.alloc HB.out.size o
  have HA1 := Aside0.mk a1
  have HA2 := Aside0.mk a2
  clear a1 a2
  go_wp2_with (first | (go_at_call 59; (refine (HP.out g w0 _ (HA1.out _) (HA2.out _)).mono ?_); rintro e_ w1 ⟨v1, rfl, hi, hb, hk, hr⟩; obtain ⟨A1, cp1, rfl⟩ := Kd.R_slice hr; have HI1 := Aside0.mk hi; have HB1 := Aside0.mk hb; have HK1 := Aside0.mk hk; have HR1 := Aside0.mk hr; clear hi hb hk hr))
  have hz1 : w.heap.size + 1 ≤ w1.heap.size := by have := HK1.out.1; simpa using this
  have HZ1 := Aside0.mk hz1
  have hr0 : w1.heap[w.heap.size]? = some (.cells #[.int .u8 0, .string ⟨#[]⟩, .int .i64 0, .slice none 0 0] 24 (0, 0)) := HK1.out.blk (blk_new w _) (by have := HI.out.lt; omega) (by simp)
  have HR0 := Aside0.mk hr0
  clear hz1 hr0
  go_loopw [11] (fun u wr => u = .int .i64 0 ∧ ∃ (l : S24) (j : Int) (v : Value), Chain toks cs 59 s op dp l j r n ∧ IsS67 w0 wr g toks cs j dp ∧ Below w0.heap.size w0 wr ∧ KeepBut w wr g none ∧ wr.heap[w1.heap.size]? = some (.cells #[.int .u8 l.f0, .string l.f1, .int .i64 l.f2, v] 24 (0, 0)) ∧ wr.heap[w.heap.size]? = some (.cells #[.int .u8 0, .string ⟨#[]⟩, .int .i64 0, .slice none 0 0] 24 (0, 0)) ∧ Kd.R k24 24 wr w.heap.size (fun k => k ≠ w.heap.size ∧ k ≠ w1.heap.size) v l.f3) (fun _ wr => (8192 - rdAt wr g).toNat)
  case atStart =>
    refine ⟨rfl, l, j, .slice A1 l.f3.length cp1, HC.out, HI1.out.alloc _, HB1.out.alloc HB1.out.size _, ?_, blk_new _ _, blk_alloc HR0.out _, ?_⟩
    · exact keep_alloc ((keep_alloc (KeepBut.refl w g none) _).trans HK1.out (.inl rfl)) _
    · refine Kd.R_mono (Kd.R_alloc (Kd.R_lower (Kd.R_bound HR1.out) (by simp)) _) (fun k hk => ?_)
      have q1 := hk.2.1
      have q2 := hk.2.2.1
      have q3 : (w.alloc (.cells #[.int .u8 0, .string ⟨#[]⟩, .int .i64 0, .slice none 0 0] 24)).heap.size = w.heap.size + 1 := by simp
      rw [q3] at q1
      exact ⟨by omega, by omega⟩
  case round =>
    obtain ⟨rfl, l, j, v, hC, hI, hB, hK, hb1, hb0, hR⟩ := hrel
    obtain ⟨A2, cp2, rfl⟩ := Kd.R_slice hR
    have HIr := Aside0.mk hI
    have HBr := Aside0.mk hB
    have HKr := Aside0.mk hK
    have HR := Aside0.mk hR
    have Hb1 := Aside0.mk hb1
    have Hb0 := Aside0.mk hb0
    cases hC with
    | stop _ _ hs =>
      have HS := Aside0.mk hs
      clear hI hB hK hR hb1 hb0 hs
      go_wp2_with (first | (go_at_call 80; (refine (lics_reader_sign.calls g toks cs _ dp s false _ dp w0 _ HIr.out HBr.out HS.out).mono ?_); rintro e_ w3 ⟨rfl, hi, hb, hk⟩; have f1 := hk.blk Hb1.out (by have := HIr.out.ne_blk Hb1.out (by decide); omega) (by simp); have f0 := hk.blk Hb0.out (by have := HIr.out.ne_blk Hb0.out (by decide); omega) (by simp); have c0 := blk_cell f1 0; have c1 := blk_cell f1 1; have c2 := blk_cell f1 2; have c3 := blk_cell f1 3; have d0 := blk_cell f0 0; have d1 := blk_cell f0 1; have d2 := blk_cell f0 2; have d3 := blk_cell f0 3; have k0 := blk_frozen f0 0; have k1 := blk_frozen f0 1; have k2 := blk_frozen f0 2; have k3 := blk_frozen f0 3; have F0 := Aside0.mk f0; have HI3 := Aside0.mk hi; have HB3 := Aside0.mk hb; have HK3 := Aside0.mk hk; clear f0 f1 hi hb hk))
      have hkw := HKr.out.trans HK3.out (.inl rfl)
      have hR3 := Kd.R_keep (Kd.R_mono (Kd.R_bound HR.out) (fun k hk => (⟨hk.1, hk.2.1⟩ : (k ≠ w.heap.size ∧ k ≠ w1.heap.size) ∧ w.heap.size ≤ k))) HK3.out (fun k hk => by have := HI.out.lt; omega)
      obtain ⟨o1, o2, o3, o4, o5⟩ := lic_out (r := r) HI3.out HB3.out hkw F0.out (Kd.R_mono hR3 (fun k hk => hk.1.1)) HB.out.size HI.out.lt
      have e0 := blk_cell o5 0
      have e1 := blk_cell o5 1
      have e2 := blk_cell o5 2
      have e3 := blk_cell o5 3
      refine bodyPost_ret (v := .tuple #[.agg #[.int .u8 r.f0, .string r.f1, .int .i64 r.f2, .slice A2 r.f3.length cp2], .int .i64 0]) ?_ rfl ⟨_, rfl, o1, o2, o3, o4⟩
      simp [results, Tryz.results58, go_sem, e0, e1, e2, e3]
    | more _ j m k _ _ hj hs hp hk hr =>
      have HS := Aside0.mk hs
      have HP2 := Aside0.mk hp
      have HJ := Aside0.mk hj
      have HKj := Aside0.mk hk
      have HRr := Aside0.mk hr
      have q4 : IntKind.i64.wrap ((j : Int) + 1) = (j : Int) + 1 := IntWalk.i64_in _ (by omega)
      clear hI hB hK hR hb1 hb0 hs hp hj hk hr
      go_wp2_with (first | (go_at_call 80; (refine (lics_reader_sign.calls g toks cs _ dp s true _ dp w0 _ HIr.out HBr.out HS.out).mono ?_); rintro e_ w3 ⟨rfl, hi, hb, hk⟩; have f1 := hk.blk Hb1.out (by have := HIr.out.ne_blk Hb1.out (by decide); omega) (by simp); have f0 := hk.blk Hb0.out (by have := HIr.out.ne_blk Hb0.out (by decide); omega) (by simp); have F0 := Aside0.mk f0; have F1 := Aside0.mk f1; have HI3 := Aside0.mk hi; have HB3 := Aside0.mk hb; have HK3 := Aside0.mk hk; obtain ⟨A0', c0', A1', c1', hG, -, -, -⟩ := hi; have g2 := cellS67_2 hG; have gf := blk_frozen hG 2; clear f0 f1 hG hb hk) | (go_at_call 59; (refine (HP2.out g w0 _ ((HI3.out.set_2 _).alloc _) ((HB3.out.setCell HI.out.ge _).alloc (by have := HB3.out.size; simpa using this) _)).mono ?_); rintro e_ w4 ⟨v2, rfl, hi, hb, hk, hr⟩; obtain ⟨A3, cp3, rfl⟩ := Kd.R_slice hr; have HI4 := Aside0.mk hi; have HB4 := Aside0.mk hb; have HK4 := Aside0.mk hk; have HR4 := Aside0.mk hr; obtain ⟨g10, g0, g12, hn⟩ := chain_w4 HI.out.lt HZ1.out HKr.out HK3.out F1.out F0.out HK4.out; have x10 := four_far g10 (by omega : w1.heap.size ≠ w3.heap.size) (.int .u8 m.f0) (.string m.f1) (.int .i64 m.f2) (.slice A3 m.f3.length cp3); have x0 := four_far g0 (by have := HZ1.out; omega : w.heap.size ≠ w3.heap.size) (.int .u8 m.f0) (.string m.f1) (.int .i64 m.f2) (.slice A3 m.f3.length cp3); have x12 := four_at g12 (.int .u8 m.f0) (.string m.f1) (.int .i64 m.f2) (.slice A3 m.f3.length cp3); have t0 := blk_cell g12 0; have t1 := blk_cell g12 1; have t2 := blk_cell g12 2; have t3 := blk_cell g12 3; have z0 := blk_frozen g12 0; have z1 := blk_frozen g12 1; have z2 := blk_frozen g12 2; have z3 := blk_frozen g12 3; have p0 : World.cell? (four _ _ _ _ _ _) _ = _ := blk_cell x10 0; have p1 : World.cell? (four _ _ _ _ _ _) _ = _ := blk_cell x10 1; have p2 : World.cell? (four _ _ _ _ _ _) _ = _ := blk_cell x10 2; have p3 : World.cell? (four _ _ _ _ _ _) _ = _ := blk_cell x10 3; have r0 : World.cell? (four _ _ _ _ _ _) _ = _ := blk_cell x12 0; have r1 : World.cell? (four _ _ _ _ _ _) _ = _ := blk_cell x12 1; have r2 : World.cell? (four _ _ _ _ _ _) _ = _ := blk_cell x12 2; have r3 : World.cell? (four _ _ _ _ _ _) _ = _ := blk_cell x12 3; unfold four at p0 p1 p2 p3 r0 r1 r2 r3; have y0 := fun o => blk_cell (blk_alloc x10 o) 0; have y1 := fun o => blk_cell (blk_alloc x10 o) 1; have y2 := fun o => blk_cell (blk_alloc x10 o) 2; have y3 := fun o => blk_cell (blk_alloc x10 o) 3; have h0 := fun o => blk_frozen (blk_alloc x10 o) 0; have h1 := fun o => blk_frozen (blk_alloc x10 o) 1; have h2 := fun o => blk_frozen (blk_alloc x10 o) 2; have h3 := fun o => blk_frozen (blk_alloc x10 o) 3; unfold four at y0 y1 y2 y3 h0 h1 h2 h3; have X10 := Aside0.mk x10; have X0 := Aside0.mk x0; have X12 := Aside0.mk x12; have HN := Aside0.mk hn; clear hi hb hk hr g10 g0 g12 x10 x0 x12 hn))
      have z3 : w.heap.size ≤ w3.heap.size := (HKr.out.trans HK3.out (.inl rfl)).1
      have zc : ((w3.setCell ⟨g, 2, none⟩ (.int .i64 ((j : Int) + 1))).alloc (.cells #[.int .u8 0, .string ⟨#[]⟩, .int .i64 0, .slice none 0 0] 24)).heap.size = w3.heap.size + 1 := by simp
      have z4 : w3.heap.size + 1 ≤ w4.heap.size := by have := HK4.out.1; rw [zc] at this; exact this
      have gl := HI.out.lt
      have hn := HN.out
      have hz1 := HZ1.out
      have zr : wr.heap.size ≤ w3.heap.size := HK3.out.1
      have hl : Kd.R k24 24 (four w4 w3.heap.size (.int .u8 m.f0) (.string m.f1) (.int .i64 m.f2) (.slice A3 m.f3.length cp3)) w.heap.size (fun k => k ≠ w.heap.size ∧ k ≠ w1.heap.size) (.slice A2 l.f3.length cp2) l.f3 := by
        have q := Kd.R_mono (Kd.R_bound HR.out) (fun k hk => (⟨hk.1, hk.2.1, hk.2.2.1⟩ : (k ≠ w.heap.size ∧ k ≠ w1.heap.size) ∧ w.heap.size ≤ k ∧ k < wr.heap.size))
        have q2 := Kd.R_keep q HK3.out (fun k hk => by omega)
        have q3 := Kd.R_keep (Kd.R_alloc (Kd.R_far (p := ⟨g, 2, none⟩) q2 (fun k hk => by simp only; omega) (.int .i64 ((j : Int) + 1))) (.cells #[.int .u8 0, .string ⟨#[]⟩, .int .i64 0, .slice none 0 0] 24)) HK4.out (fun k hk => by omega)
        exact Kd.R_mono (R_four q3 (fun k hk => by omega) _ _ _ _) (fun k hk => hk.1)
      have hm' : Kd.R k24 24 (four w4 w3.heap.size (.int .u8 m.f0) (.string m.f1) (.int .i64 m.f2) (.slice A3 m.f3.length cp3)) w.heap.size (fun k => k ≠ w.heap.size ∧ k ≠ w1.heap.size) (.slice A3 m.f3.length cp3) m.f3 := by
        have q := HR4.out
        rw [zc] at q
        have q2 := Kd.R_mono (Kd.R_bound q) (fun k hk => (hk.2.1 : w3.heap.size + 1 ≤ k))
        exact Kd.R_mono (Kd.R_lower (R_four q2 (fun k hk => by omega) _ _ _ _) (by omega)) (fun k hk => by omega)
      have hp := pair_row hl hm' (by rw [four_size]; omega) (by rw [four_size]; omega)
      rw [four_size] at hp
      have hI7 := ((HI4.out.four (by omega : g ≠ w3.heap.size) (.int .u8 m.f0) (.string m.f1) (.int .i64 m.f2) (.slice A3 m.f3.length cp3)).alloc (.cells #[.int .u8 l.f0, .string l.f1, .int .i64 l.f2, .slice A2 l.f3.length cp2, .int .u8 m.f0, .string m.f1, .int .i64 m.f2, .slice A3 m.f3.length cp3] 24)).four (by omega : g ≠ w1.heap.size) (.int .u8 op) (.string ⟨#[]⟩) (.int .i64 0) (.slice (some ⟨w4.heap.size, 0, none⟩) 2 2)
      refine ⟨⟨rfl, ⟨op, ⟨#[]⟩, 0, [l, m]⟩, k, .slice (some ⟨w4.heap.size, 0, none⟩) 2 2, HRr.out, hI7, ?_, ?_, four_at (blk_alloc X10.out _) _ _ _ _, four_far (blk_alloc X0.out _) (by omega) _ _ _ _, R_four hp (fun k hk => hk.2) _ _ _ _⟩, ?_⟩
      · exact below_four ((below_four HB4.out (by have := HB3.out.size; omega) _ _ _ _).alloc (by rw [four_size]; exact HB4.out.size) _) (by have := HB.out.size; omega) _ _ _ _
      · refine keep_four (keep_alloc (keep_four (KeepBut.trans ?_ HK4.out (.inl rfl)) (by omega) _ _ _ _) _) (by omega) _ _ _ _
        exact keep_alloc ((HKr.out.trans HK3.out (.inl rfl)).set_ _ _) _
      · have e1 := hI7.at_eq
        unfold four at e1
        rw [e1, HIr.out.at_eq]
        have := HKj.out
        have := HJ.out
        omega
set_option maxHeartbeats 8000000 in
set_option maxRecDepth 100000 in
theorem lics_all.calls (toks : List S70) (cs : List S138) (hm : toks.length ≤ 8192) (i dp : Int) (l : S24) (j : Int) (r : S24) (n : Int) (hP : PartOK toks cs 81 i dp l j) (hC : Chain toks cs 81 ⟨#[38, 38]⟩ 2 dp l j r n) : PartOK toks cs 59 i dp r n := by
  intro g w0 w hI hB
  have HI := Aside0.mk hI
  have HB := Aside0.mk hB
  have HP := Aside0.mk hP
  have HC := Aside0.mk hC
  clear hI hB hP hC
  go_enter Tryz.func59, Tryz.ntmps59
  go_wp2_with (first | (go_at_call 58; (refine (lics_chain_one.calls toks cs hm ⟨#[38, 38]⟩ 2 i dp l j r n HP.out HC.out g w0 _ (HI.out.alloc _) (HB.out.alloc HB.out.size _)).mono ?_); rintro e_ w1 ⟨v1, rfl, hi, hb, hk, hr⟩; obtain ⟨A1, cp1, rfl⟩ := Kd.R_slice hr; have HI1 := Aside0.mk hi; have HB1 := Aside0.mk hb; have HK1 := Aside0.mk hk; have HR1 := Aside0.mk hr; have hr0 : w1.heap[w.heap.size]? = some (.cells #[.int .u8 0, .string ⟨#[]⟩, .int .i64 0, .slice none 0 0] 24 (0, 0)) := HK1.out.blk (blk_new w _) (by have := HI.out.lt; omega) (by simp); have HR0 := Aside0.mk hr0; have d0 := blk_cell hr0 0; have d1 := blk_cell hr0 1; have d2 := blk_cell hr0 2; have d3 := blk_cell hr0 3; have k0 := blk_frozen hr0 0; have k1 := blk_frozen hr0 1; have k2 := blk_frozen hr0 2; have k3 := blk_frozen hr0 3; clear hi hb hk hr hr0))
  have hkw := (keep_alloc (KeepBut.refl w g none) (.cells #[.int .u8 0, .string ⟨#[]⟩, .int .i64 0, .slice none 0 0] 24)).trans HK1.out (.inl rfl)
  have zc : (w.alloc (.cells #[.int .u8 0, .string ⟨#[]⟩, .int .i64 0, .slice none 0 0] 24)).heap.size = w.heap.size + 1 := by simp
  have hr := HR1.out
  rw [zc] at hr
  have hr2 := Kd.R_lower (Kd.R_mono (Kd.R_bound hr) (fun k hk => (by have := hk.2.1; omega : k ≠ w.heap.size))) (Nat.le_succ w.heap.size)
  obtain ⟨o1, o2, o3, o4, o5⟩ := lic_out (r := r) HI1.out HB1.out hkw HR0.out hr2 HB.out.size HI.out.lt
  have e0 := blk_cell o5 0
  have e1 := blk_cell o5 1
  have e2 := blk_cell o5 2
  have e3 := blk_cell o5 3
  refine bodyPost_ret (v := .tuple #[.agg #[.int .u8 r.f0, .string r.f1, .int .i64 r.f2, .slice A1 r.f3.length cp1], .int .i64 0]) ?_ rfl ⟨_, rfl, o1, o2, o3, o4⟩
  simp [results, Tryz.results59, go_sem, e0, e1, e2, e3]
set_option maxHeartbeats 8000000 in
set_option maxRecDepth 100000 in
theorem lics_some.calls (toks : List S70) (cs : List S138) (hm : toks.length ≤ 8192) (i dp : Int) (l : S24) (j : Int) (r : S24) (n : Int) (hP : PartOK toks cs 59 i dp l j) (hC : Chain toks cs 59 ⟨#[124, 124]⟩ 3 dp l j r n) : PartOK toks cs 36 i dp r n := by
  intro g w0 w hI hB
  have HI := Aside0.mk hI
  have HB := Aside0.mk hB
  have HP := Aside0.mk hP
  have HC := Aside0.mk hC
  clear hI hB hP hC
  go_enter Tryz.func36, Tryz.ntmps36
  go_wp2_with (first | (go_at_call 58; (refine (lics_chain_all.calls toks cs hm ⟨#[124, 124]⟩ 3 i dp l j r n HP.out HC.out g w0 _ (HI.out.alloc _) (HB.out.alloc HB.out.size _)).mono ?_); rintro e_ w1 ⟨v1, rfl, hi, hb, hk, hr⟩; obtain ⟨A1, cp1, rfl⟩ := Kd.R_slice hr; have HI1 := Aside0.mk hi; have HB1 := Aside0.mk hb; have HK1 := Aside0.mk hk; have HR1 := Aside0.mk hr; have hr0 : w1.heap[w.heap.size]? = some (.cells #[.int .u8 0, .string ⟨#[]⟩, .int .i64 0, .slice none 0 0] 24 (0, 0)) := HK1.out.blk (blk_new w _) (by have := HI.out.lt; omega) (by simp); have HR0 := Aside0.mk hr0; have d0 := blk_cell hr0 0; have d1 := blk_cell hr0 1; have d2 := blk_cell hr0 2; have d3 := blk_cell hr0 3; have k0 := blk_frozen hr0 0; have k1 := blk_frozen hr0 1; have k2 := blk_frozen hr0 2; have k3 := blk_frozen hr0 3; clear hi hb hk hr hr0))
  have hkw := (keep_alloc (KeepBut.refl w g none) (.cells #[.int .u8 0, .string ⟨#[]⟩, .int .i64 0, .slice none 0 0] 24)).trans HK1.out (.inl rfl)
  have zc : (w.alloc (.cells #[.int .u8 0, .string ⟨#[]⟩, .int .i64 0, .slice none 0 0] 24)).heap.size = w.heap.size + 1 := by simp
  have hr := HR1.out
  rw [zc] at hr
  have hr2 := Kd.R_lower (Kd.R_mono (Kd.R_bound hr) (fun k hk => (by have := hk.2.1; omega : k ≠ w.heap.size))) (Nat.le_succ w.heap.size)
  obtain ⟨o1, o2, o3, o4, o5⟩ := lic_out (r := r) HI1.out HB1.out hkw HR0.out hr2 HB.out.size HI.out.lt
  have e0 := blk_cell o5 0
  have e1 := blk_cell o5 1
  have e2 := blk_cell o5 2
  have e3 := blk_cell o5 3
  refine bodyPost_ret (v := .tuple #[.agg #[.int .u8 r.f0, .string r.f1, .int .i64 r.f2, .slice A1 r.f3.length cp1], .int .i64 0]) ?_ rfl ⟨_, rfl, o1, o2, o3, o4⟩
  simp [results, Tryz.results36, go_sem, e0, e1, e2, e3]
end Go.Proofs.YtjapfefiaijfcaaGreatDoor.Q
