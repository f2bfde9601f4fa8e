/- Go functions as Lean functions, and that each call comes to its Lean function's answer, wherever that is some answer. Written by a program of this session out of the translation. -/
import Derived.Test.YtjapfefiaijfcaaGreatDoorH5
import Derived.Test.YtjapfefiaijfcaaGreatDoorH9
namespace Go.Proofs.YtjapfefiaijfcaaGreatDoor.Q
open Go.RowKit Go.Proofs.YtjapfefiaijfcaaGreatDoorW.PrintWords Go.Proofs.YtjapfefiaijfcaaGreatDoorW.PrintLast Go.Proofs.YtjapfefiaijfcaaGreatDoorW.PrintMore
attribute [local go_sem] max2_int min2_int max_two min_two max_three min_three max_four min_four
set_option linter.unusedVariables false
set_option linter.unusedSimpArgs false
def vouchref14_number.j0:Nat → ByteArray → Int → Int → Bool → Option (Int × ByteArray × Int × Int)
 | 0,_,_,_,_=>none
 | k + 1,x0,x1,x5,x26=>if x26=true then ((vouchref14_digits.f k x0 (wrap64 (x5 + 1))).bind fun t434=>(if 0 ≤ x1 then (if x1 ≤ t434 then (if t434 ≤ (x0.size:Int) then (some (3,x0.extract (x1:Int).toNat (t434:Int).toNat,x1,t434)) else (none)) else (none)) else (none))) else (if (wrap64 (x5 + 3)) ≤ (x0.size:Int) then (if 0 ≤ x5 then (if x5 ≤ (wrap64 (x5 + 3)) then (if (x0.extract (x5:Int).toNat ((wrap64 (x5 + 3)):Int).toNat).toList=([45,111,102]:List UInt8) then (if (wrap64 (x5 + 3))=(x0.size:Int) then (if 0 ≤ x1 then (if x1 ≤ x5 then (if x5 ≤ (x0.size:Int) then (some (5,x0.extract (x1:Int).toNat (x5:Int).toNat,x1,wrap64 (x5 + 3))) else (none)) else (none)) else (none)) else (if 0 ≤ (wrap64 (x5 + 3)) then (if (wrap64 (x5 + 3)) < (x0.size:Int) then ((vouchref14_letter.f (bt x0 (wrap64 (x5 + 3)))).bind fun t435=>(if t435=true then (if 0 ≤ x1 then (if x1 ≤ x5 then (if x5 ≤ (x0.size:Int) then (some (2,x0.extract (x1:Int).toNat (x5:Int).toNat,x1,x5)) else (none)) else (none)) else (none)) else ((vouchref14_digit.f (bt x0 (wrap64 (x5 + 3)))).bind fun t436=>(if t436=true then (if 0 ≤ x1 then (if x1 ≤ x5 then (if x5 ≤ (x0.size:Int) then (some (2,x0.extract (x1:Int).toNat (x5:Int).toNat,x1,x5)) else (none)) else (none)) else (none)) else (if 0 ≤ x1 then (if x1 ≤ x5 then (if x5 ≤ (x0.size:Int) then (some (5,x0.extract (x1:Int).toNat (x5:Int).toNat,x1,wrap64 (x5 + 3))) else (none)) else (none)) else (none)))))) else (none)) else (none))) else (if 0 ≤ x1 then (if x1 ≤ x5 then (if x5 ≤ (x0.size:Int) then (some (2,x0.extract (x1:Int).toNat (x5:Int).toNat,x1,x5)) else (none)) else (none)) else (none))) else (none)) else (none)) else (if 0 ≤ x1 then (if x1 ≤ x5 then (if x5 ≤ (x0.size:Int) then (some (2,x0.extract (x1:Int).toNat (x5:Int).toNat,x1,x5)) else (none)) else (none)) else (none)))
def vouchref14_number.f (k:Nat) (a0:ByteArray) (a1:Int):Option (Int × ByteArray × Int × Int):=(vouchref14_digits.f k a0 a1).bind fun t432=>(if (wrap64 (t432 + 1)) < (a0.size:Int) then (if 0 ≤ t432 then (if t432 < (a0.size:Int) then (if (bt a0 t432)=46 then (if 0 ≤ (wrap64 (t432 + 1)) then ((vouchref14_digit.f (bt a0 (wrap64 (t432 + 1)))).bind fun t433=>(vouchref14_number.j0 k a0 a1 t432 t433)) else (none)) else (vouchref14_number.j0 k a0 a1 t432 false)) else (none)) else (none)) else (vouchref14_number.j0 k a0 a1 t432 false))
set_option maxHeartbeats 8000000 in
set_option maxRecDepth 100000 in
theorem vouchref14_number.calls (k:Nat) (a0:ByteArray) (a1:Int) (r1:Int) (r2:ByteArray) (r3:Int) (r4:Int) (w:World) (h:vouchref14_number.f k a0 a1=some (r1,r2,r3,r4)) :
  Calls Tryz.prog 84 #[.string a0,.int .i64 a1] w fun e w'=>e = .returned (.agg #[.int .u8 r1,.string r2,.int .i64 r3,.int .i64 r4]) ∧ Below w.heap.size w w':=by
 have hu70:=Tryz.underlying70
 have HB:=Aside0.mk (Below.refl w.heap.size w)
 have H:((vouchref14_digits.f k a0 a1).bind fun t432=>(if (wrap64 (t432 + 1)) < (a0.size:Int) then (if 0 ≤ t432 then (if t432 < (a0.size:Int) then (if (bt a0 t432)=46 then (if 0 ≤ (wrap64 (t432 + 1)) then ((vouchref14_digit.f (bt a0 (wrap64 (t432 + 1)))).bind fun t433=>(vouchref14_number.j0 k a0 a1 t432 t433)) else (none)) else (vouchref14_number.j0 k a0 a1 t432 false)) else (none)) else (none)) else (vouchref14_number.j0 k a0 a1 t432 false)))=some (r1,r2,r3,r4):=h
 clear h
 replace H:=Option.bind_eq_some_iff.mp H
 obtain ⟨t432,A30,H⟩:=H
 replace H:(if (wrap64 (t432 + 1)) < (a0.size:Int) then (if 0 ≤ t432 then (if t432 < (a0.size:Int) then (if (bt a0 t432)=46 then (if 0 ≤ (wrap64 (t432 + 1)) then ((vouchref14_digit.f (bt a0 (wrap64 (t432 + 1)))).bind fun t433=>(vouchref14_number.j0 k a0 a1 t432 t433)) else (none)) else (vouchref14_number.j0 k a0 a1 t432 false)) else (none)) else (none)) else (vouchref14_number.j0 k a0 a1 t432 false))=some (r1,r2,r3,r4):=H
 have A3:=Aside0.mk A30
 clear A30
 have HC4:=Aside0.mk H
 clear H
 go_enter Tryz.func84,Tryz.ntmps84
 go_upto_region 2 with (first | ((with_reducible refine gate_dst (N:=4) rfl ?_);(try (refine gate_guard (by rfl) ?_;dsimp only));refine box_event ?hg (N:=4) ?hd (cs:=#[.int .u8 0,.string (⟨#[]⟩:ByteArray),.int .i64 0,.int .i64 0]) (t:=70) ?hr ?_;(case hd=>rfl);(case hg=>rfl);(case hr=>first | (go_simp;done) | (go_simp;rfl));intro gb431 hg w5 hbox hb;have n0_:=Aside0.mk (below_step (by repeat (first | (with_reducible first | exact HB.out | apply below_alloc | apply pw_below_drewN | apply below_drew1) | exact HB.out)) hb);have n1_:=Aside0.mk (hbox);have n2_:=Aside0.mk ((by rw [hg];exact (below_size (by repeat (first | (with_reducible first | exact HB.out | apply below_alloc | apply pw_below_drewN | apply below_drew1) | exact HB.out))):w.heap.size ≤ gb431));have n3_:=Aside0.mk ((by rw [hg];exact (below_size (by repeat (first | (with_reducible first | exact HB.out | apply below_alloc | apply pw_below_drewN | apply below_drew1) | exact HB.out))):w.heap.size ≤ gb431));clear HB;have HB:=n0_;have BK431:=n1_;have GW431:=n2_;have GE431:=n3_;clear n0_ n1_ n2_ n3_;clear hb hbox hg) | ((with_reducible refine gate_callee (f:=109) rfl ?_);refine goesL_ (some 8) rfl rfl Tryz.func109 (by kernel_rfl) rfl #[.string a0,.int .i64 a1] rfl (by (try simp only [List.map_toArray,List.map_cons,List.map_nil]);first | done | rfl | (simp only [List.length_drop,List.length_take];rfl)) ?_;(with_reducible refine (vouchref14_digits.calls k a0 a1 t432 _ A3.out).mono ?_);rintro e w' ⟨rfl,⟨nd,rfl⟩⟩;refine ⟨_,rfl,?_⟩))
 (try simp only [Act.put,List.setIfInBounds_toArray,List.set_cons_zero,List.set_cons_succ])
 go_cut [26] (fun v26 wc=>∃ (kq:Nat) (x26_3:Bool),v26 = .bool x26_3 ∧ Aside0 (vouchref14_number.j0 kq a0 a1 t432 x26_3=some (r1,r2,r3,r4)) ∧ Aside0 (kq ≤ k) ∧ Aside0 (wc.heap[gb431]? = some (.cells #[.int .u8 0,.string (⟨#[]⟩:ByteArray),.int .i64 0,.int .i64 0] 70 (0,0))) ∧ Aside0 (Below w.heap.size w wc))
 case first =>
  have H:=HC4.out
  clear HC4
  by_cases c6:(wrap64 (t432 + 1)) < (a0.size:Int)
  ·rw [if_pos c6] at H
   have c6b0:decide ((wrap64 (t432 + 1)) < (a0.size:Int))=true:=decide_eq_true c6
   clear c6
   (first | rw [c6b0] | (simp only [i64_w,i32_w];rw [c6b0]) | skip)
   by_cases c7:0 ≤ t432
   ·rw [if_pos c7] at H
    have c7b0:decide (0 ≤ t432)=true:=decide_eq_true c7
    clear c7
    by_cases c8:t432 < (a0.size:Int)
    ·rw [if_pos c8] at H
     have c8b0:decide (t432 < (a0.size:Int))=true:=decide_eq_true c8
     clear c8
     by_cases c10:(bt a0 t432)=46
     ·rw [if_pos c10] at H
      have c10b0:((bt a0 t432) == 46)=true:=beq_iff_eq.mpr c10
      have c10b1:((bt a0 t432) != 46)=false:=bne_eq_false_iff_eq.mpr c10
      clear c10
      obtain ⟨ji11,hji11⟩:∃ j_:Int,(wrap64 (t432 + 1))=j_:=⟨_,rfl⟩
      replace H:(if 0 ≤ (ji11) then ((vouchref14_digit.f (bt a0 (ji11))).bind fun t433=>(vouchref14_number.j0 k a0 a1 t432 t433)) else (none))=some (r1,r2,r3,r4):=by first | (rw [hji11] at H;exact H) | (simp only [hji11] at H ⊢;exact H)
      (try rw [hji11] at c6b0)
      have hji11w:(IntKind.i64.wrap (t432 + 1))=ji11:=(i64_w _).trans hji11
      by_cases c12:0 ≤ (ji11)
      ·rw [if_pos c12] at H
       have c12b0:decide (0 ≤ (ji11))=true:=decide_eq_true c12
       clear c12
       replace H:=Option.bind_eq_some_iff.mp H
       obtain ⟨t433,A140,H⟩:=H
       replace H:(vouchref14_number.j0 k a0 a1 t432 t433)=some (r1,r2,r3,r4):=H
       have A14:=Aside0.mk A140
       clear A140
       have H':=Aside0.mk H
       clear H
       have p9:0 ≤ (t432:Int):=of_decide_eq_true (by first | (with_reducible assumption) | assumption)
       have q9:t432 < (a0.size:Int):=of_decide_eq_true (by first | (with_reducible assumption) | assumption)
       have hx9:=bt_at a0 t432
       replace p9:=eq_true p9
       replace q9:=eq_true q9
       have p13:0 ≤ ((ji11):Int):=of_decide_eq_true (by first | (with_reducible assumption) | assumption)
       have q13:(ji11) < (a0.size:Int):=of_decide_eq_true (by first | (with_reducible assumption) | assumption)
       have hx13:=bt_at a0 (ji11)
       replace p13:=eq_true p13
       replace q13:=eq_true q13
       go_wp2_with (first | (go_at_call 83;(with_reducible refine (vouchref14_digit.calls (bt a0 (ji11)) t433 _ A14.out).mono ?_);rintro e w' ⟨rfl,⟨nd,rfl⟩⟩))
       go_meet
       case rel=>exact ⟨_,(t433),(by first | rfl | (simp;done) | (simp [*];done) | (repeat (first | rfl | (unfold wrap64;omega) | congr 1))),H',⟨by first | omega | exact Nat.le_refl _⟩,⟨by (with_reducible repeat (first | refine blk_drewN ?_ _ | refine blk_drew ?_ | refine blk_alloc ?_ _));exact BK431.out⟩,⟨by repeat (first | (with_reducible first | exact HB.out | apply below_alloc | apply pw_below_drewN | apply below_drew1 | refine below_set ?_ GE431.out) | exact HB.out)⟩⟩
      ·rw [if_neg c12] at H
       exact absurd H (by simp)
     ·rw [if_neg c10] at H
      have c10b0:((bt a0 t432) == 46)=false:=beq_eq_false_iff_ne.mpr c10
      have c10b1:((bt a0 t432) != 46)=true:=bne_iff_ne.mpr c10
      have H':=Aside0.mk H
      clear H
      have p9:0 ≤ (t432:Int):=of_decide_eq_true (by first | (with_reducible assumption) | assumption)
      have q9:t432 < (a0.size:Int):=of_decide_eq_true (by first | (with_reducible assumption) | assumption)
      have hx9:=bt_at a0 t432
      replace p9:=eq_true p9
      replace q9:=eq_true q9
      go_wp2
      go_meet
      case rel=>exact ⟨_,(false),(by first | rfl | (simp;done) | (simp [*];done) | (repeat (first | rfl | (unfold wrap64;omega) | congr 1))),H',⟨by first | omega | exact Nat.le_refl _⟩,⟨by (with_reducible repeat (first | refine blk_drewN ?_ _ | refine blk_drew ?_ | refine blk_alloc ?_ _));exact BK431.out⟩,⟨by repeat (first | (with_reducible first | exact HB.out | apply below_alloc | apply pw_below_drewN | apply below_drew1 | refine below_set ?_ GE431.out) | exact HB.out)⟩⟩
    ·rw [if_neg c8] at H
     exact absurd H (by simp)
   ·rw [if_neg c7] at H
    exact absurd H (by simp)
  ·rw [if_neg c6] at H
   have c6b0:decide ((wrap64 (t432 + 1)) < (a0.size:Int))=false:=decide_eq_false c6
   clear c6
   (first | rw [c6b0] | (simp only [i64_w,i32_w];rw [c6b0]) | skip)
   have H':=Aside0.mk H
   clear H
   go_wp2
   go_meet
   case rel=>exact ⟨_,(false),(by first | rfl | (simp;done) | (simp [*];done) | (repeat (first | rfl | (unfold wrap64;omega) | congr 1))),H',⟨by first | omega | exact Nat.le_refl _⟩,⟨by (with_reducible repeat (first | refine blk_drewN ?_ _ | refine blk_drew ?_ | refine blk_alloc ?_ _));exact BK431.out⟩,⟨by repeat (first | (with_reducible first | exact HB.out | apply below_alloc | apply pw_below_drewN | apply below_drew1 | refine below_set ?_ GE431.out) | exact HB.out)⟩⟩
 case rest =>
  clear HC4
  try clear c1
  try clear p1
  try clear q1
  try clear hx1
  try clear p2
  try clear c6
  try clear c6b0
  try clear p6
  try clear c7
  try clear c7b0
  try clear c8
  try clear c8b0
  try clear p9
  try clear q9
  try clear hx9
  try clear c10
  try clear c10b0
  try clear c10b1
  try clear c12
  try clear c12b0
  try clear p13
  try clear q13
  try clear hx13
  try clear p13
  try clear p9
  try clear q13
  try clear q9
  obtain ⟨kq,x26_3,rfl,HA,HJ3,BK431,HB⟩:=hcut
  cases kq with
  | zero=>exact absurd HA.out (by simp [vouchref14_number.j0])
  | succ kj3 =>
   have H:=HA.out
   clear HA
   simp only [vouchref14_number.j0] at H
   by_cases c15:x26_3=true
   ·subst c15
    have H1:((vouchref14_digits.f kj3 a0 (wrap64 (t432 + 1))).bind fun t434=>(if 0 ≤ a1 then (if a1 ≤ t434 then (if t434 ≤ (a0.size:Int) then (some (3,a0.extract (a1:Int).toNat (t434:Int).toNat,a1,t434)) else (none)) else (none)) else (none)))=some (r1,r2,r3,r4):=by rw [if_pos rfl] at H;exact H
    clear H
    have H:=H1
    clear H1
    replace H:=Option.bind_eq_some_iff.mp H
    obtain ⟨t434,A160,H⟩:=H
    replace H:(if 0 ≤ a1 then (if a1 ≤ t434 then (if t434 ≤ (a0.size:Int) then (some (3,a0.extract (a1:Int).toNat (t434:Int).toNat,a1,t434)) else (none)) else (none)) else (none))=some (r1,r2,r3,r4):=H
    have A16:=Aside0.mk A160
    clear A160
    by_cases c17:0 ≤ a1
    ·rw [if_pos c17] at H
     have c17b0:=eq_true c17
     have c17b1:decide (0 ≤ a1)=true:=decide_eq_true c17
     clear c17
     by_cases c18:a1 ≤ t434
     ·rw [if_pos c18] at H
      have c18b0:=eq_true c18
      have c18b1:decide (a1 ≤ t434)=true:=decide_eq_true c18
      clear c18
      by_cases c19:t434 ≤ (a0.size:Int)
      ·rw [if_pos c19] at H
       have c19b0:=eq_true c19
       have c19b1:decide (t434 ≤ (a0.size:Int))=true:=decide_eq_true c19
       clear c19
       simp only [Option.some.injEq,Prod.mk.injEq] at H
       obtain ⟨rfl,rfl,rfl,rfl⟩:=H
       go_wp2_with (first | ((with_reducible refine gate_callee (f:=109) rfl ?_);refine goesL_ (some 30) rfl rfl Tryz.func109 (by kernel_rfl) rfl #[.string a0,.int .i64 (wrap64 (t432 + 1))] rfl (by (try simp only [List.map_toArray,List.map_cons,List.map_nil]);first | done | rfl | (simp only [List.length_drop,List.length_take];rfl)) ?_;(with_reducible refine (vouchref14_digits.calls kj3 a0 (wrap64 (t432 + 1)) t434 _ A16.out).mono ?_);rintro e w' ⟨rfl,⟨nd,rfl⟩⟩;refine ⟨_,rfl,?_⟩;(try (rw [drewN_self wc];generalize hq_:World.drewN wc _=wc;have n0_:Aside0 (wc.heap[gb431]? = some (.cells #[.int .u8 0,.string (⟨#[]⟩:ByteArray),.int .i64 0,.int .i64 0] 70 (0,0))):=⟨by rw [← hq_];exact (by (with_reducible repeat (first | refine blk_drewN ?_ _ | refine blk_drew ?_ | refine blk_alloc ?_ _));exact BK431.out)⟩;have n1_:Aside0 (Below w.heap.size w wc):=⟨by rw [← hq_];exact (by repeat (first | (with_reducible first | exact HB.out | apply below_alloc | apply pw_below_drewN | apply below_drew1 | refine below_set ?_ GE431.out) | exact HB.out))⟩;clear BK431 HB hq_;have BK431:=n0_;have HB:=n1_;clear n0_ n1_));have hcz20_0:wc.cell? ⟨gb431,0,none⟩=some (.int .u8 0):=(blk_cell BK431.out 0).trans rfl;have hcz20_1:wc.cell? ⟨gb431,1,none⟩=some (.string (⟨#[]⟩:ByteArray)):=(blk_cell BK431.out 1).trans rfl;have hcz20_2:wc.cell? ⟨gb431,2,none⟩=some (.int .i64 0):=(blk_cell BK431.out 2).trans rfl;have hcz20_3:wc.cell? ⟨gb431,3,none⟩=some (.int .i64 0):=(blk_cell BK431.out 3).trans rfl;have hfz20_0:=blk_frozen BK431.out 0;have hfz20_1:=blk_frozen BK431.out 1;have hfz20_2:=blk_frozen BK431.out 2;have hfz20_3:=blk_frozen BK431.out 3))
       refine bodyPost_ret (results_cell_row rfl _ _ gb431 70 #[.int .u8 3,.string (a0.extract (a1:Int).toNat (t434:Int).toNat),.int .i64 a1,.int .i64 t434] (0,0) _ rfl (by (with_reducible repeat (first | refine blk_drewN ?_ _ | refine blk_drew ?_ | refine blk_alloc ?_ _));refine blk_put (cs:=#[.int .u8 3,.string (a0.extract (a1:Int).toNat (t434:Int).toNat),.int .i64 a1,.int .i64 0]) ?_ 3 _ rfl;(with_reducible repeat (first | refine blk_drewN ?_ _ | refine blk_drew ?_ | refine blk_alloc ?_ _));refine blk_put (cs:=#[.int .u8 3,.string (a0.extract (a1:Int).toNat (t434:Int).toNat),.int .i64 0,.int .i64 0]) ?_ 2 _ rfl;(with_reducible repeat (first | refine blk_drewN ?_ _ | refine blk_drew ?_ | refine blk_alloc ?_ _));refine blk_put (cs:=#[.int .u8 3,.string (⟨#[]⟩:ByteArray),.int .i64 0,.int .i64 0]) ?_ 1 _ rfl;(with_reducible repeat (first | refine blk_drewN ?_ _ | refine blk_drew ?_ | refine blk_alloc ?_ _));refine blk_put (cs:=#[.int .u8 0,.string (⟨#[]⟩:ByteArray),.int .i64 0,.int .i64 0]) ?_ 0 _ rfl;(with_reducible repeat (first | refine blk_drewN ?_ _ | refine blk_drew ?_ | refine blk_alloc ?_ _));exact BK431.out) Tryz.underlying70 rfl (by kernel_rfl)) rfl ?_
       exact ⟨by first | rfl | (simp [errW_none,errW_some] <;> rfl) | (simp [*,errW_none,errW_some] <;> rfl),by repeat (first | (with_reducible first | exact HB.out | apply below_alloc | apply pw_below_drewN | apply below_drew1 | refine below_set ?_ GE431.out) | exact HB.out)⟩
      ·rw [if_neg c19] at H
       exact absurd H (by simp)
     ·rw [if_neg c18] at H
      exact absurd H (by simp)
    ·rw [if_neg c17] at H
     exact absurd H (by simp)
   ·replace c15:=Bool.eq_false_iff.mpr c15
    subst c15
    have H1:(if (wrap64 (t432 + 3)) ≤ (a0.size:Int) then (if 0 ≤ t432 then (if t432 ≤ (wrap64 (t432 + 3)) then (if (a0.extract (t432:Int).toNat ((wrap64 (t432 + 3)):Int).toNat).toList=([45,111,102]:List UInt8) then (if (wrap64 (t432 + 3))=(a0.size:Int) then (if 0 ≤ a1 then (if a1 ≤ t432 then (if t432 ≤ (a0.size:Int) then (some (5,a0.extract (a1:Int).toNat (t432:Int).toNat,a1,wrap64 (t432 + 3))) else (none)) else (none)) else (none)) else (if 0 ≤ (wrap64 (t432 + 3)) then (if (wrap64 (t432 + 3)) < (a0.size:Int) then ((vouchref14_letter.f (bt a0 (wrap64 (t432 + 3)))).bind fun t435=>(if t435=true then (if 0 ≤ a1 then (if a1 ≤ t432 then (if t432 ≤ (a0.size:Int) then (some (2,a0.extract (a1:Int).toNat (t432:Int).toNat,a1,t432)) else (none)) else (none)) else (none)) else ((vouchref14_digit.f (bt a0 (wrap64 (t432 + 3)))).bind fun t436=>(if t436=true then (if 0 ≤ a1 then (if a1 ≤ t432 then (if t432 ≤ (a0.size:Int) then (some (2,a0.extract (a1:Int).toNat (t432:Int).toNat,a1,t432)) else (none)) else (none)) else (none)) else (if 0 ≤ a1 then (if a1 ≤ t432 then (if t432 ≤ (a0.size:Int) then (some (5,a0.extract (a1:Int).toNat (t432:Int).toNat,a1,wrap64 (t432 + 3))) else (none)) else (none)) else (none)))))) else (none)) else (none))) else (if 0 ≤ a1 then (if a1 ≤ t432 then (if t432 ≤ (a0.size:Int) then (some (2,a0.extract (a1:Int).toNat (t432:Int).toNat,a1,t432)) else (none)) else (none)) else (none))) else (none)) else (none)) else (if 0 ≤ a1 then (if a1 ≤ t432 then (if t432 ≤ (a0.size:Int) then (some (2,a0.extract (a1:Int).toNat (t432:Int).toNat,a1,t432)) else (none)) else (none)) else (none)))=some (r1,r2,r3,r4):=by rw [if_neg (show ¬ (false=true) by decide)] at H;exact H
    clear H
    have H:=H1
    clear H1
    by_cases c21:(wrap64 (t432 + 3)) ≤ (a0.size:Int)
    ·rw [if_pos c21] at H
     have c21b0:decide ((wrap64 (t432 + 3)) ≤ (a0.size:Int))=true:=decide_eq_true c21
     clear c21
     by_cases c22:0 ≤ t432
     ·rw [if_pos c22] at H
      have c22b0:=eq_true c22
      have c22b1:decide (0 ≤ t432)=true:=decide_eq_true c22
      clear c22
      by_cases c23:t432 ≤ (wrap64 (t432 + 3))
      ·rw [if_pos c23] at H
       have c23b0:=eq_true c23
       have c23b1:decide (t432 ≤ (wrap64 (t432 + 3)))=true:=decide_eq_true c23
       have c24b0:=eq_true (of_decide_eq_true (by first | (with_reducible assumption) | assumption):(wrap64 (t432 + 3)) ≤ (a0.size:Int))
       by_cases c25:(a0.extract (t432:Int).toNat ((wrap64 (t432 + 3)):Int).toNat).toList=([45,111,102]:List UInt8)
       ·rw [if_pos c25] at H
        have c25b0:((a0.extract (t432:Int).toNat ((wrap64 (t432 + 3)):Int).toNat).toList == ([45,111,102]:List UInt8))=true:=beq_iff_eq.mpr c25
        have c25b1:((a0.extract (t432:Int).toNat ((wrap64 (t432 + 3)):Int).toNat).toList != ([45,111,102]:List UInt8))=false:=bne_eq_false_iff_eq.mpr c25
        clear c25
        by_cases c26:(wrap64 (t432 + 3))=(a0.size:Int)
        ·rw [if_pos c26] at H
         have c26b0:((wrap64 (t432 + 3)) == (a0.size:Int))=true:=beq_iff_eq.mpr c26
         have c26b1:((wrap64 (t432 + 3)) != (a0.size:Int))=false:=bne_eq_false_iff_eq.mpr c26
         clear c26
         by_cases c27:0 ≤ a1
         ·rw [if_pos c27] at H
          have c27b0:=eq_true c27
          have c27b1:decide (0 ≤ a1)=true:=decide_eq_true c27
          clear c27
          by_cases c28:a1 ≤ t432
          ·rw [if_pos c28] at H
           have c28b0:=eq_true c28
           have c28b1:decide (a1 ≤ t432)=true:=decide_eq_true c28
           clear c28
           by_cases c29:t432 ≤ (a0.size:Int)
           ·rw [if_pos c29] at H
            have c29b0:=eq_true c29
            have c29b1:decide (t432 ≤ (a0.size:Int))=true:=decide_eq_true c29
            clear c29
            simp only [Option.some.injEq,Prod.mk.injEq] at H
            obtain ⟨rfl,rfl,rfl,rfl⟩:=H
            have hcz30_0:wc.cell? ⟨gb431,0,none⟩=some (.int .u8 0):=(blk_cell BK431.out 0).trans rfl
            have hcz30_1:wc.cell? ⟨gb431,1,none⟩=some (.string (⟨#[]⟩:ByteArray)):=(blk_cell BK431.out 1).trans rfl
            have hcz30_2:wc.cell? ⟨gb431,2,none⟩=some (.int .i64 0):=(blk_cell BK431.out 2).trans rfl
            have hcz30_3:wc.cell? ⟨gb431,3,none⟩=some (.int .i64 0):=(blk_cell BK431.out 3).trans rfl
            have hfz30_0:=blk_frozen BK431.out 0
            have hfz30_1:=blk_frozen BK431.out 1
            have hfz30_2:=blk_frozen BK431.out 2
            have hfz30_3:=blk_frozen BK431.out 3
            go_wp2
            refine bodyPost_ret (results_cell_row rfl _ _ gb431 70 #[.int .u8 5,.string (a0.extract (a1:Int).toNat (t432:Int).toNat),.int .i64 a1,.int .i64 (wrap64 (t432 + 3))] (0,0) _ rfl (by (with_reducible repeat (first | refine blk_drewN ?_ _ | refine blk_drew ?_ | refine blk_alloc ?_ _));refine blk_put (cs:=#[.int .u8 5,.string (a0.extract (a1:Int).toNat (t432:Int).toNat),.int .i64 a1,.int .i64 0]) ?_ 3 _ rfl;(with_reducible repeat (first | refine blk_drewN ?_ _ | refine blk_drew ?_ | refine blk_alloc ?_ _));refine blk_put (cs:=#[.int .u8 5,.string (a0.extract (a1:Int).toNat (t432:Int).toNat),.int .i64 0,.int .i64 0]) ?_ 2 _ rfl;(with_reducible repeat (first | refine blk_drewN ?_ _ | refine blk_drew ?_ | refine blk_alloc ?_ _));refine blk_put (cs:=#[.int .u8 5,.string (⟨#[]⟩:ByteArray),.int .i64 0,.int .i64 0]) ?_ 1 _ rfl;(with_reducible repeat (first | refine blk_drewN ?_ _ | refine blk_drew ?_ | refine blk_alloc ?_ _));refine blk_put (cs:=#[.int .u8 0,.string (⟨#[]⟩:ByteArray),.int .i64 0,.int .i64 0]) ?_ 0 _ rfl;(with_reducible repeat (first | refine blk_drewN ?_ _ | refine blk_drew ?_ | refine blk_alloc ?_ _));exact BK431.out) Tryz.underlying70 rfl (by kernel_rfl)) rfl ?_
            exact ⟨by first | rfl | (simp [errW_none,errW_some] <;> rfl) | (simp [*,errW_none,errW_some] <;> rfl),by repeat (first | (with_reducible first | exact HB.out | apply below_alloc | apply pw_below_drewN | apply below_drew1 | refine below_set ?_ GE431.out) | exact HB.out)⟩
           ·rw [if_neg c29] at H
            exact absurd H (by simp)
          ·rw [if_neg c28] at H
           exact absurd H (by simp)
         ·rw [if_neg c27] at H
          exact absurd H (by simp)
        ·rw [if_neg c26] at H
         have c26b0:((wrap64 (t432 + 3)) == (a0.size:Int))=false:=beq_eq_false_iff_ne.mpr c26
         have c26b1:((wrap64 (t432 + 3)) != (a0.size:Int))=true:=bne_iff_ne.mpr c26
         obtain ⟨ji31,hji31⟩:∃ j_:Int,(wrap64 (t432 + 3))=j_:=⟨_,rfl⟩
         replace H:(if 0 ≤ (ji31) then (if (ji31) < (a0.size:Int) then ((vouchref14_letter.f (bt a0 (ji31))).bind fun t435=>(if t435=true then (if 0 ≤ a1 then (if a1 ≤ t432 then (if t432 ≤ (a0.size:Int) then (some (2,a0.extract (a1:Int).toNat (t432:Int).toNat,a1,t432)) else (none)) else (none)) else (none)) else ((vouchref14_digit.f (bt a0 (ji31))).bind fun t436=>(if t436=true then (if 0 ≤ a1 then (if a1 ≤ t432 then (if t432 ≤ (a0.size:Int) then (some (2,a0.extract (a1:Int).toNat (t432:Int).toNat,a1,t432)) else (none)) else (none)) else (none)) else (if 0 ≤ a1 then (if a1 ≤ t432 then (if t432 ≤ (a0.size:Int) then (some (5,a0.extract (a1:Int).toNat (t432:Int).toNat,a1,ji31)) else (none)) else (none)) else (none)))))) else (none)) else (none))=some (r1,r2,r3,r4):=by first | (rw [hji31] at H;exact H) | (simp only [hji31] at H ⊢;exact H)
         (try rw [hji31] at c21b0)
         (try rw [hji31] at c23b0)
         (try rw [hji31] at c24b0)
         (try rw [hji31] at c23b1)
         (try rw [hji31] at c23)
         (try rw [hji31] at c25b0)
         (try rw [hji31] at c25b1)
         (try rw [hji31] at c26b0)
         (try rw [hji31] at c26b1)
         have hji31w:(IntKind.i64.wrap (t432 + 3))=ji31:=(i64_w _).trans hji31
         by_cases c32:0 ≤ (ji31)
         ·rw [if_pos c32] at H
          have c32b0:decide (0 ≤ (ji31))=true:=decide_eq_true c32
          clear c32
          by_cases c33:(ji31) < (a0.size:Int)
          ·rw [if_pos c33] at H
           have c33b0:decide ((ji31) < (a0.size:Int))=true:=decide_eq_true c33
           clear c33
           replace H:=Option.bind_eq_some_iff.mp H
           obtain ⟨t435,A350,H⟩:=H
           replace H:(if t435=true then (if 0 ≤ a1 then (if a1 ≤ t432 then (if t432 ≤ (a0.size:Int) then (some (2,a0.extract (a1:Int).toNat (t432:Int).toNat,a1,t432)) else (none)) else (none)) else (none)) else ((vouchref14_digit.f (bt a0 (ji31))).bind fun t436=>(if t436=true then (if 0 ≤ a1 then (if a1 ≤ t432 then (if t432 ≤ (a0.size:Int) then (some (2,a0.extract (a1:Int).toNat (t432:Int).toNat,a1,t432)) else (none)) else (none)) else (none)) else (if 0 ≤ a1 then (if a1 ≤ t432 then (if t432 ≤ (a0.size:Int) then (some (5,a0.extract (a1:Int).toNat (t432:Int).toNat,a1,ji31)) else (none)) else (none)) else (none)))))=some (r1,r2,r3,r4):=H
           have A35:=Aside0.mk A350
           clear A350
           by_cases c36:t435=true
           ·subst c36
            have H1:(if 0 ≤ a1 then (if a1 ≤ t432 then (if t432 ≤ (a0.size:Int) then (some (2,a0.extract (a1:Int).toNat (t432:Int).toNat,a1,t432)) else (none)) else (none)) else (none))=some (r1,r2,r3,r4):=by rw [if_pos rfl] at H;exact H
            clear H
            have H:=H1
            clear H1
            by_cases c37:0 ≤ a1
            ·rw [if_pos c37] at H
             have c37b0:=eq_true c37
             have c37b1:decide (0 ≤ a1)=true:=decide_eq_true c37
             clear c37
             by_cases c38:a1 ≤ t432
             ·rw [if_pos c38] at H
              have c38b0:=eq_true c38
              have c38b1:decide (a1 ≤ t432)=true:=decide_eq_true c38
              clear c38
              by_cases c39:t432 ≤ (a0.size:Int)
              ·rw [if_pos c39] at H
               have c39b0:=eq_true c39
               have c39b1:decide (t432 ≤ (a0.size:Int))=true:=decide_eq_true c39
               clear c39
               simp only [Option.some.injEq,Prod.mk.injEq] at H
               obtain ⟨rfl,rfl,rfl,rfl⟩:=H
               have p34:0 ≤ ((ji31):Int):=of_decide_eq_true (by first | (with_reducible assumption) | assumption)
               have q34:(ji31) < (a0.size:Int):=of_decide_eq_true (by first | (with_reducible assumption) | assumption)
               have hx34:=bt_at a0 (ji31)
               replace p34:=eq_true p34
               replace q34:=eq_true q34
               go_wp2_with (first | (go_at_call 82;(with_reducible refine (vouchref14_letter.calls (bt a0 (ji31)) true _ A35.out).mono ?_);rintro e w' ⟨rfl,⟨nd,rfl⟩⟩;(try (rw [drewN_self wc];generalize hq_:World.drewN wc _=wc;have n0_:Aside0 (wc.heap[gb431]? = some (.cells #[.int .u8 0,.string (⟨#[]⟩:ByteArray),.int .i64 0,.int .i64 0] 70 (0,0))):=⟨by rw [← hq_];exact (by (with_reducible repeat (first | refine blk_drewN ?_ _ | refine blk_drew ?_ | refine blk_alloc ?_ _));exact BK431.out)⟩;have n1_:Aside0 (Below w.heap.size w wc):=⟨by rw [← hq_];exact (by repeat (first | (with_reducible first | exact HB.out | apply below_alloc | apply pw_below_drewN | apply below_drew1 | refine below_set ?_ GE431.out) | exact HB.out))⟩;clear BK431 HB hq_;have BK431:=n0_;have HB:=n1_;clear n0_ n1_));have hcz40_0:wc.cell? ⟨gb431,0,none⟩=some (.int .u8 0):=(blk_cell BK431.out 0).trans rfl;have hcz40_1:wc.cell? ⟨gb431,1,none⟩=some (.string (⟨#[]⟩:ByteArray)):=(blk_cell BK431.out 1).trans rfl;have hcz40_2:wc.cell? ⟨gb431,2,none⟩=some (.int .i64 0):=(blk_cell BK431.out 2).trans rfl;have hcz40_3:wc.cell? ⟨gb431,3,none⟩=some (.int .i64 0):=(blk_cell BK431.out 3).trans rfl;have hfz40_0:=blk_frozen BK431.out 0;have hfz40_1:=blk_frozen BK431.out 1;have hfz40_2:=blk_frozen BK431.out 2;have hfz40_3:=blk_frozen BK431.out 3))
               refine bodyPost_ret (results_cell_row rfl _ _ gb431 70 #[.int .u8 2,.string (a0.extract (a1:Int).toNat (t432:Int).toNat),.int .i64 a1,.int .i64 t432] (0,0) _ rfl (by (with_reducible repeat (first | refine blk_drewN ?_ _ | refine blk_drew ?_ | refine blk_alloc ?_ _));refine blk_put (cs:=#[.int .u8 2,.string (a0.extract (a1:Int).toNat (t432:Int).toNat),.int .i64 a1,.int .i64 0]) ?_ 3 _ rfl;(with_reducible repeat (first | refine blk_drewN ?_ _ | refine blk_drew ?_ | refine blk_alloc ?_ _));refine blk_put (cs:=#[.int .u8 2,.string (a0.extract (a1:Int).toNat (t432:Int).toNat),.int .i64 0,.int .i64 0]) ?_ 2 _ rfl;(with_reducible repeat (first | refine blk_drewN ?_ _ | refine blk_drew ?_ | refine blk_alloc ?_ _));refine blk_put (cs:=#[.int .u8 2,.string (⟨#[]⟩:ByteArray),.int .i64 0,.int .i64 0]) ?_ 1 _ rfl;(with_reducible repeat (first | refine blk_drewN ?_ _ | refine blk_drew ?_ | refine blk_alloc ?_ _));refine blk_put (cs:=#[.int .u8 0,.string (⟨#[]⟩:ByteArray),.int .i64 0,.int .i64 0]) ?_ 0 _ rfl;(with_reducible repeat (first | refine blk_drewN ?_ _ | refine blk_drew ?_ | refine blk_alloc ?_ _));exact BK431.out) Tryz.underlying70 rfl (by kernel_rfl)) rfl ?_
               exact ⟨by first | rfl | (simp [errW_none,errW_some] <;> rfl) | (simp only [← hji31];first | rfl | (simp [errW_none,errW_some] <;> rfl)) | (simp [*,errW_none,errW_some] <;> rfl),by repeat (first | (with_reducible first | exact HB.out | apply below_alloc | apply pw_below_drewN | apply below_drew1 | refine below_set ?_ GE431.out) | exact HB.out)⟩
              ·rw [if_neg c39] at H
               exact absurd H (by simp)
             ·rw [if_neg c38] at H
              exact absurd H (by simp)
            ·rw [if_neg c37] at H
             exact absurd H (by simp)
           ·replace c36:=Bool.eq_false_iff.mpr c36
            subst c36
            have H1:((vouchref14_digit.f (bt a0 (ji31))).bind fun t436=>(if t436=true then (if 0 ≤ a1 then (if a1 ≤ t432 then (if t432 ≤ (a0.size:Int) then (some (2,a0.extract (a1:Int).toNat (t432:Int).toNat,a1,t432)) else (none)) else (none)) else (none)) else (if 0 ≤ a1 then (if a1 ≤ t432 then (if t432 ≤ (a0.size:Int) then (some (5,a0.extract (a1:Int).toNat (t432:Int).toNat,a1,ji31)) else (none)) else (none)) else (none))))=some (r1,r2,r3,r4):=by rw [if_neg (show ¬ (false=true) by decide)] at H;exact H
            clear H
            have H:=H1
            clear H1
            replace H:=Option.bind_eq_some_iff.mp H
            obtain ⟨t436,A420,H⟩:=H
            replace H:(if t436=true then (if 0 ≤ a1 then (if a1 ≤ t432 then (if t432 ≤ (a0.size:Int) then (some (2,a0.extract (a1:Int).toNat (t432:Int).toNat,a1,t432)) else (none)) else (none)) else (none)) else (if 0 ≤ a1 then (if a1 ≤ t432 then (if t432 ≤ (a0.size:Int) then (some (5,a0.extract (a1:Int).toNat (t432:Int).toNat,a1,ji31)) else (none)) else (none)) else (none)))=some (r1,r2,r3,r4):=H
            have A42:=Aside0.mk A420
            clear A420
            by_cases c43:t436=true
            ·subst c43
             have H1:(if 0 ≤ a1 then (if a1 ≤ t432 then (if t432 ≤ (a0.size:Int) then (some (2,a0.extract (a1:Int).toNat (t432:Int).toNat,a1,t432)) else (none)) else (none)) else (none))=some (r1,r2,r3,r4):=by rw [if_pos rfl] at H;exact H
             clear H
             have H:=H1
             clear H1
             by_cases c44:0 ≤ a1
             ·rw [if_pos c44] at H
              have c44b0:=eq_true c44
              have c44b1:decide (0 ≤ a1)=true:=decide_eq_true c44
              clear c44
              by_cases c45:a1 ≤ t432
              ·rw [if_pos c45] at H
               have c45b0:=eq_true c45
               have c45b1:decide (a1 ≤ t432)=true:=decide_eq_true c45
               clear c45
               by_cases c46:t432 ≤ (a0.size:Int)
               ·rw [if_pos c46] at H
                have c46b0:=eq_true c46
                have c46b1:decide (t432 ≤ (a0.size:Int))=true:=decide_eq_true c46
                clear c46
                simp only [Option.some.injEq,Prod.mk.injEq] at H
                obtain ⟨rfl,rfl,rfl,rfl⟩:=H
                have p34:0 ≤ ((ji31):Int):=of_decide_eq_true (by first | (with_reducible assumption) | assumption)
                have q34:(ji31) < (a0.size:Int):=of_decide_eq_true (by first | (with_reducible assumption) | assumption)
                have hx34:=bt_at a0 (ji31)
                replace p34:=eq_true p34
                replace q34:=eq_true q34
                go_wp2_with (first | (go_at_call 82;(with_reducible refine (vouchref14_letter.calls (bt a0 (ji31)) false _ A35.out).mono ?_);rintro e w' ⟨rfl,⟨nd,rfl⟩⟩;(try (rw [drewN_self wc];generalize hq_:World.drewN wc _=wc;have n0_:Aside0 (wc.heap[gb431]? = some (.cells #[.int .u8 0,.string (⟨#[]⟩:ByteArray),.int .i64 0,.int .i64 0] 70 (0,0))):=⟨by rw [← hq_];exact (by (with_reducible repeat (first | refine blk_drewN ?_ _ | refine blk_drew ?_ | refine blk_alloc ?_ _));exact BK431.out)⟩;have n1_:Aside0 (Below w.heap.size w wc):=⟨by rw [← hq_];exact (by repeat (first | (with_reducible first | exact HB.out | apply below_alloc | apply pw_below_drewN | apply below_drew1 | refine below_set ?_ GE431.out) | exact HB.out))⟩;clear BK431 HB hq_;have BK431:=n0_;have HB:=n1_;clear n0_ n1_));have p41:0 ≤ ((ji31):Int):=of_decide_eq_true (by first | (with_reducible assumption) | assumption);have q41:(ji31) < (a0.size:Int):=of_decide_eq_true (by first | (with_reducible assumption) | assumption);have hx41:=bt_at a0 (ji31);replace p41:=eq_true p41;replace q41:=eq_true q41) | (go_at_call 83;(with_reducible refine (vouchref14_digit.calls (bt a0 (ji31)) true _ A42.out).mono ?_);rintro e w' ⟨rfl,⟨nd,rfl⟩⟩;(try (rw [drewN_self wc];generalize hq_:World.drewN wc _=wc;have n0_:Aside0 (wc.heap[gb431]? = some (.cells #[.int .u8 0,.string (⟨#[]⟩:ByteArray),.int .i64 0,.int .i64 0] 70 (0,0))):=⟨by rw [← hq_];exact (by (with_reducible repeat (first | refine blk_drewN ?_ _ | refine blk_drew ?_ | refine blk_alloc ?_ _));exact BK431.out)⟩;have n1_:Aside0 (Below w.heap.size w wc):=⟨by rw [← hq_];exact (by repeat (first | (with_reducible first | exact HB.out | apply below_alloc | apply pw_below_drewN | apply below_drew1 | refine below_set ?_ GE431.out) | exact HB.out))⟩;clear BK431 HB hq_;have BK431:=n0_;have HB:=n1_;clear n0_ n1_));have hcz47_0:wc.cell? ⟨gb431,0,none⟩=some (.int .u8 0):=(blk_cell BK431.out 0).trans rfl;have hcz47_1:wc.cell? ⟨gb431,1,none⟩=some (.string (⟨#[]⟩:ByteArray)):=(blk_cell BK431.out 1).trans rfl;have hcz47_2:wc.cell? ⟨gb431,2,none⟩=some (.int .i64 0):=(blk_cell BK431.out 2).trans rfl;have hcz47_3:wc.cell? ⟨gb431,3,none⟩=some (.int .i64 0):=(blk_cell BK431.out 3).trans rfl;have hfz47_0:=blk_frozen BK431.out 0;have hfz47_1:=blk_frozen BK431.out 1;have hfz47_2:=blk_frozen BK431.out 2;have hfz47_3:=blk_frozen BK431.out 3))
                refine bodyPost_ret (results_cell_row rfl _ _ gb431 70 #[.int .u8 2,.string (a0.extract (a1:Int).toNat (t432:Int).toNat),.int .i64 a1,.int .i64 t432] (0,0) _ rfl (by (with_reducible repeat (first | refine blk_drewN ?_ _ | refine blk_drew ?_ | refine blk_alloc ?_ _));refine blk_put (cs:=#[.int .u8 2,.string (a0.extract (a1:Int).toNat (t432:Int).toNat),.int .i64 a1,.int .i64 0]) ?_ 3 _ rfl;(with_reducible repeat (first | refine blk_drewN ?_ _ | refine blk_drew ?_ | refine blk_alloc ?_ _));refine blk_put (cs:=#[.int .u8 2,.string (a0.extract (a1:Int).toNat (t432:Int).toNat),.int .i64 0,.int .i64 0]) ?_ 2 _ rfl;(with_reducible repeat (first | refine blk_drewN ?_ _ | refine blk_drew ?_ | refine blk_alloc ?_ _));refine blk_put (cs:=#[.int .u8 2,.string (⟨#[]⟩:ByteArray),.int .i64 0,.int .i64 0]) ?_ 1 _ rfl;(with_reducible repeat (first | refine blk_drewN ?_ _ | refine blk_drew ?_ | refine blk_alloc ?_ _));refine blk_put (cs:=#[.int .u8 0,.string (⟨#[]⟩:ByteArray),.int .i64 0,.int .i64 0]) ?_ 0 _ rfl;(with_reducible repeat (first | refine blk_drewN ?_ _ | refine blk_drew ?_ | refine blk_alloc ?_ _));exact BK431.out) Tryz.underlying70 rfl (by kernel_rfl)) rfl ?_
                exact ⟨by first | rfl | (simp [errW_none,errW_some] <;> rfl) | (simp only [← hji31];first | rfl | (simp [errW_none,errW_some] <;> rfl)) | (simp [*,errW_none,errW_some] <;> rfl),by repeat (first | (with_reducible first | exact HB.out | apply below_alloc | apply pw_below_drewN | apply below_drew1 | refine below_set ?_ GE431.out) | exact HB.out)⟩
               ·rw [if_neg c46] at H
                exact absurd H (by simp)
              ·rw [if_neg c45] at H
               exact absurd H (by simp)
             ·rw [if_neg c44] at H
              exact absurd H (by simp)
            ·replace c43:=Bool.eq_false_iff.mpr c43
             subst c43
             have H1:(if 0 ≤ a1 then (if a1 ≤ t432 then (if t432 ≤ (a0.size:Int) then (some (5,a0.extract (a1:Int).toNat (t432:Int).toNat,a1,ji31)) else (none)) else (none)) else (none))=some (r1,r2,r3,r4):=by rw [if_neg (show ¬ (false=true) by decide)] at H;exact H
             clear H
             have H:=H1
             clear H1
             by_cases c48:0 ≤ a1
             ·rw [if_pos c48] at H
              have c48b0:=eq_true c48
              have c48b1:decide (0 ≤ a1)=true:=decide_eq_true c48
              clear c48
              by_cases c49:a1 ≤ t432
              ·rw [if_pos c49] at H
               have c49b0:=eq_true c49
               have c49b1:decide (a1 ≤ t432)=true:=decide_eq_true c49
               clear c49
               by_cases c50:t432 ≤ (a0.size:Int)
               ·rw [if_pos c50] at H
                have c50b0:=eq_true c50
                have c50b1:decide (t432 ≤ (a0.size:Int))=true:=decide_eq_true c50
                clear c50
                simp only [Option.some.injEq,Prod.mk.injEq] at H
                obtain ⟨rfl,rfl,rfl,rfl⟩:=H
                have p34:0 ≤ ((ji31):Int):=of_decide_eq_true (by first | (with_reducible assumption) | assumption)
                have q34:(ji31) < (a0.size:Int):=of_decide_eq_true (by first | (with_reducible assumption) | assumption)
                have hx34:=bt_at a0 (ji31)
                replace p34:=eq_true p34
                replace q34:=eq_true q34
                go_wp2_with (first | (go_at_call 82;(with_reducible refine (vouchref14_letter.calls (bt a0 (ji31)) false _ A35.out).mono ?_);rintro e w' ⟨rfl,⟨nd,rfl⟩⟩;(try (rw [drewN_self wc];generalize hq_:World.drewN wc _=wc;have n0_:Aside0 (wc.heap[gb431]? = some (.cells #[.int .u8 0,.string (⟨#[]⟩:ByteArray),.int .i64 0,.int .i64 0] 70 (0,0))):=⟨by rw [← hq_];exact (by (with_reducible repeat (first | refine blk_drewN ?_ _ | refine blk_drew ?_ | refine blk_alloc ?_ _));exact BK431.out)⟩;have n1_:Aside0 (Below w.heap.size w wc):=⟨by rw [← hq_];exact (by repeat (first | (with_reducible first | exact HB.out | apply below_alloc | apply pw_below_drewN | apply below_drew1 | refine below_set ?_ GE431.out) | exact HB.out))⟩;clear BK431 HB hq_;have BK431:=n0_;have HB:=n1_;clear n0_ n1_));have p41:0 ≤ ((ji31):Int):=of_decide_eq_true (by first | (with_reducible assumption) | assumption);have q41:(ji31) < (a0.size:Int):=of_decide_eq_true (by first | (with_reducible assumption) | assumption);have hx41:=bt_at a0 (ji31);replace p41:=eq_true p41;replace q41:=eq_true q41) | (go_at_call 83;(with_reducible refine (vouchref14_digit.calls (bt a0 (ji31)) false _ A42.out).mono ?_);rintro e w' ⟨rfl,⟨nd,rfl⟩⟩;(try (rw [drewN_self wc];generalize hq_:World.drewN wc _=wc;have n0_:Aside0 (wc.heap[gb431]? = some (.cells #[.int .u8 0,.string (⟨#[]⟩:ByteArray),.int .i64 0,.int .i64 0] 70 (0,0))):=⟨by rw [← hq_];exact (by (with_reducible repeat (first | refine blk_drewN ?_ _ | refine blk_drew ?_ | refine blk_alloc ?_ _));exact BK431.out)⟩;have n1_:Aside0 (Below w.heap.size w wc):=⟨by rw [← hq_];exact (by repeat (first | (with_reducible first | exact HB.out | apply below_alloc | apply pw_below_drewN | apply below_drew1 | refine below_set ?_ GE431.out) | exact HB.out))⟩;clear BK431 HB hq_;have BK431:=n0_;have HB:=n1_;clear n0_ n1_));have hcz51_0:wc.cell? ⟨gb431,0,none⟩=some (.int .u8 0):=(blk_cell BK431.out 0).trans rfl;have hcz51_1:wc.cell? ⟨gb431,1,none⟩=some (.string (⟨#[]⟩:ByteArray)):=(blk_cell BK431.out 1).trans rfl;have hcz51_2:wc.cell? ⟨gb431,2,none⟩=some (.int .i64 0):=(blk_cell BK431.out 2).trans rfl;have hcz51_3:wc.cell? ⟨gb431,3,none⟩=some (.int .i64 0):=(blk_cell BK431.out 3).trans rfl;have hfz51_0:=blk_frozen BK431.out 0;have hfz51_1:=blk_frozen BK431.out 1;have hfz51_2:=blk_frozen BK431.out 2;have hfz51_3:=blk_frozen BK431.out 3))
                refine bodyPost_ret (results_cell_row rfl _ _ gb431 70 #[.int .u8 5,.string (a0.extract (a1:Int).toNat (t432:Int).toNat),.int .i64 a1,.int .i64 ji31] (0,0) _ rfl (by (with_reducible repeat (first | refine blk_drewN ?_ _ | refine blk_drew ?_ | refine blk_alloc ?_ _));refine blk_put (cs:=#[.int .u8 5,.string (a0.extract (a1:Int).toNat (t432:Int).toNat),.int .i64 a1,.int .i64 0]) ?_ 3 _ rfl;(with_reducible repeat (first | refine blk_drewN ?_ _ | refine blk_drew ?_ | refine blk_alloc ?_ _));refine blk_put (cs:=#[.int .u8 5,.string (a0.extract (a1:Int).toNat (t432:Int).toNat),.int .i64 0,.int .i64 0]) ?_ 2 _ rfl;(with_reducible repeat (first | refine blk_drewN ?_ _ | refine blk_drew ?_ | refine blk_alloc ?_ _));refine blk_put (cs:=#[.int .u8 5,.string (⟨#[]⟩:ByteArray),.int .i64 0,.int .i64 0]) ?_ 1 _ rfl;(with_reducible repeat (first | refine blk_drewN ?_ _ | refine blk_drew ?_ | refine blk_alloc ?_ _));refine blk_put (cs:=#[.int .u8 0,.string (⟨#[]⟩:ByteArray),.int .i64 0,.int .i64 0]) ?_ 0 _ rfl;(with_reducible repeat (first | refine blk_drewN ?_ _ | refine blk_drew ?_ | refine blk_alloc ?_ _));exact BK431.out) Tryz.underlying70 rfl (by kernel_rfl)) rfl ?_
                exact ⟨by first | rfl | (simp [errW_none,errW_some] <;> rfl) | (simp only [← hji31];first | rfl | (simp [errW_none,errW_some] <;> rfl)) | (simp [*,errW_none,errW_some] <;> rfl),by repeat (first | (with_reducible first | exact HB.out | apply below_alloc | apply pw_below_drewN | apply below_drew1 | refine below_set ?_ GE431.out) | exact HB.out)⟩
               ·rw [if_neg c50] at H
                exact absurd H (by simp)
              ·rw [if_neg c49] at H
               exact absurd H (by simp)
             ·rw [if_neg c48] at H
              exact absurd H (by simp)
          ·rw [if_neg c33] at H
           exact absurd H (by simp)
         ·rw [if_neg c32] at H
          exact absurd H (by simp)
       ·rw [if_neg c25] at H
        have c25b0:((a0.extract (t432:Int).toNat ((wrap64 (t432 + 3)):Int).toNat).toList == ([45,111,102]:List UInt8))=false:=beq_eq_false_iff_ne.mpr c25
        have c25b1:((a0.extract (t432:Int).toNat ((wrap64 (t432 + 3)):Int).toNat).toList != ([45,111,102]:List UInt8))=true:=bne_iff_ne.mpr c25
        by_cases c52:0 ≤ a1
        ·rw [if_pos c52] at H
         have c52b0:=eq_true c52
         have c52b1:decide (0 ≤ a1)=true:=decide_eq_true c52
         clear c52
         by_cases c53:a1 ≤ t432
         ·rw [if_pos c53] at H
          have c53b0:=eq_true c53
          have c53b1:decide (a1 ≤ t432)=true:=decide_eq_true c53
          clear c53
          by_cases c54:t432 ≤ (a0.size:Int)
          ·rw [if_pos c54] at H
           have c54b0:=eq_true c54
           have c54b1:decide (t432 ≤ (a0.size:Int))=true:=decide_eq_true c54
           clear c54
           simp only [Option.some.injEq,Prod.mk.injEq] at H
           obtain ⟨rfl,rfl,rfl,rfl⟩:=H
           have hcz55_0:wc.cell? ⟨gb431,0,none⟩=some (.int .u8 0):=(blk_cell BK431.out 0).trans rfl
           have hcz55_1:wc.cell? ⟨gb431,1,none⟩=some (.string (⟨#[]⟩:ByteArray)):=(blk_cell BK431.out 1).trans rfl
           have hcz55_2:wc.cell? ⟨gb431,2,none⟩=some (.int .i64 0):=(blk_cell BK431.out 2).trans rfl
           have hcz55_3:wc.cell? ⟨gb431,3,none⟩=some (.int .i64 0):=(blk_cell BK431.out 3).trans rfl
           have hfz55_0:=blk_frozen BK431.out 0
           have hfz55_1:=blk_frozen BK431.out 1
           have hfz55_2:=blk_frozen BK431.out 2
           have hfz55_3:=blk_frozen BK431.out 3
           go_wp2
           refine bodyPost_ret (results_cell_row rfl _ _ gb431 70 #[.int .u8 2,.string (a0.extract (a1:Int).toNat (t432:Int).toNat),.int .i64 a1,.int .i64 t432] (0,0) _ rfl (by (with_reducible repeat (first | refine blk_drewN ?_ _ | refine blk_drew ?_ | refine blk_alloc ?_ _));refine blk_put (cs:=#[.int .u8 2,.string (a0.extract (a1:Int).toNat (t432:Int).toNat),.int .i64 a1,.int .i64 0]) ?_ 3 _ rfl;(with_reducible repeat (first | refine blk_drewN ?_ _ | refine blk_drew ?_ | refine blk_alloc ?_ _));refine blk_put (cs:=#[.int .u8 2,.string (a0.extract (a1:Int).toNat (t432:Int).toNat),.int .i64 0,.int .i64 0]) ?_ 2 _ rfl;(with_reducible repeat (first | refine blk_drewN ?_ _ | refine blk_drew ?_ | refine blk_alloc ?_ _));refine blk_put (cs:=#[.int .u8 2,.string (⟨#[]⟩:ByteArray),.int .i64 0,.int .i64 0]) ?_ 1 _ rfl;(with_reducible repeat (first | refine blk_drewN ?_ _ | refine blk_drew ?_ | refine blk_alloc ?_ _));refine blk_put (cs:=#[.int .u8 0,.string (⟨#[]⟩:ByteArray),.int .i64 0,.int .i64 0]) ?_ 0 _ rfl;(with_reducible repeat (first | refine blk_drewN ?_ _ | refine blk_drew ?_ | refine blk_alloc ?_ _));exact BK431.out) Tryz.underlying70 rfl (by kernel_rfl)) rfl ?_
           exact ⟨by first | rfl | (simp [errW_none,errW_some] <;> rfl) | (simp [*,errW_none,errW_some] <;> rfl),by repeat (first | (with_reducible first | exact HB.out | apply below_alloc | apply pw_below_drewN | apply below_drew1 | refine below_set ?_ GE431.out) | exact HB.out)⟩
          ·rw [if_neg c54] at H
           exact absurd H (by simp)
         ·rw [if_neg c53] at H
          exact absurd H (by simp)
        ·rw [if_neg c52] at H
         exact absurd H (by simp)
      ·rw [if_neg c23] at H
       exact absurd H (by simp)
     ·rw [if_neg c22] at H
      exact absurd H (by simp)
    ·rw [if_neg c21] at H
     have c21b0:decide ((wrap64 (t432 + 3)) ≤ (a0.size:Int))=false:=decide_eq_false c21
     clear c21
     by_cases c56:0 ≤ a1
     ·rw [if_pos c56] at H
      have c56b0:=eq_true c56
      have c56b1:decide (0 ≤ a1)=true:=decide_eq_true c56
      clear c56
      by_cases c57:a1 ≤ t432
      ·rw [if_pos c57] at H
       have c57b0:=eq_true c57
       have c57b1:decide (a1 ≤ t432)=true:=decide_eq_true c57
       clear c57
       by_cases c58:t432 ≤ (a0.size:Int)
       ·rw [if_pos c58] at H
        have c58b0:=eq_true c58
        have c58b1:decide (t432 ≤ (a0.size:Int))=true:=decide_eq_true c58
        clear c58
        simp only [Option.some.injEq,Prod.mk.injEq] at H
        obtain ⟨rfl,rfl,rfl,rfl⟩:=H
        have hcz59_0:wc.cell? ⟨gb431,0,none⟩=some (.int .u8 0):=(blk_cell BK431.out 0).trans rfl
        have hcz59_1:wc.cell? ⟨gb431,1,none⟩=some (.string (⟨#[]⟩:ByteArray)):=(blk_cell BK431.out 1).trans rfl
        have hcz59_2:wc.cell? ⟨gb431,2,none⟩=some (.int .i64 0):=(blk_cell BK431.out 2).trans rfl
        have hcz59_3:wc.cell? ⟨gb431,3,none⟩=some (.int .i64 0):=(blk_cell BK431.out 3).trans rfl
        have hfz59_0:=blk_frozen BK431.out 0
        have hfz59_1:=blk_frozen BK431.out 1
        have hfz59_2:=blk_frozen BK431.out 2
        have hfz59_3:=blk_frozen BK431.out 3
        go_wp2
        refine bodyPost_ret (results_cell_row rfl _ _ gb431 70 #[.int .u8 2,.string (a0.extract (a1:Int).toNat (t432:Int).toNat),.int .i64 a1,.int .i64 t432] (0,0) _ rfl (by (with_reducible repeat (first | refine blk_drewN ?_ _ | refine blk_drew ?_ | refine blk_alloc ?_ _));refine blk_put (cs:=#[.int .u8 2,.string (a0.extract (a1:Int).toNat (t432:Int).toNat),.int .i64 a1,.int .i64 0]) ?_ 3 _ rfl;(with_reducible repeat (first | refine blk_drewN ?_ _ | refine blk_drew ?_ | refine blk_alloc ?_ _));refine blk_put (cs:=#[.int .u8 2,.string (a0.extract (a1:Int).toNat (t432:Int).toNat),.int .i64 0,.int .i64 0]) ?_ 2 _ rfl;(with_reducible repeat (first | refine blk_drewN ?_ _ | refine blk_drew ?_ | refine blk_alloc ?_ _));refine blk_put (cs:=#[.int .u8 2,.string (⟨#[]⟩:ByteArray),.int .i64 0,.int .i64 0]) ?_ 1 _ rfl;(with_reducible repeat (first | refine blk_drewN ?_ _ | refine blk_drew ?_ | refine blk_alloc ?_ _));refine blk_put (cs:=#[.int .u8 0,.string (⟨#[]⟩:ByteArray),.int .i64 0,.int .i64 0]) ?_ 0 _ rfl;(with_reducible repeat (first | refine blk_drewN ?_ _ | refine blk_drew ?_ | refine blk_alloc ?_ _));exact BK431.out) Tryz.underlying70 rfl (by kernel_rfl)) rfl ?_
        exact ⟨by first | rfl | (simp [errW_none,errW_some] <;> rfl) | (simp [*,errW_none,errW_some] <;> rfl),by repeat (first | (with_reducible first | exact HB.out | apply below_alloc | apply pw_below_drewN | apply below_drew1 | refine below_set ?_ GE431.out) | exact HB.out)⟩
       ·rw [if_neg c58] at H
        exact absurd H (by simp)
      ·rw [if_neg c57] at H
       exact absurd H (by simp)
     ·rw [if_neg c56] at H
      exact absurd H (by simp)
end Go.Proofs.YtjapfefiaijfcaaGreatDoor.Q
namespace Go.Proofs.YtjapfefiaijfcaaGreatDoor.Q
open Go.RowKit Go.Proofs.YtjapfefiaijfcaaGreatDoorW.PrintWords Go.Proofs.YtjapfefiaijfcaaGreatDoorW.PrintLast Go.Proofs.YtjapfefiaijfcaaGreatDoorW.PrintMore
attribute [local go_sem] max2_int min2_int max_two min_two max_three min_three max_four min_four
set_option linter.unusedVariables false
set_option linter.unusedSimpArgs false
mutual
def vouchref14_piece.j0:Nat → ByteArray → Int → Int → Bool → Option (List Int × Int × Int)
 | 0,_,_,_,_=>none
 | k + 1,x0,x1,x18,x19=>if x19=true then (if 0 ≤ (wrap64 (x1 + 1)) then (if (wrap64 (x1 + 1)) < (x0.size:Int) then (some ((([bt x0 (wrap64 (x1 + 1))]:List Int)),wrap64 (x1 + 2),0)) else (none)) else (none)) else (if x18=110 then (some ((([10]:List Int)),wrap64 (x1 + 2),0)) else (if x18=116 then (some ((([9]:List Int)),wrap64 (x1 + 2),0)) else (if x18=114 then (some ((([13]:List Int)),wrap64 (x1 + 2),0)) else (if x18=10 then (vouchref14_piece.l0 k x0 (wrap64 (x1 + 2))) else (vouchref14_piece.l1 k x0 x1 0 1)))))
def vouchref14_piece.l0:Nat → ByteArray → Int → Option (List Int × Int × Int)
 | 0,_,_=>none
 | k + 1,x0,x7=>if x7 < (x0.size:Int) then (if 0 ≤ x7 then (if (bt x0 x7)=9 then (vouchref14_piece.l0 k x0 (wrap64 (x7 + 1))) else (if (bt x0 x7)=13 then (vouchref14_piece.l0 k x0 (wrap64 (x7 + 1))) else (if (bt x0 x7)=32 then (vouchref14_piece.l0 k x0 (wrap64 (x7 + 1))) else (some (([]:List Int),x7,0))))) else (none)) else (some (([]:List Int),x7,0))
def vouchref14_piece.l1:Nat → ByteArray → Int → Int → Int → Option (List Int × Int × Int)
 | 0,_,_,_,_=>none
 | k + 1,x0,x1,x8,x9=>if x9 ≤ 3 then (if (wrap64 (x1 + x9)) ≥ (x0.size:Int) then (some (([]:List Int),0,141)) else (if 0 ≤ (wrap64 (x1 + x9)) then (if (wrap64 (x1 + x9)) < (x0.size:Int) then ((vouchref14_octal.f (bt x0 (wrap64 (x1 + x9)))).bind fun t452=>(if t452=true then (vouchref14_piece.l1 k x0 x1 (wrap64 ((wrap64 (x8 * 8)) + (((bt x0 (wrap64 (x1 + x9))) - 48) % 256))) (wrap64 (x9 + 1))) else (some (([]:List Int),0,142)))) else (none)) else (none))) else (if x8 > 255 then (some (([]:List Int),0,142)) else (some ((([(x8) % 256]:List Int)),wrap64 (x1 + 4),0)))
end
def vouchref14_piece.f (k:Nat) (a0:ByteArray) (a1:Int):Option (List Int × Int × Int):=if (wrap64 (a1 + 1)) ≥ (a0.size:Int) then (some (([]:List Int),0,141)) else (if 0 ≤ (wrap64 (a1 + 1)) then (if (wrap64 (a1 + 1)) < (a0.size:Int) then (if (bt a0 (wrap64 (a1 + 1)))=34 then (vouchref14_piece.j0 k a0 a1 (bt a0 (wrap64 (a1 + 1))) ((bt a0 (wrap64 (a1 + 1))) == 34)) else (vouchref14_piece.j0 k a0 a1 (bt a0 (wrap64 (a1 + 1))) ((bt a0 (wrap64 (a1 + 1))) == 92))) else (none)) else (none))
set_option maxHeartbeats 8000000 in
set_option maxRecDepth 100000 in
theorem vouchref14_piece.calls (k:Nat) (a0:ByteArray) (a1:Int) (r1:List Int) (r2:Int) (r3:Int) (w:World) (h:vouchref14_piece.f k a0 a1=some (r1,r2,r3)) :
  Calls Tryz.prog 110 #[.string a0,.int .i64 a1] w fun e w'=>∃ v0_:Value,e = .returned (.tuple #[v0_,.int .i64 r2,.int .i64 r3]) ∧ Kd.R (Kd.int .u8) 5 w' w.heap.size (fun _=>True) v0_ r1 ∧ Below w.heap.size w w':=by
 have HB:=Aside0.mk (Below.refl w.heap.size w)
 have H:(if (wrap64 (a1 + 1)) ≥ (a0.size:Int) then (some (([]:List Int),0,141)) else (if 0 ≤ (wrap64 (a1 + 1)) then (if (wrap64 (a1 + 1)) < (a0.size:Int) then (if (bt a0 (wrap64 (a1 + 1)))=34 then (vouchref14_piece.j0 k a0 a1 (bt a0 (wrap64 (a1 + 1))) ((bt a0 (wrap64 (a1 + 1))) == 34)) else (vouchref14_piece.j0 k a0 a1 (bt a0 (wrap64 (a1 + 1))) ((bt a0 (wrap64 (a1 + 1))) == 92))) else (none)) else (none)))=some (r1,r2,r3):=h
 clear h
 by_cases c3:(wrap64 (a1 + 1)) ≥ (a0.size:Int)
 ·rw [if_pos c3] at H
  have c3b0:decide ((a0.size:Int) ≤ (wrap64 (a1 + 1)))=true:=decide_eq_true c3
  clear c3
  simp only [Option.some.injEq,Prod.mk.injEq] at H
  obtain ⟨rfl,rfl,rfl⟩:=H
  go_enter Tryz.func110,Tryz.ntmps110
  go_wp2
  go_ret3
  exact ⟨_,by first | rfl | (simp [errW_none,errW_some] <;> rfl) | (simp [*,errW_none,errW_some] <;> rfl),by first | exact Kd.R_nil _ _ _ _ _ | exact Kd.N_nil _ _ _ _ _ | exact Kd.V_nil _ _ _ _ _ | exact Kd.Q_nil _ _ _ _ _ | exact Kd.S_nil _ _ _ _ _,by repeat (first | (with_reducible first | exact HB.out | apply below_alloc | apply pw_below_drewN | apply below_drew1) | exact HB.out)⟩
 ·rw [if_neg c3] at H
  have c3b0:decide ((a0.size:Int) ≤ (wrap64 (a1 + 1)))=false:=decide_eq_false c3
  clear c3
  obtain ⟨ji4,hji4⟩:∃ j_:Int,(wrap64 (a1 + 1))=j_:=⟨_,rfl⟩
  replace H:(if 0 ≤ (ji4) then (if (ji4) < (a0.size:Int) then (if (bt a0 (ji4))=34 then (vouchref14_piece.j0 k a0 a1 (bt a0 (ji4)) ((bt a0 (ji4)) == 34)) else (vouchref14_piece.j0 k a0 a1 (bt a0 (ji4)) ((bt a0 (ji4)) == 92))) else (none)) else (none))=some (r1,r2,r3):=by first | (rw [hji4] at H;exact H) | (simp only [hji4] at H ⊢;exact H)
  (try rw [hji4] at c3b0)
  have hji4w:(IntKind.i64.wrap (a1 + 1))=ji4:=(i64_w _).trans hji4
  by_cases c5:0 ≤ (ji4)
  ·rw [if_pos c5] at H
   have c5b0:decide (0 ≤ (ji4))=true:=decide_eq_true c5
   clear c5
   by_cases c6:(ji4) < (a0.size:Int)
   ·rw [if_pos c6] at H
    have c6b0:decide ((ji4) < (a0.size:Int))=true:=decide_eq_true c6
    clear c6
    have HC8:=Aside0.mk H
    clear H
    have p7:0 ≤ ((ji4):Int):=of_decide_eq_true (by first | (with_reducible assumption) | assumption)
    have q7:(ji4) < (a0.size:Int):=of_decide_eq_true (by first | (with_reducible assumption) | assumption)
    have hx7:=bt_at a0 (ji4)
    replace p7:=eq_true p7
    replace q7:=eq_true q7
    go_enter Tryz.func110,Tryz.ntmps110
    go_upto_if 19 with (fail)
    go_cut [19] (fun v19 wc=>∃ (kq:Nat) (x19_7:Bool),v19 = .bool x19_7 ∧ Aside0 (vouchref14_piece.j0 kq a0 a1 (bt a0 (ji4)) x19_7=some (r1,r2,r3)) ∧ Aside0 (kq ≤ k) ∧ Aside0 (Below w.heap.size w wc))
    case first =>
     have H:=HC8.out
     clear HC8
     by_cases c9:(bt a0 (ji4))=34
     ·rw [if_pos c9] at H
      have c9b0:((bt a0 (ji4)) == 34)=true:=beq_iff_eq.mpr c9
      have c9b1:((bt a0 (ji4)) != 34)=false:=bne_eq_false_iff_eq.mpr c9
      clear c9
      (first | rw [c9b0] | (simp only [i64_w,i32_w];rw [c9b0]) | skip)
      have H':=Aside0.mk H
      clear H
      go_wp2
      go_meet
      case rel=>exact ⟨_,(((bt a0 (ji4)) == 34)),(by first | rfl | (simp;done) | (simp only [← hji4] <;> (first | rfl | (simp;done))) | (simp [*];done)),H',⟨by first | omega | exact Nat.le_refl _⟩,⟨by repeat (first | (with_reducible first | exact HB.out | apply below_alloc | apply pw_below_drewN | apply below_drew1) | exact HB.out)⟩⟩
     ·rw [if_neg c9] at H
      have c9b0:((bt a0 (ji4)) == 34)=false:=beq_eq_false_iff_ne.mpr c9
      have c9b1:((bt a0 (ji4)) != 34)=true:=bne_iff_ne.mpr c9
      (first | rw [c9b0] | (simp only [i64_w,i32_w];rw [c9b0]) | skip)
      have H':=Aside0.mk H
      clear H
      go_wp2
      go_meet
      case rel=>exact ⟨_,(((bt a0 (ji4)) == 92)),(by first | rfl | (simp;done) | (simp only [← hji4] <;> (first | rfl | (simp;done))) | (simp [*];done)),H',⟨by first | omega | exact Nat.le_refl _⟩,⟨by repeat (first | (with_reducible first | exact HB.out | apply below_alloc | apply pw_below_drewN | apply below_drew1) | exact HB.out)⟩⟩
    case rest =>
     clear HC8
     try clear c1
     try clear p2
     try clear c3
     try clear c3b0
     try clear c5
     try clear c5b0
     try clear c6
     try clear c6b0
     try clear p6
     try clear p7
     try clear q7
     try clear hx7
     try clear c9
     try clear c9b0
     try clear c9b1
     try clear p7
     try clear q7
     obtain ⟨kq,x19_7,rfl,HA,HJ7,HB⟩:=hcut
     cases kq with
     | zero=>exact absurd HA.out (by simp [vouchref14_piece.j0])
     | succ kj7 =>
      have H:=HA.out
      clear HA
      simp only [vouchref14_piece.j0] at H
      by_cases c10:x19_7=true
      ·subst c10
       have H1:(if 0 ≤ (wrap64 (a1 + 1)) then (if (wrap64 (a1 + 1)) < (a0.size:Int) then (some ((([bt a0 (wrap64 (a1 + 1))]:List Int)),wrap64 (a1 + 2),0)) else (none)) else (none))=some (r1,r2,r3):=by rw [if_pos rfl] at H;exact H
       clear H
       have H:=H1
       clear H1
       obtain ⟨ji11,hji11⟩:∃ j_:Int,(wrap64 (a1 + 1))=j_:=⟨_,rfl⟩
       replace H:(if 0 ≤ (ji11) then (if (ji11) < (a0.size:Int) then (some ((([bt a0 (ji11)]:List Int)),wrap64 (a1 + 2),0)) else (none)) else (none))=some (r1,r2,r3):=by first | (rw [hji11] at H;exact H) | (simp only [hji11] at H ⊢;exact H)
       (try rw [hji11] at c3b0)
       have hji11w:(IntKind.i64.wrap (a1 + 1))=ji11:=(i64_w _).trans hji11
       have je_:ji11=ji4:=hji11.symm.trans hji4
       subst je_
       by_cases c12:0 ≤ (ji11)
       ·rw [if_pos c12] at H
        have c12b0:decide (0 ≤ (ji11))=true:=decide_eq_true c12
        clear c12
        by_cases c13:(ji11) < (a0.size:Int)
        ·rw [if_pos c13] at H
         have c13b0:decide ((ji11) < (a0.size:Int))=true:=decide_eq_true c13
         clear c13
         obtain ⟨y437,hy437⟩:∃ y_:List Int,y_=(([bt a0 (ji11)]:List Int)):=⟨_,rfl⟩
         replace H:(some (y437,wrap64 (a1 + 2),0))=some (r1,r2,r3):=by first | (rw [hy437];with_reducible exact H) | (have H2_:=(Option.bind_some _ _).symm.trans H;rw [hy437];with_reducible exact H2_) | (have H2_:=(Option.bind_some _ _).symm.trans H;with_reducible exact H2_) | with_reducible exact H | (rw [hy437];exact H) | exact H
         have Ny437:=Aside0.mk hy437
         clear hy437
         simp only [Option.some.injEq,Prod.mk.injEq] at H
         obtain ⟨rfl,rfl,rfl⟩:=H
         have p14:0 ≤ ((ji11):Int):=of_decide_eq_true (by first | (with_reducible assumption) | assumption)
         have q14:(ji11) < (a0.size:Int):=of_decide_eq_true (by first | (with_reducible assumption) | assumption)
         have hx14:=bt_at a0 (ji11)
         replace p14:=eq_true p14
         replace q14:=eq_true q14
         go_wp2_with (first | ((with_reducible refine gate_dst (N:=26) rfl ?_);refine Kd.R_lit (Kd.int .u8) _ 5 ?hg (N:=26) ?hd (xs:=([bt a0 (ji11)]:List Int)) (inner:=[.int .u8 (bt a0 (ji11))]) (ok:=fun _=>True) (okp:=fun _=>True) ?hr ?hp (fun _ hk=>hk) trivial (Below.refl _ _) (Nat.le_refl _) (by simp) ?_;(case hd=>rfl);(case hg=>rfl);(case hr=>first | (go_simp;done) | (go_simp;rfl));(case hp=>exact (Reps.one (show Kd.M (Kd.int .u8) _ _ _ (bt a0 (ji11)) [.int .u8 (bt a0 (ji11))] from rfl) (Reps.none _ _)));intro v438 w15 ho16 hb hg_ hnew_;clear hg_ hnew_;(first | rw [← Ny437.out] at ho16 | (simp only [Int.reduceToNat] at ho16;rw [← Ny437.out] at ho16));have n0_:=Aside0.mk (Kd.R_lower ho16 (below_size (by repeat (first | (with_reducible first | exact HB.out | apply below_alloc | apply pw_below_drewN | apply below_drew1) | exact HB.out))));have n1_:=Aside0.mk (below_step (by repeat (first | (with_reducible first | exact HB.out | apply below_alloc | apply pw_below_drewN | apply below_drew1) | exact HB.out)) hb);clear HB;have HO439:=n0_;have HB:=n1_;clear n0_ n1_;clear hb ho16))
         go_ret3
         exact ⟨_,by first | rfl | (simp [errW_none,errW_some] <;> rfl) | (simp only [← hji4,← hji11];first | rfl | (simp [errW_none,errW_some] <;> rfl)) | (simp [*,errW_none,errW_some] <;> rfl),by (with_reducible repeat (first | apply Kd.R_alloc | apply Kd.R_drewN | apply Kd.R_drew));exact HO439.out,by repeat (first | (with_reducible first | exact HB.out | apply below_alloc | apply pw_below_drewN | apply below_drew1) | exact HB.out)⟩
        ·rw [if_neg c13] at H
         exact absurd H (by simp)
       ·rw [if_neg c12] at H
        exact absurd H (by simp)
      ·replace c10:=Bool.eq_false_iff.mpr c10
       subst c10
       have H1:(if (bt a0 (ji4))=110 then (some ((([10]:List Int)),wrap64 (a1 + 2),0)) else (if (bt a0 (ji4))=116 then (some ((([9]:List Int)),wrap64 (a1 + 2),0)) else (if (bt a0 (ji4))=114 then (some ((([13]:List Int)),wrap64 (a1 + 2),0)) else (if (bt a0 (ji4))=10 then (vouchref14_piece.l0 kj7 a0 (wrap64 (a1 + 2))) else (vouchref14_piece.l1 kj7 a0 a1 0 1)))))=some (r1,r2,r3):=by rw [if_neg (show ¬ (false=true) by decide)] at H;exact H
       clear H
       have H:=H1
       clear H1
       by_cases c17:(bt a0 (ji4))=110
       ·rw [if_pos c17] at H
        have c17b0:((bt a0 (ji4)) == 110)=true:=beq_iff_eq.mpr c17
        have c17b1:((bt a0 (ji4)) != 110)=false:=bne_eq_false_iff_eq.mpr c17
        clear c17
        obtain ⟨y440,hy440⟩:∃ y_:List Int,y_=(([10]:List Int)):=⟨_,rfl⟩
        replace H:(some (y440,wrap64 (a1 + 2),0))=some (r1,r2,r3):=by first | (rw [hy440];with_reducible exact H) | (have H2_:=(Option.bind_some _ _).symm.trans H;rw [hy440];with_reducible exact H2_) | (have H2_:=(Option.bind_some _ _).symm.trans H;with_reducible exact H2_) | with_reducible exact H | (rw [hy440];exact H) | exact H
        have Ny440:=Aside0.mk hy440
        clear hy440
        simp only [Option.some.injEq,Prod.mk.injEq] at H
        obtain ⟨rfl,rfl,rfl⟩:=H
        go_wp2_with (first | ((with_reducible refine gate_dst (N:=31) rfl ?_);refine Kd.R_lit (Kd.int .u8) _ 5 ?hg (N:=31) ?hd (xs:=([10]:List Int)) (inner:=[.int .u8 10]) (ok:=fun _=>True) (okp:=fun _=>True) ?hr ?hp (fun _ hk=>hk) trivial (Below.refl _ _) (Nat.le_refl _) (by simp) ?_;(case hd=>rfl);(case hg=>rfl);(case hr=>first | (go_simp;done) | (go_simp;rfl));(case hp=>exact (Reps.one (show Kd.M (Kd.int .u8) _ _ _ 10 [.int .u8 10] from rfl) (Reps.none _ _)));intro v441 w18 ho19 hb hg_ hnew_;clear hg_ hnew_;(first | rw [← Ny440.out] at ho19 | (simp only [Int.reduceToNat] at ho19;rw [← Ny440.out] at ho19));have n0_:=Aside0.mk (Kd.R_lower ho19 (below_size (by repeat (first | (with_reducible first | exact HB.out | apply below_alloc | apply pw_below_drewN | apply below_drew1) | exact HB.out))));have n1_:=Aside0.mk (below_step (by repeat (first | (with_reducible first | exact HB.out | apply below_alloc | apply pw_below_drewN | apply below_drew1) | exact HB.out)) hb);clear HB;have HO442:=n0_;have HB:=n1_;clear n0_ n1_;clear hb ho19))
        go_ret3
        exact ⟨_,by first | rfl | (simp [errW_none,errW_some] <;> rfl) | (simp only [← hji4];first | rfl | (simp [errW_none,errW_some] <;> rfl)) | (simp [*,errW_none,errW_some] <;> rfl),by (with_reducible repeat (first | apply Kd.R_alloc | apply Kd.R_drewN | apply Kd.R_drew));exact HO442.out,by repeat (first | (with_reducible first | exact HB.out | apply below_alloc | apply pw_below_drewN | apply below_drew1) | exact HB.out)⟩
       ·rw [if_neg c17] at H
        have c17b0:((bt a0 (ji4)) == 110)=false:=beq_eq_false_iff_ne.mpr c17
        have c17b1:((bt a0 (ji4)) != 110)=true:=bne_iff_ne.mpr c17
        by_cases c20:(bt a0 (ji4))=116
        ·rw [if_pos c20] at H
         have c20b0:((bt a0 (ji4)) == 116)=true:=beq_iff_eq.mpr c20
         have c20b1:((bt a0 (ji4)) != 116)=false:=bne_eq_false_iff_eq.mpr c20
         clear c20
         obtain ⟨y443,hy443⟩:∃ y_:List Int,y_=(([9]:List Int)):=⟨_,rfl⟩
         replace H:(some (y443,wrap64 (a1 + 2),0))=some (r1,r2,r3):=by first | (rw [hy443];with_reducible exact H) | (have H2_:=(Option.bind_some _ _).symm.trans H;rw [hy443];with_reducible exact H2_) | (have H2_:=(Option.bind_some _ _).symm.trans H;with_reducible exact H2_) | with_reducible exact H | (rw [hy443];exact H) | exact H
         have Ny443:=Aside0.mk hy443
         clear hy443
         simp only [Option.some.injEq,Prod.mk.injEq] at H
         obtain ⟨rfl,rfl,rfl⟩:=H
         go_wp2_with (first | ((with_reducible refine gate_dst (N:=36) rfl ?_);refine Kd.R_lit (Kd.int .u8) _ 5 ?hg (N:=36) ?hd (xs:=([9]:List Int)) (inner:=[.int .u8 9]) (ok:=fun _=>True) (okp:=fun _=>True) ?hr ?hp (fun _ hk=>hk) trivial (Below.refl _ _) (Nat.le_refl _) (by simp) ?_;(case hd=>rfl);(case hg=>rfl);(case hr=>first | (go_simp;done) | (go_simp;rfl));(case hp=>exact (Reps.one (show Kd.M (Kd.int .u8) _ _ _ 9 [.int .u8 9] from rfl) (Reps.none _ _)));intro v444 w21 ho22 hb hg_ hnew_;clear hg_ hnew_;(first | rw [← Ny443.out] at ho22 | (simp only [Int.reduceToNat] at ho22;rw [← Ny443.out] at ho22));have n0_:=Aside0.mk (Kd.R_lower ho22 (below_size (by repeat (first | (with_reducible first | exact HB.out | apply below_alloc | apply pw_below_drewN | apply below_drew1) | exact HB.out))));have n1_:=Aside0.mk (below_step (by repeat (first | (with_reducible first | exact HB.out | apply below_alloc | apply pw_below_drewN | apply below_drew1) | exact HB.out)) hb);clear HB;have HO445:=n0_;have HB:=n1_;clear n0_ n1_;clear hb ho22))
         go_ret3
         exact ⟨_,by first | rfl | (simp [errW_none,errW_some] <;> rfl) | (simp only [← hji4];first | rfl | (simp [errW_none,errW_some] <;> rfl)) | (simp [*,errW_none,errW_some] <;> rfl),by (with_reducible repeat (first | apply Kd.R_alloc | apply Kd.R_drewN | apply Kd.R_drew));exact HO445.out,by repeat (first | (with_reducible first | exact HB.out | apply below_alloc | apply pw_below_drewN | apply below_drew1) | exact HB.out)⟩
        ·rw [if_neg c20] at H
         have c20b0:((bt a0 (ji4)) == 116)=false:=beq_eq_false_iff_ne.mpr c20
         have c20b1:((bt a0 (ji4)) != 116)=true:=bne_iff_ne.mpr c20
         by_cases c23:(bt a0 (ji4))=114
         ·rw [if_pos c23] at H
          have c23b0:((bt a0 (ji4)) == 114)=true:=beq_iff_eq.mpr c23
          have c23b1:((bt a0 (ji4)) != 114)=false:=bne_eq_false_iff_eq.mpr c23
          clear c23
          obtain ⟨y446,hy446⟩:∃ y_:List Int,y_=(([13]:List Int)):=⟨_,rfl⟩
          replace H:(some (y446,wrap64 (a1 + 2),0))=some (r1,r2,r3):=by first | (rw [hy446];with_reducible exact H) | (have H2_:=(Option.bind_some _ _).symm.trans H;rw [hy446];with_reducible exact H2_) | (have H2_:=(Option.bind_some _ _).symm.trans H;with_reducible exact H2_) | with_reducible exact H | (rw [hy446];exact H) | exact H
          have Ny446:=Aside0.mk hy446
          clear hy446
          simp only [Option.some.injEq,Prod.mk.injEq] at H
          obtain ⟨rfl,rfl,rfl⟩:=H
          go_wp2_with (first | ((with_reducible refine gate_dst (N:=41) rfl ?_);refine Kd.R_lit (Kd.int .u8) _ 5 ?hg (N:=41) ?hd (xs:=([13]:List Int)) (inner:=[.int .u8 13]) (ok:=fun _=>True) (okp:=fun _=>True) ?hr ?hp (fun _ hk=>hk) trivial (Below.refl _ _) (Nat.le_refl _) (by simp) ?_;(case hd=>rfl);(case hg=>rfl);(case hr=>first | (go_simp;done) | (go_simp;rfl));(case hp=>exact (Reps.one (show Kd.M (Kd.int .u8) _ _ _ 13 [.int .u8 13] from rfl) (Reps.none _ _)));intro v447 w24 ho25 hb hg_ hnew_;clear hg_ hnew_;(first | rw [← Ny446.out] at ho25 | (simp only [Int.reduceToNat] at ho25;rw [← Ny446.out] at ho25));have n0_:=Aside0.mk (Kd.R_lower ho25 (below_size (by repeat (first | (with_reducible first | exact HB.out | apply below_alloc | apply pw_below_drewN | apply below_drew1) | exact HB.out))));have n1_:=Aside0.mk (below_step (by repeat (first | (with_reducible first | exact HB.out | apply below_alloc | apply pw_below_drewN | apply below_drew1) | exact HB.out)) hb);clear HB;have HO448:=n0_;have HB:=n1_;clear n0_ n1_;clear hb ho25))
          go_ret3
          exact ⟨_,by first | rfl | (simp [errW_none,errW_some] <;> rfl) | (simp only [← hji4];first | rfl | (simp [errW_none,errW_some] <;> rfl)) | (simp [*,errW_none,errW_some] <;> rfl),by (with_reducible repeat (first | apply Kd.R_alloc | apply Kd.R_drewN | apply Kd.R_drew));exact HO448.out,by repeat (first | (with_reducible first | exact HB.out | apply below_alloc | apply pw_below_drewN | apply below_drew1) | exact HB.out)⟩
         ·rw [if_neg c23] at H
          have c23b0:((bt a0 (ji4)) == 114)=false:=beq_eq_false_iff_ne.mpr c23
          have c23b1:((bt a0 (ji4)) != 114)=true:=bne_iff_ne.mpr c23
          by_cases c26:(bt a0 (ji4))=10
          ·rw [if_pos c26] at H
           have c26b0:((bt a0 (ji4)) == 10)=true:=beq_iff_eq.mpr c26
           have c26b1:((bt a0 (ji4)) != 10)=false:=bne_eq_false_iff_eq.mpr c26
           clear c26
           have H':=Aside0.mk H
           clear H
           go_wp2
           go_loopg [7] kj7 (fun kq v7 w'=>∃ (x7_2:Int),v7 = .int .i64 x7_2 ∧ Aside0 (vouchref14_piece.l0 kq a0 x7_2=some (r1,r2,r3)) ∧ Aside0 (kq ≤ kj7) ∧ Aside0 (Below w.heap.size w w'))
           case atStart=>exact ⟨(wrap64 (a1 + 2)),(by first | rfl | (simp;done) | (simp [*];done) | (repeat (first | rfl | (unfold wrap64;omega) | congr 1))),H',⟨Nat.le_refl _⟩,⟨by repeat (first | (with_reducible first | exact HB.out | apply below_alloc | apply pw_below_drewN | apply below_drew1) | exact HB.out)⟩⟩
           case round =>
            clear H'
            try clear c1
            try clear p1
            try clear q1
            try clear hx1
            try clear c2
            try clear p2
            try clear c3
            try clear c3b0
            try clear c5
            try clear c5b0
            try clear c6
            try clear c6b0
            try clear p6
            try clear p7
            try clear q7
            try clear hx7
            try clear c9
            try clear c9b0
            try clear c9b1
            try clear c10
            try clear c11
            try clear c12
            try clear c12b0
            try clear c13
            try clear c13b0
            try clear p14
            try clear q14
            try clear hx14
            try clear c17
            try clear c17b0
            try clear c17b1
            try clear c20
            try clear c20b0
            try clear c20b1
            try clear c23
            try clear c23b0
            try clear c23b1
            try clear c26
            try clear c26b0
            try clear c26b1
            try clear p14
            try clear p2
            try clear p6
            try clear p7
            try clear q14
            try clear q7
            obtain ⟨x7_2,rfl,HA,HK2,HB⟩:=hrel
            cases gk with
            | zero=>exact absurd HA.out (by simp [vouchref14_piece.l0])
            | succ k2 =>
             have H:=HA.out
             clear HA
             simp only [vouchref14_piece.l0] at H
             by_cases c27:x7_2 < (a0.size:Int)
             ·rw [if_pos c27] at H
              have c27b0:decide (x7_2 < (a0.size:Int))=true:=decide_eq_true c27
              clear c27
              by_cases c28:0 ≤ x7_2
              ·rw [if_pos c28] at H
               have c28b0:decide (0 ≤ x7_2)=true:=decide_eq_true c28
               clear c28
               by_cases c30:(bt a0 x7_2)=9
               ·rw [if_pos c30] at H
                have c30b0:((bt a0 x7_2) == 9)=true:=beq_iff_eq.mpr c30
                have c30b1:((bt a0 x7_2) != 9)=false:=bne_eq_false_iff_eq.mpr c30
                clear c30
                have H':=Aside0.mk H
                clear H
                have p29:0 ≤ (x7_2:Int):=of_decide_eq_true (by first | (with_reducible assumption) | assumption)
                have q29:x7_2 < (a0.size:Int):=of_decide_eq_true (by first | (with_reducible assumption) | assumption)
                have hx29:=bt_at a0 x7_2
                replace p29:=eq_true p29
                replace q29:=eq_true q29
                go_wp2
                go_roundg k2
                case measure=>have:=HJ7.out;have:=HK2.out;omega
                case rel=>exact ⟨(wrap64 (x7_2 + 1)),(by first | rfl | (simp;done) | (simp [*];done) | (repeat (first | rfl | (unfold wrap64;omega) | congr 1))),H',⟨by have:=HJ7.out;have:=HK2.out;omega⟩,⟨by repeat (first | (with_reducible first | exact HB.out | apply below_alloc | apply pw_below_drewN | apply below_drew1) | exact HB.out)⟩⟩
               ·rw [if_neg c30] at H
                have c30b0:((bt a0 x7_2) == 9)=false:=beq_eq_false_iff_ne.mpr c30
                have c30b1:((bt a0 x7_2) != 9)=true:=bne_iff_ne.mpr c30
                by_cases c32:(bt a0 x7_2)=13
                ·rw [if_pos c32] at H
                 have c32b0:((bt a0 x7_2) == 13)=true:=beq_iff_eq.mpr c32
                 have c32b1:((bt a0 x7_2) != 13)=false:=bne_eq_false_iff_eq.mpr c32
                 clear c32
                 have H':=Aside0.mk H
                 clear H
                 have p29:0 ≤ (x7_2:Int):=of_decide_eq_true (by first | (with_reducible assumption) | assumption)
                 have q29:x7_2 < (a0.size:Int):=of_decide_eq_true (by first | (with_reducible assumption) | assumption)
                 have hx29:=bt_at a0 x7_2
                 replace p29:=eq_true p29
                 replace q29:=eq_true q29
                 have p31:0 ≤ (x7_2:Int):=of_decide_eq_true (by first | (with_reducible assumption) | assumption)
                 have q31:x7_2 < (a0.size:Int):=of_decide_eq_true (by first | (with_reducible assumption) | assumption)
                 have hx31:=bt_at a0 x7_2
                 replace p31:=eq_true p31
                 replace q31:=eq_true q31
                 go_wp2
                 go_roundg k2
                 case measure=>have:=HJ7.out;have:=HK2.out;omega
                 case rel=>exact ⟨(wrap64 (x7_2 + 1)),(by first | rfl | (simp;done) | (simp [*];done) | (repeat (first | rfl | (unfold wrap64;omega) | congr 1))),H',⟨by have:=HJ7.out;have:=HK2.out;omega⟩,⟨by repeat (first | (with_reducible first | exact HB.out | apply below_alloc | apply pw_below_drewN | apply below_drew1) | exact HB.out)⟩⟩
                ·rw [if_neg c32] at H
                 have c32b0:((bt a0 x7_2) == 13)=false:=beq_eq_false_iff_ne.mpr c32
                 have c32b1:((bt a0 x7_2) != 13)=true:=bne_iff_ne.mpr c32
                 by_cases c34:(bt a0 x7_2)=32
                 ·rw [if_pos c34] at H
                  have c34b0:((bt a0 x7_2) == 32)=true:=beq_iff_eq.mpr c34
                  have c34b1:((bt a0 x7_2) != 32)=false:=bne_eq_false_iff_eq.mpr c34
                  clear c34
                  have H':=Aside0.mk H
                  clear H
                  have p29:0 ≤ (x7_2:Int):=of_decide_eq_true (by first | (with_reducible assumption) | assumption)
                  have q29:x7_2 < (a0.size:Int):=of_decide_eq_true (by first | (with_reducible assumption) | assumption)
                  have hx29:=bt_at a0 x7_2
                  replace p29:=eq_true p29
                  replace q29:=eq_true q29
                  have p31:0 ≤ (x7_2:Int):=of_decide_eq_true (by first | (with_reducible assumption) | assumption)
                  have q31:x7_2 < (a0.size:Int):=of_decide_eq_true (by first | (with_reducible assumption) | assumption)
                  have hx31:=bt_at a0 x7_2
                  replace p31:=eq_true p31
                  replace q31:=eq_true q31
                  have p33:0 ≤ (x7_2:Int):=of_decide_eq_true (by first | (with_reducible assumption) | assumption)
                  have q33:x7_2 < (a0.size:Int):=of_decide_eq_true (by first | (with_reducible assumption) | assumption)
                  have hx33:=bt_at a0 x7_2
                  replace p33:=eq_true p33
                  replace q33:=eq_true q33
                  go_wp2
                  go_roundg k2
                  case measure=>have:=HJ7.out;have:=HK2.out;omega
                  case rel=>exact ⟨(wrap64 (x7_2 + 1)),(by first | rfl | (simp;done) | (simp [*];done) | (repeat (first | rfl | (unfold wrap64;omega) | congr 1))),H',⟨by have:=HJ7.out;have:=HK2.out;omega⟩,⟨by repeat (first | (with_reducible first | exact HB.out | apply below_alloc | apply pw_below_drewN | apply below_drew1) | exact HB.out)⟩⟩
                 ·rw [if_neg c34] at H
                  have c34b0:((bt a0 x7_2) == 32)=false:=beq_eq_false_iff_ne.mpr c34
                  have c34b1:((bt a0 x7_2) != 32)=true:=bne_iff_ne.mpr c34
                  simp only [Option.some.injEq,Prod.mk.injEq] at H
                  obtain ⟨rfl,rfl,rfl⟩:=H
                  have p29:0 ≤ (x7_2:Int):=of_decide_eq_true (by first | (with_reducible assumption) | assumption)
                  have q29:x7_2 < (a0.size:Int):=of_decide_eq_true (by first | (with_reducible assumption) | assumption)
                  have hx29:=bt_at a0 x7_2
                  replace p29:=eq_true p29
                  replace q29:=eq_true q29
                  have p31:0 ≤ (x7_2:Int):=of_decide_eq_true (by first | (with_reducible assumption) | assumption)
                  have q31:x7_2 < (a0.size:Int):=of_decide_eq_true (by first | (with_reducible assumption) | assumption)
                  have hx31:=bt_at a0 x7_2
                  replace p31:=eq_true p31
                  replace q31:=eq_true q31
                  have p33:0 ≤ (x7_2:Int):=of_decide_eq_true (by first | (with_reducible assumption) | assumption)
                  have q33:x7_2 < (a0.size:Int):=of_decide_eq_true (by first | (with_reducible assumption) | assumption)
                  have hx33:=bt_at a0 x7_2
                  replace p33:=eq_true p33
                  replace q33:=eq_true q33
                  go_wp2
                  go_ret3
                  exact ⟨_,by first | rfl | (simp [errW_none,errW_some] <;> rfl) | (simp only [← hji4];first | rfl | (simp [errW_none,errW_some] <;> rfl)) | (simp [*,errW_none,errW_some] <;> rfl),by first | exact Kd.R_nil _ _ _ _ _ | exact Kd.N_nil _ _ _ _ _ | exact Kd.V_nil _ _ _ _ _ | exact Kd.Q_nil _ _ _ _ _ | exact Kd.S_nil _ _ _ _ _,by repeat (first | (with_reducible first | exact HB.out | apply below_alloc | apply pw_below_drewN | apply below_drew1) | exact HB.out)⟩
              ·rw [if_neg c28] at H
               exact absurd H (by simp)
             ·rw [if_neg c27] at H
              have c27b0:decide (x7_2 < (a0.size:Int))=false:=decide_eq_false c27
              clear c27
              simp only [Option.some.injEq,Prod.mk.injEq] at H
              obtain ⟨rfl,rfl,rfl⟩:=H
              go_wp2
              go_ret3
              exact ⟨_,by first | rfl | (simp [errW_none,errW_some] <;> rfl) | (simp only [← hji4];first | rfl | (simp [errW_none,errW_some] <;> rfl)) | (simp [*,errW_none,errW_some] <;> rfl),by first | exact Kd.R_nil _ _ _ _ _ | exact Kd.N_nil _ _ _ _ _ | exact Kd.V_nil _ _ _ _ _ | exact Kd.Q_nil _ _ _ _ _ | exact Kd.S_nil _ _ _ _ _,by repeat (first | (with_reducible first | exact HB.out | apply below_alloc | apply pw_below_drewN | apply below_drew1) | exact HB.out)⟩
          ·rw [if_neg c26] at H
           have c26b0:((bt a0 (ji4)) == 10)=false:=beq_eq_false_iff_ne.mpr c26
           have c26b1:((bt a0 (ji4)) != 10)=true:=bne_iff_ne.mpr c26
           have H':=Aside0.mk H
           clear H
           go_wp2
           go_loopg [8,9] kj7 (fun kq v8 v9 w'=>∃ (x8_2:Int) (x9_2:Int),v8 = .int .i64 x8_2 ∧ v9 = .int .i64 x9_2 ∧ Aside0 (vouchref14_piece.l1 kq a0 a1 x8_2 x9_2=some (r1,r2,r3)) ∧ Aside0 (kq ≤ kj7) ∧ Aside0 (Below w.heap.size w w'))
           case atStart=>exact ⟨(0),(1),(by first | rfl | (simp;done) | (simp [*];done) | (repeat (first | rfl | (unfold wrap64;omega) | congr 1))),(by first | rfl | (simp;done) | (simp [*];done) | (repeat (first | rfl | (unfold wrap64;omega) | congr 1))),H',⟨Nat.le_refl _⟩,⟨by repeat (first | (with_reducible first | exact HB.out | apply below_alloc | apply pw_below_drewN | apply below_drew1) | exact HB.out)⟩⟩
           case round =>
            clear H'
            try clear c1
            try clear p1
            try clear q1
            try clear hx1
            try clear c2
            try clear p2
            try clear q2
            try clear hx2
            try clear c3
            try clear c3b0
            try clear p3
            try clear q3
            try clear hx3
            try clear c5
            try clear c5b0
            try clear c6
            try clear c6b0
            try clear p6
            try clear p7
            try clear q7
            try clear hx7
            try clear c9
            try clear c9b0
            try clear c9b1
            try clear c10
            try clear c11
            try clear c12
            try clear c12b0
            try clear c13
            try clear c13b0
            try clear p14
            try clear q14
            try clear hx14
            try clear c17
            try clear c17b0
            try clear c17b1
            try clear c20
            try clear c20b0
            try clear c20b1
            try clear c23
            try clear c23b0
            try clear c23b1
            try clear c26
            try clear c26b0
            try clear c26b1
            try clear c27
            try clear c27b0
            try clear c28
            try clear c28b0
            try clear p29
            try clear q29
            try clear hx29
            try clear c30
            try clear c30b0
            try clear c30b1
            try clear p31
            try clear q31
            try clear hx31
            try clear c32
            try clear c32b0
            try clear c32b1
            try clear p33
            try clear q33
            try clear hx33
            try clear c34
            try clear c34b0
            try clear c34b1
            try clear p1
            try clear p14
            try clear p2
            try clear p29
            try clear p31
            try clear p33
            try clear p6
            try clear p7
            try clear q1
            try clear q14
            try clear q29
            try clear q31
            try clear q33
            try clear q7
            obtain ⟨x8_2,x9_2,rfl,rfl,HA,HK2,HB⟩:=hrel
            cases gk with
            | zero=>exact absurd HA.out (by simp [vouchref14_piece.l1])
            | succ k2 =>
             have H:=HA.out
             clear HA
             simp only [vouchref14_piece.l1] at H
             by_cases c35:x9_2 ≤ 3
             ·rw [if_pos c35] at H
              have c35b0:decide (x9_2 ≤ 3)=true:=decide_eq_true c35
              clear c35
              by_cases c36:(wrap64 (a1 + x9_2)) ≥ (a0.size:Int)
              ·rw [if_pos c36] at H
               have c36b0:decide ((a0.size:Int) ≤ (wrap64 (a1 + x9_2)))=true:=decide_eq_true c36
               clear c36
               simp only [Option.some.injEq,Prod.mk.injEq] at H
               obtain ⟨rfl,rfl,rfl⟩:=H
               go_wp2
               go_ret3
               exact ⟨_,by first | rfl | (simp [errW_none,errW_some] <;> rfl) | (simp only [← hji4];first | rfl | (simp [errW_none,errW_some] <;> rfl)) | (simp [*,errW_none,errW_some] <;> rfl),by first | exact Kd.R_nil _ _ _ _ _ | exact Kd.N_nil _ _ _ _ _ | exact Kd.V_nil _ _ _ _ _ | exact Kd.Q_nil _ _ _ _ _ | exact Kd.S_nil _ _ _ _ _,by repeat (first | (with_reducible first | exact HB.out | apply below_alloc | apply pw_below_drewN | apply below_drew1) | exact HB.out)⟩
              ·rw [if_neg c36] at H
               have c36b0:decide ((a0.size:Int) ≤ (wrap64 (a1 + x9_2)))=false:=decide_eq_false c36
               clear c36
               obtain ⟨ji37,hji37⟩:∃ j_:Int,(wrap64 (a1 + x9_2))=j_:=⟨_,rfl⟩
               replace H:(if 0 ≤ (ji37) then (if (ji37) < (a0.size:Int) then ((vouchref14_octal.f (bt a0 (ji37))).bind fun t452=>(if t452=true then (vouchref14_piece.l1 k2 a0 a1 (wrap64 ((wrap64 (x8_2 * 8)) + (((bt a0 (ji37)) - 48) % 256))) (wrap64 (x9_2 + 1))) else (some (([]:List Int),0,142)))) else (none)) else (none))=some (r1,r2,r3):=by first | (rw [hji37] at H;exact H) | (simp only [hji37] at H ⊢;exact H)
               (try rw [hji37] at c36b0)
               have hji37w:(IntKind.i64.wrap (a1 + x9_2))=ji37:=(i64_w _).trans hji37
               by_cases c38:0 ≤ (ji37)
               ·rw [if_pos c38] at H
                have c38b0:decide (0 ≤ (ji37))=true:=decide_eq_true c38
                clear c38
                by_cases c39:(ji37) < (a0.size:Int)
                ·rw [if_pos c39] at H
                 have c39b0:decide ((ji37) < (a0.size:Int))=true:=decide_eq_true c39
                 clear c39
                 replace H:=Option.bind_eq_some_iff.mp H
                 obtain ⟨t452,A410,H⟩:=H
                 replace H:(if t452=true then (vouchref14_piece.l1 k2 a0 a1 (wrap64 ((wrap64 (x8_2 * 8)) + (((bt a0 (ji37)) - 48) % 256))) (wrap64 (x9_2 + 1))) else (some (([]:List Int),0,142)))=some (r1,r2,r3):=H
                 have A41:=Aside0.mk A410
                 clear A410
                 by_cases c42:t452=true
                 ·subst c42
                  have H1:(vouchref14_piece.l1 k2 a0 a1 (wrap64 ((wrap64 (x8_2 * 8)) + (((bt a0 (ji37)) - 48) % 256))) (wrap64 (x9_2 + 1)))=some (r1,r2,r3):=by rw [if_pos rfl] at H;exact H
                  clear H
                  have H:=H1
                  clear H1
                  have H':=Aside0.mk H
                  clear H
                  have p40:0 ≤ ((ji37):Int):=of_decide_eq_true (by first | (with_reducible assumption) | assumption)
                  have q40:(ji37) < (a0.size:Int):=of_decide_eq_true (by first | (with_reducible assumption) | assumption)
                  have hx40:=bt_at a0 (ji37)
                  replace p40:=eq_true p40
                  replace q40:=eq_true q40
                  go_wp2_with (first | ((with_reducible refine gate_callee (f:=125) rfl ?_);refine goesL_ (some 88) rfl rfl Tryz.func125 (by kernel_rfl) rfl #[.int .u8 (bt a0 (ji37))] rfl (by (try simp only [List.map_toArray,List.map_cons,List.map_nil]);first | done | (simp only [hji37];rfl) | rfl | (simp only [List.length_drop,List.length_take];rfl)) ?_;(with_reducible refine (vouchref14_octal.calls (bt a0 (ji37)) true _ A41.out).mono ?_);rintro e w' ⟨rfl,⟨nd,rfl⟩⟩;refine ⟨_,rfl,?_⟩;have p43:0 ≤ ((ji37):Int):=of_decide_eq_true (by first | (with_reducible assumption) | assumption);have q43:(ji37) < (a0.size:Int):=of_decide_eq_true (by first | (with_reducible assumption) | assumption);have hx43:=bt_at a0 (ji37);replace p43:=eq_true p43;replace q43:=eq_true q43))
                  go_roundg k2
                  case measure=>have:=HJ7.out;have:=HK2.out;omega
                  case rel=>exact ⟨(wrap64 ((wrap64 (x8_2 * 8)) + (((bt a0 (ji37)) - 48) % 256))),(wrap64 (x9_2 + 1)),(by first | rfl | (simp;done) | (simp only [← hji37] <;> (first | rfl | simp)) | (simp [*];done)),(by first | rfl | (simp;done) | (simp [*];done) | (repeat (first | rfl | (unfold wrap64;omega) | congr 1))),H',⟨by have:=HJ7.out;have:=HK2.out;omega⟩,⟨by repeat (first | (with_reducible first | exact HB.out | apply below_alloc | apply pw_below_drewN | apply below_drew1) | exact HB.out)⟩⟩
                 ·replace c42:=Bool.eq_false_iff.mpr c42
                  subst c42
                  have H1:(some (([]:List Int),0,142))=some (r1,r2,r3):=by rw [if_neg (show ¬ (false=true) by decide)] at H;exact H
                  clear H
                  have H:=H1
                  clear H1
                  simp only [Option.some.injEq,Prod.mk.injEq] at H
                  obtain ⟨rfl,rfl,rfl⟩:=H
                  have p40:0 ≤ ((ji37):Int):=of_decide_eq_true (by first | (with_reducible assumption) | assumption)
                  have q40:(ji37) < (a0.size:Int):=of_decide_eq_true (by first | (with_reducible assumption) | assumption)
                  have hx40:=bt_at a0 (ji37)
                  replace p40:=eq_true p40
                  replace q40:=eq_true q40
                  go_wp2_with (first | ((with_reducible refine gate_callee (f:=125) rfl ?_);refine goesL_ (some 88) rfl rfl Tryz.func125 (by kernel_rfl) rfl #[.int .u8 (bt a0 (ji37))] rfl (by (try simp only [List.map_toArray,List.map_cons,List.map_nil]);first | done | (simp only [hji37];rfl) | rfl | (simp only [List.length_drop,List.length_take];rfl)) ?_;(with_reducible refine (vouchref14_octal.calls (bt a0 (ji37)) false _ A41.out).mono ?_);rintro e w' ⟨rfl,⟨nd,rfl⟩⟩;refine ⟨_,rfl,?_⟩))
                  go_ret3
                  exact ⟨_,by first | rfl | (simp [errW_none,errW_some] <;> rfl) | (simp only [← hji4,← hji37];first | rfl | (simp [errW_none,errW_some] <;> rfl)) | (simp [*,errW_none,errW_some] <;> rfl),by first | exact Kd.R_nil _ _ _ _ _ | exact Kd.N_nil _ _ _ _ _ | exact Kd.V_nil _ _ _ _ _ | exact Kd.Q_nil _ _ _ _ _ | exact Kd.S_nil _ _ _ _ _,by repeat (first | (with_reducible first | exact HB.out | apply below_alloc | apply pw_below_drewN | apply below_drew1) | exact HB.out)⟩
                ·rw [if_neg c39] at H
                 exact absurd H (by simp)
               ·rw [if_neg c38] at H
                exact absurd H (by simp)
             ·rw [if_neg c35] at H
              have c35b0:decide (x9_2 ≤ 3)=false:=decide_eq_false c35
              clear c35
              by_cases c44:x8_2 > 255
              ·rw [if_pos c44] at H
               have c44b0:decide (255 < x8_2)=true:=decide_eq_true c44
               clear c44
               simp only [Option.some.injEq,Prod.mk.injEq] at H
               obtain ⟨rfl,rfl,rfl⟩:=H
               go_wp2
               go_ret3
               exact ⟨_,by first | rfl | (simp [errW_none,errW_some] <;> rfl) | (simp only [← hji4];first | rfl | (simp [errW_none,errW_some] <;> rfl)) | (simp [*,errW_none,errW_some] <;> rfl),by first | exact Kd.R_nil _ _ _ _ _ | exact Kd.N_nil _ _ _ _ _ | exact Kd.V_nil _ _ _ _ _ | exact Kd.Q_nil _ _ _ _ _ | exact Kd.S_nil _ _ _ _ _,by repeat (first | (with_reducible first | exact HB.out | apply below_alloc | apply pw_below_drewN | apply below_drew1) | exact HB.out)⟩
              ·rw [if_neg c44] at H
               have c44b0:decide (255 < x8_2)=false:=decide_eq_false c44
               clear c44
               obtain ⟨y449,hy449⟩:∃ y_:List Int,y_=(([(x8_2) % 256]:List Int)):=⟨_,rfl⟩
               replace H:(some (y449,wrap64 (a1 + 4),0))=some (r1,r2,r3):=by first | (rw [hy449];with_reducible exact H) | (have H2_:=(Option.bind_some _ _).symm.trans H;rw [hy449];with_reducible exact H2_) | (have H2_:=(Option.bind_some _ _).symm.trans H;with_reducible exact H2_) | with_reducible exact H | (rw [hy449];exact H) | exact H
               have Ny449:=Aside0.mk hy449
               clear hy449
               simp only [Option.some.injEq,Prod.mk.injEq] at H
               obtain ⟨rfl,rfl,rfl⟩:=H
               go_wp2_with (first | ((with_reducible refine gate_dst (N:=104) rfl ?_);refine Kd.R_lit (Kd.int .u8) _ 5 ?hg (N:=104) ?hd (xs:=([(x8_2) % 256]:List Int)) (inner:=[.int .u8 ((x8_2) % 256)]) (ok:=fun _=>True) (okp:=fun _=>True) ?hr ?hp (fun _ hk=>hk) trivial (Below.refl _ _) (Nat.le_refl _) (by simp) ?_;(case hd=>rfl);(case hg=>rfl);(case hr=>first | (go_simp;done) | (go_simp;rfl));(case hp=>exact (Reps.one (show Kd.M (Kd.int .u8) _ _ _ ((x8_2) % 256) [.int .u8 ((x8_2) % 256)] from rfl) (Reps.none _ _)));intro v450 w45 ho46 hb hg_ hnew_;clear hg_ hnew_;(first | rw [← Ny449.out] at ho46 | (simp only [Int.reduceToNat] at ho46;rw [← Ny449.out] at ho46));have n0_:=Aside0.mk (Kd.R_lower ho46 (below_size (by repeat (first | (with_reducible first | exact HB.out | apply below_alloc | apply pw_below_drewN | apply below_drew1) | exact HB.out))));have n1_:=Aside0.mk (below_step (by repeat (first | (with_reducible first | exact HB.out | apply below_alloc | apply pw_below_drewN | apply below_drew1) | exact HB.out)) hb);clear HB;have HO451:=n0_;have HB:=n1_;clear n0_ n1_;clear hb ho46))
               go_ret3
               exact ⟨_,by first | rfl | (simp [errW_none,errW_some] <;> rfl) | (simp only [← hji4];first | rfl | (simp [errW_none,errW_some] <;> rfl)) | (simp [*,errW_none,errW_some] <;> rfl),by (with_reducible repeat (first | apply Kd.R_alloc | apply Kd.R_drewN | apply Kd.R_drew));exact HO451.out,by repeat (first | (with_reducible first | exact HB.out | apply below_alloc | apply pw_below_drewN | apply below_drew1) | exact HB.out)⟩
   ·rw [if_neg c6] at H
    exact absurd H (by simp)
  ·rw [if_neg c5] at H
   exact absurd H (by simp)
end Go.Proofs.YtjapfefiaijfcaaGreatDoor.Q
