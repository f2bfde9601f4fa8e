/- Go functions as Lean functions, and that each call comes to its Lean function's answer, wherever that is some answer. Written by a program of this session out of the translation. The kind of lent trees: each row has a mark behind it. -/
import Derived.Test.YtjapfefiaijfcaaGreatDoorH5
import Derived.Test.YtjapfefiaijfcaaGreatDoorH13
namespace Go.Proofs.YtjapfefiaijfcaaGreatDoor.Q
open Go.RowKit Go.Proofs.YtjapfefiaijfcaaGreatDoorW.PrintWords Go.Proofs.YtjapfefiaijfcaaGreatDoorW.PrintLast Go.Proofs.YtjapfefiaijfcaaGreatDoorW.PrintMore
attribute [local go_sem] max2_int min2_int max_two min_two max_three min_three max_four min_four
set_option linter.unusedVariables false
set_option linter.unusedSimpArgs false
mutual
def vouchref14_quoted.l0:Nat → ByteArray → Int → List Int → Int → Option (Int × ByteArray × Int × Int × Int × Int)
 | 0,_,_,_,_=>none
 | k + 1,x0,x1,x7,x8=>if x8 < (x0.size:Int) then (if 0 ≤ x8 then (vouchref14_quoted.j1 k x0 x1 x7 x8 ((bt x0 x8) != 10)) else (none)) else (vouchref14_quoted.j1 k x0 x1 x7 x8 false)
def vouchref14_quoted.j1:Nat → ByteArray → Int → List Int → Int → Bool → Option (Int × ByteArray × Int × Int × Int × Int)
 | 0,_,_,_,_,_=>none
 | k + 1,x0,x1,x7,x8,x23=>if x23=true then (if 0 ≤ x8 then (if x8 < (x0.size:Int) then (if (bt x0 x8)=34 then (some (4,strOfNums x7,x1,wrap64 (x8 + 1),0,0)) else (if (bt x0 x8)=92 then ((vouchref14_piece.f k x0 x8).bind fun bt457=>(if bt457.2.2=141 then (some (0,(⟨#[]⟩:ByteArray),0,0,x1,bt457.2.2)) else (if bt457.2.2=0 then (if x7.length + bt457.1.length < 140737488355328 then (vouchref14_quoted.l0 k x0 x1 (x7 ++ bt457.1) bt457.2.1) else (none)) else (some (0,(⟨#[]⟩:ByteArray),0,0,x8,bt457.2.2))))) else (if x7.length < 140737488355328 then (vouchref14_quoted.l0 k x0 x1 (x7 ++ [bt x0 x8]) (wrap64 (x8 + 1))) else (none)))) else (none)) else (none)) else (some (0,(⟨#[]⟩:ByteArray),0,0,x1,141))
end
def vouchref14_quoted.f (k:Nat) (a0:ByteArray) (a1:Int):Option (Int × ByteArray × Int × Int × Int × Int):=vouchref14_quoted.l0 k a0 a1 ([]:List Int) (wrap64 (a1 + 1))
set_option maxHeartbeats 8000000 in
set_option maxRecDepth 100000 in
theorem vouchref14_quoted.calls (k:Nat) (a0:ByteArray) (a1:Int) (r1:Int) (r2:ByteArray) (r3:Int) (r4:Int) (r5:Int) (r6:Int) (w:World) (h:vouchref14_quoted.f k a0 a1=some (r1,r2,r3,r4,r5,r6)) :
  Calls Tryz.prog 85 #[.string a0,.int .i64 a1] w fun e w'=>e = .returned (.tuple #[.agg #[.int .u8 r1,.string r2,.int .i64 r3,.int .i64 r4],.int .i64 r5,.int .i64 r6]) ∧ Below w.heap.size w w':=by
 have hu70:=Tryz.underlying70
 have HB:=Aside0.mk (Below.refl w.heap.size w)
 have H:(vouchref14_quoted.l0 k a0 a1 ([]:List Int) (wrap64 (a1 + 1)))=some (r1,r2,r3,r4,r5,r6):=h
 clear h
 have H':=Aside0.mk H
 clear H
 go_enter Tryz.func85,Tryz.ntmps85
 go_wp2_with (first | ((with_reducible refine gate_dst (N:=4) rfl ?_);refine box_event ?hg (N:=4) ?hd (cs:=#[.int .u8 0,.string (⟨#[]⟩:ByteArray),.int .i64 0,.int .i64 0]) (t:=70) ?hr ?_;(case hd=>rfl);(case hg=>rfl);(case hr=>first | (go_simp;done) | (go_simp;rfl));intro gb453 hg w3 hbox hb;have n0_:=Aside0.mk (below_step (by repeat (first | (with_reducible first | exact HB.out | apply below_alloc | apply pw_below_drewN | apply below_drew1) | exact HB.out)) hb);have n1_:=Aside0.mk (hbox);have n2_:=Aside0.mk ((by rw [hg];exact (below_size (by repeat (first | (with_reducible first | exact HB.out | apply below_alloc | apply pw_below_drewN | apply below_drew1) | exact HB.out))):w.heap.size ≤ gb453));have n3_:=Aside0.mk ((by rw [hg];exact (below_size (by repeat (first | (with_reducible first | exact HB.out | apply below_alloc | apply pw_below_drewN | apply below_drew1) | exact HB.out))):w.heap.size ≤ gb453));clear HB;have HB:=n0_;have BK453:=n1_;have GW453:=n2_;have GE453:=n3_;clear n0_ n1_ n2_ n3_;clear hb hbox hg))
 go_loopg [7,8] k (fun kq v7 v8 w'=>∃ (x7_1:List Int) (x8_1:Int) (x454000_1:Int) (x454001_1:ByteArray) (x454002_1:Int) (x454003_1:Int),v8 = .int .i64 x8_1 ∧ Aside0 (vouchref14_quoted.l0 kq a0 a1 x7_1 x8_1=some (r1,r2,r3,r4,r5,r6)) ∧ Aside0 (kq ≤ k) ∧ Aside0 (Kd.R (Kd.int .u8) 5 w' w.heap.size (fun _=>True) v7 x7_1) ∧ Aside0 (w'.heap[gb453]? = some (.cells #[.int .u8 x454000_1,.string x454001_1,.int .i64 x454002_1,.int .i64 x454003_1] 70 (0,0))) ∧ Aside0 (Below w.heap.size w w'))
 case atStart=>exact ⟨(([]:List Int)),(wrap64 (a1 + 1)),(0),((⟨#[]⟩:ByteArray)),(0),(0),(by first | rfl | (simp;done) | (simp [*];done) | (repeat (first | rfl | (unfold wrap64;omega) | congr 1))),H',⟨Nat.le_refl _⟩,⟨by first | exact Kd.R_nil _ _ _ _ _ | exact Kd.N_nil _ _ _ _ _ | exact Kd.V_nil _ _ _ _ _ | exact Kd.Q_nil _ _ _ _ _ | exact Kd.S_nil _ _ _ _ _⟩,⟨by (with_reducible repeat (first | refine blk_drewN ?_ _ | refine blk_drew ?_ | refine blk_alloc ?_ _));exact BK453.out⟩,⟨by repeat (first | (with_reducible first | exact HB.out | apply below_alloc | apply pw_below_drewN | apply below_drew1 | refine below_set ?_ GE453.out) | exact HB.out)⟩⟩
 case round =>
  clear H'
  try clear p2
  obtain ⟨x7_1,x8_1,x454000_1,x454001_1,x454002_1,x454003_1,rfl,HA,HK1,HO_7,BK453,HB⟩:=hrel
  cases gk with
  | zero=>exact absurd HA.out (by simp [vouchref14_quoted.l0])
  | succ k1 =>
   have H:=HA.out
   clear HA
   simp only [vouchref14_quoted.l0] at H
   have HC4:=Aside0.mk H
   clear H
   go_upto_region 3 with (fail)
   go_cut [23] (fun v23 wc=>∃ (kq:Nat) (x23_3:Bool),v23 = .bool x23_3 ∧ Aside0 (vouchref14_quoted.j1 kq a0 a1 x7_1 x8_1 x23_3=some (r1,r2,r3,r4,r5,r6)) ∧ Aside0 (kq ≤ k1) ∧ Aside0 (Kd.R (Kd.int .u8) 5 wc w.heap.size (fun _=>True) u7 x7_1) ∧ Aside0 (wc.heap[gb453]? = some (.cells #[.int .u8 x454000_1,.string x454001_1,.int .i64 x454002_1,.int .i64 x454003_1] 70 (0,0))) ∧ Aside0 (Below w.heap.size w wc))
   case first =>
    have H:=HC4.out
    clear HC4
    by_cases c5:x8_1 < (a0.size:Int)
    ·rw [if_pos c5] at H
     have c5b0:decide (x8_1 < (a0.size:Int))=true:=decide_eq_true c5
     clear c5
     (first | rw [c5b0] | (simp only [i64_w,i32_w];rw [c5b0]) | skip)
     by_cases c6:0 ≤ x8_1
     ·rw [if_pos c6] at H
      have c6b0:decide (0 ≤ x8_1)=true:=decide_eq_true c6
      clear c6
      have H':=Aside0.mk H
      clear H
      have p7:0 ≤ (x8_1:Int):=of_decide_eq_true (by first | (with_reducible assumption) | assumption)
      have q7:x8_1 < (a0.size:Int):=of_decide_eq_true (by first | (with_reducible assumption) | assumption)
      have hx7:=bt_at a0 x8_1
      replace p7:=eq_true p7
      replace q7:=eq_true q7
      go_wp2
      go_meet
      case rel=>exact ⟨_,(((bt a0 x8_1) != 10)),(by first | rfl | (simp;done) | (simp [*];done) | (repeat (first | rfl | (unfold wrap64;omega) | congr 1))),H',⟨by have:=HK1.out;first | omega | exact Nat.le_refl _⟩,⟨by (with_reducible repeat (first | apply Kd.R_alloc | apply Kd.R_drewN | apply Kd.R_drew));exact HO_7.out⟩,⟨by (with_reducible repeat (first | refine blk_drewN ?_ _ | refine blk_drew ?_ | refine blk_alloc ?_ _));exact BK453.out⟩,⟨by repeat (first | (with_reducible first | exact HB.out | apply below_alloc | apply pw_below_drewN | apply below_drew1 | refine below_set ?_ GE453.out) | exact HB.out)⟩⟩
     ·rw [if_neg c6] at H
      exact absurd H (by simp)
    ·rw [if_neg c5] at H
     have c5b0:decide (x8_1 < (a0.size:Int))=false:=decide_eq_false c5
     clear c5
     (first | rw [c5b0] | (simp only [i64_w,i32_w];rw [c5b0]) | skip)
     have H':=Aside0.mk H
     clear H
     go_wp2
     go_meet
     case rel=>exact ⟨_,(false),(by first | rfl | (simp;done) | (simp [*];done) | (repeat (first | rfl | (unfold wrap64;omega) | congr 1))),H',⟨by have:=HK1.out;first | omega | exact Nat.le_refl _⟩,⟨by (with_reducible repeat (first | apply Kd.R_alloc | apply Kd.R_drewN | apply Kd.R_drew));exact HO_7.out⟩,⟨by (with_reducible repeat (first | refine blk_drewN ?_ _ | refine blk_drew ?_ | refine blk_alloc ?_ _));exact BK453.out⟩,⟨by repeat (first | (with_reducible first | exact HB.out | apply below_alloc | apply pw_below_drewN | apply below_drew1 | refine below_set ?_ GE453.out) | exact HB.out)⟩⟩
   case rest =>
    clear HC4
    try clear p2
    try clear c5
    try clear c5b0
    try clear c6
    try clear c6b0
    try clear p6
    try clear p7
    try clear q7
    try clear hx7
    try clear p2
    try clear p7
    try clear q7
    obtain ⟨kq,x23_3,rfl,HA,HJ3,HO_7,BK453,HB⟩:=hcut
    cases kq with
    | zero=>exact absurd HA.out (by simp [vouchref14_quoted.j1])
    | succ kj3 =>
     have H:=HA.out
     clear HA
     simp only [vouchref14_quoted.j1] at H
     by_cases c8:x23_3=true
     ·subst c8
      have H1:(if 0 ≤ x8_1 then (if x8_1 < (a0.size:Int) then (if (bt a0 x8_1)=34 then (some (4,strOfNums x7_1,a1,wrap64 (x8_1 + 1),0,0)) else (if (bt a0 x8_1)=92 then ((vouchref14_piece.f kj3 a0 x8_1).bind fun bt457=>(if bt457.2.2=141 then (some (0,(⟨#[]⟩:ByteArray),0,0,a1,bt457.2.2)) else (if bt457.2.2=0 then (if x7_1.length + bt457.1.length < 140737488355328 then (vouchref14_quoted.l0 kj3 a0 a1 (x7_1 ++ bt457.1) bt457.2.1) else (none)) else (some (0,(⟨#[]⟩:ByteArray),0,0,x8_1,bt457.2.2))))) else (if x7_1.length < 140737488355328 then (vouchref14_quoted.l0 kj3 a0 a1 (x7_1 ++ [bt a0 x8_1]) (wrap64 (x8_1 + 1))) else (none)))) else (none)) else (none))=some (r1,r2,r3,r4,r5,r6):=by rw [if_pos rfl] at H;exact H
      clear H
      have H:=H1
      clear H1
      by_cases c9:0 ≤ x8_1
      ·rw [if_pos c9] at H
       have c9b0:decide (0 ≤ x8_1)=true:=decide_eq_true c9
       clear c9
       by_cases c10:x8_1 < (a0.size:Int)
       ·rw [if_pos c10] at H
        have c10b0:decide (x8_1 < (a0.size:Int))=true:=decide_eq_true c10
        clear c10
        by_cases c12:(bt a0 x8_1)=34
        ·rw [if_pos c12] at H
         have c12b0:((bt a0 x8_1) == 34)=true:=beq_iff_eq.mpr c12
         have c12b1:((bt a0 x8_1) != 34)=false:=bne_eq_false_iff_eq.mpr c12
         clear c12
         simp only [Option.some.injEq,Prod.mk.injEq] at H
         obtain ⟨rfl,rfl,rfl,rfl,rfl,rfl⟩:=H
         have p11:0 ≤ (x8_1:Int):=of_decide_eq_true (by first | (with_reducible assumption) | assumption)
         have q11:x8_1 < (a0.size:Int):=of_decide_eq_true (by first | (with_reducible assumption) | assumption)
         have hx11:=bt_at a0 x8_1
         replace p11:=eq_true p11
         replace q11:=eq_true q11
         have hcv13:=own_string (P:=Tryz.prog) Tryz.underlying48 Tryz.underlying5 Tryz.underlying9 (Kd.own_of_R HO_7.out)
         have hcz14_0:wc.cell? ⟨gb453,0,none⟩=some (.int .u8 x454000_1):=(blk_cell BK453.out 0).trans rfl
         have hcz14_1:wc.cell? ⟨gb453,1,none⟩=some (.string x454001_1):=(blk_cell BK453.out 1).trans rfl
         have hcz14_2:wc.cell? ⟨gb453,2,none⟩=some (.int .i64 x454002_1):=(blk_cell BK453.out 2).trans rfl
         have hcz14_3:wc.cell? ⟨gb453,3,none⟩=some (.int .i64 x454003_1):=(blk_cell BK453.out 3).trans rfl
         have hfz14_0:=blk_frozen BK453.out 0
         have hfz14_1:=blk_frozen BK453.out 1
         have hfz14_2:=blk_frozen BK453.out 2
         have hfz14_3:=blk_frozen BK453.out 3
         go_wp2
         refine bodyPost_ret (results_ctt rfl _ _ gb453 70 #[.int .u8 4,.string (strOfNums x7_1),.int .i64 a1,.int .i64 (wrap64 (x8_1 + 1))] (0,0) _ rfl (by (with_reducible repeat (first | refine blk_drewN ?_ _ | refine blk_drew ?_ | refine blk_alloc ?_ _));refine blk_put (cs:=#[.int .u8 4,.string (strOfNums x7_1),.int .i64 a1,.int .i64 x454003_1]) ?_ 3 _ rfl;(with_reducible repeat (first | refine blk_drewN ?_ _ | refine blk_drew ?_ | refine blk_alloc ?_ _));refine blk_put (cs:=#[.int .u8 4,.string (strOfNums x7_1),.int .i64 x454002_1,.int .i64 x454003_1]) ?_ 2 _ rfl;(with_reducible repeat (first | refine blk_drewN ?_ _ | refine blk_drew ?_ | refine blk_alloc ?_ _));refine blk_put (cs:=#[.int .u8 4,.string x454001_1,.int .i64 x454002_1,.int .i64 x454003_1]) ?_ 1 _ rfl;(with_reducible repeat (first | refine blk_drewN ?_ _ | refine blk_drew ?_ | refine blk_alloc ?_ _));refine blk_put (cs:=#[.int .u8 x454000_1,.string x454001_1,.int .i64 x454002_1,.int .i64 x454003_1]) ?_ 0 _ rfl;(with_reducible repeat (first | refine blk_drewN ?_ _ | refine blk_drew ?_ | refine blk_alloc ?_ _));exact BK453.out) Tryz.underlying70 rfl (by kernel_rfl)) rfl ?_
         exact ⟨by first | rfl | (simp [errW_none,errW_some] <;> rfl) | (simp [*,errW_none,errW_some] <;> rfl),by repeat (first | (with_reducible first | exact HB.out | apply below_alloc | apply pw_below_drewN | apply below_drew1 | refine below_set ?_ GE453.out) | exact HB.out)⟩
        ·rw [if_neg c12] at H
         have c12b0:((bt a0 x8_1) == 34)=false:=beq_eq_false_iff_ne.mpr c12
         have c12b1:((bt a0 x8_1) != 34)=true:=bne_iff_ne.mpr c12
         by_cases c16:(bt a0 x8_1)=92
         ·rw [if_pos c16] at H
          have c16b0:((bt a0 x8_1) == 92)=true:=beq_iff_eq.mpr c16
          have c16b1:((bt a0 x8_1) != 92)=false:=bne_eq_false_iff_eq.mpr c16
          clear c16
          replace H:=Option.bind_eq_some_iff.mp H
          obtain ⟨⟨t457,t458,t459⟩,A170,H⟩:=H
          replace H:(if t459=141 then (some (0,(⟨#[]⟩:ByteArray),0,0,a1,t459)) else (if t459=0 then (if x7_1.length + t457.length < 140737488355328 then (vouchref14_quoted.l0 kj3 a0 a1 (x7_1 ++ t457) t458) else (none)) else (some (0,(⟨#[]⟩:ByteArray),0,0,x8_1,t459))))=some (r1,r2,r3,r4,r5,r6):=H
          have A17:=Aside0.mk A170
          clear A170
          by_cases c18:t459=141
          ·rw [if_pos c18] at H
           have c18b0:(t459 == 141)=true:=beq_iff_eq.mpr c18
           have c18b1:(t459 != 141)=false:=bne_eq_false_iff_eq.mpr c18
           clear c18
           simp only [Option.some.injEq,Prod.mk.injEq] at H
           obtain ⟨rfl,rfl,rfl,rfl,rfl,rfl⟩:=H
           have p11:0 ≤ (x8_1:Int):=of_decide_eq_true (by first | (with_reducible assumption) | assumption)
           have q11:x8_1 < (a0.size:Int):=of_decide_eq_true (by first | (with_reducible assumption) | assumption)
           have hx11:=bt_at a0 x8_1
           replace p11:=eq_true p11
           replace q11:=eq_true q11
           have p15:0 ≤ (x8_1:Int):=of_decide_eq_true (by first | (with_reducible assumption) | assumption)
           have q15:x8_1 < (a0.size:Int):=of_decide_eq_true (by first | (with_reducible assumption) | assumption)
           have hx15:=bt_at a0 x8_1
           replace p15:=eq_true p15
           replace q15:=eq_true q15
           go_wp2_with (first | ((with_reducible refine gate_callee (f:=110) rfl ?_);refine goesL_ (some 49) rfl rfl Tryz.func110 (by kernel_rfl) rfl #[.string a0,.int .i64 x8_1] rfl (by (try simp only [List.map_toArray,List.map_cons,List.map_nil]);first | done | rfl | (simp only [List.length_drop,List.length_take];rfl)) ?_;(with_reducible refine (vouchref14_piece.calls kj3 a0 x8_1 t457 t458 t459 _ A17.out).mono ?_);rintro e w19 ⟨v460,rfl,ho0,hb⟩;refine ⟨_,rfl,?_⟩;have n0_:=Aside0.mk (Kd.R_elder' (by (with_reducible repeat (first | apply Kd.R_alloc | apply Kd.R_drewN | apply Kd.R_drew));exact HO_7.out) (Kd.R_base ho0) hb);have n1_:=Aside0.mk (Kd.R_lower (Kd.R_new' ho0 (Kd.R_lt (by (with_reducible repeat (first | apply Kd.R_alloc | apply Kd.R_drewN | apply Kd.R_drew));exact HO_7.out))) (below_size (by repeat (first | (with_reducible first | exact HB.out | apply below_alloc | apply pw_below_drewN | apply below_drew1 | refine below_set ?_ GE453.out) | exact HB.out))));have n2_:=Aside0.mk (blk_below (g:=gb453) (o:=.cells #[.int .u8 x454000_1,.string x454001_1,.int .i64 x454002_1,.int .i64 x454003_1] 70 (0,0)) (by (with_reducible repeat (first | refine blk_drewN ?_ _ | refine blk_drew ?_ | refine blk_alloc ?_ _));exact BK453.out) hb);have n3_:=Aside0.mk (below_step (by repeat (first | (with_reducible first | exact HB.out | apply below_alloc | apply pw_below_drewN | apply below_drew1 | refine below_set ?_ GE453.out) | exact HB.out)) hb);clear HO_7;clear BK453;clear HB;have HO_7:=n0_;have HO461:=n1_;have BK453:=n2_;have HB:=n3_;clear n0_ n1_ n2_ n3_;(try clear hb);(try clear hb2);(try clear hk);(try clear hi);(try clear ho0);have hcz20_0:w19.cell? ⟨gb453,0,none⟩=some (.int .u8 x454000_1):=(blk_cell BK453.out 0).trans rfl;have hcz20_1:w19.cell? ⟨gb453,1,none⟩=some (.string x454001_1):=(blk_cell BK453.out 1).trans rfl;have hcz20_2:w19.cell? ⟨gb453,2,none⟩=some (.int .i64 x454002_1):=(blk_cell BK453.out 2).trans rfl;have hcz20_3:w19.cell? ⟨gb453,3,none⟩=some (.int .i64 x454003_1):=(blk_cell BK453.out 3).trans rfl;have hfz20_0:=blk_frozen BK453.out 0;have hfz20_1:=blk_frozen BK453.out 1;have hfz20_2:=blk_frozen BK453.out 2;have hfz20_3:=blk_frozen BK453.out 3))
           refine bodyPost_ret (results_ctt rfl _ _ gb453 70 #[.int .u8 0,.string (⟨#[]⟩:ByteArray),.int .i64 0,.int .i64 0] (0,0) _ rfl (by (with_reducible repeat (first | refine blk_drewN ?_ _ | refine blk_drew ?_ | refine blk_alloc ?_ _));refine blk_put (cs:=#[.int .u8 0,.string (⟨#[]⟩:ByteArray),.int .i64 0,.int .i64 x454003_1]) ?_ 3 _ rfl;(with_reducible repeat (first | refine blk_drewN ?_ _ | refine blk_drew ?_ | refine blk_alloc ?_ _));refine blk_put (cs:=#[.int .u8 0,.string (⟨#[]⟩:ByteArray),.int .i64 x454002_1,.int .i64 x454003_1]) ?_ 2 _ rfl;(with_reducible repeat (first | refine blk_drewN ?_ _ | refine blk_drew ?_ | refine blk_alloc ?_ _));refine blk_put (cs:=#[.int .u8 0,.string x454001_1,.int .i64 x454002_1,.int .i64 x454003_1]) ?_ 1 _ rfl;(with_reducible repeat (first | refine blk_drewN ?_ _ | refine blk_drew ?_ | refine blk_alloc ?_ _));refine blk_put (cs:=#[.int .u8 x454000_1,.string x454001_1,.int .i64 x454002_1,.int .i64 x454003_1]) ?_ 0 _ rfl;(with_reducible repeat (first | refine blk_drewN ?_ _ | refine blk_drew ?_ | refine blk_alloc ?_ _));exact BK453.out) Tryz.underlying70 rfl (by kernel_rfl)) rfl ?_
           exact ⟨by first | rfl | (simp [errW_none,errW_some] <;> rfl) | (simp [*,errW_none,errW_some] <;> rfl),by repeat (first | (with_reducible first | exact HB.out | apply below_alloc | apply pw_below_drewN | apply below_drew1 | refine below_set ?_ GE453.out) | exact HB.out)⟩
          ·rw [if_neg c18] at H
           have c18b0:(t459 == 141)=false:=beq_eq_false_iff_ne.mpr c18
           have c18b1:(t459 != 141)=true:=bne_iff_ne.mpr c18
           by_cases c21:t459=0
           ·rw [if_pos c21] at H
            have c21b0:(t459 == 0)=true:=beq_iff_eq.mpr c21
            have c21b1:(t459 != 0)=false:=bne_eq_false_iff_eq.mpr c21
            clear c21
            by_cases c22:x7_1.length + t457.length < 140737488355328
            ·rw [if_pos c22] at H
             have LMc22:=Aside0.mk c22
             clear c22
             obtain ⟨y462,hy462⟩:∃ y_:List Int,y_=(x7_1 ++ t457):=⟨_,rfl⟩
             replace H:(vouchref14_quoted.l0 kj3 a0 a1 y462 t458)=some (r1,r2,r3,r4,r5,r6):=by first | (rw [hy462];with_reducible exact H) | (have H2_:=(Option.bind_some _ _).symm.trans H;rw [hy462];with_reducible exact H2_) | (have H2_:=(Option.bind_some _ _).symm.trans H;with_reducible exact H2_) | with_reducible exact H | (rw [hy462];exact H) | exact H
             have Ny462:=Aside0.mk hy462
             clear hy462
             have H':=Aside0.mk H
             clear H
             have p11:0 ≤ (x8_1:Int):=of_decide_eq_true (by first | (with_reducible assumption) | assumption)
             have q11:x8_1 < (a0.size:Int):=of_decide_eq_true (by first | (with_reducible assumption) | assumption)
             have hx11:=bt_at a0 x8_1
             replace p11:=eq_true p11
             replace q11:=eq_true q11
             have p15:0 ≤ (x8_1:Int):=of_decide_eq_true (by first | (with_reducible assumption) | assumption)
             have q15:x8_1 < (a0.size:Int):=of_decide_eq_true (by first | (with_reducible assumption) | assumption)
             have hx15:=bt_at a0 x8_1
             replace p15:=eq_true p15
             replace q15:=eq_true q15
             go_wp2_with (first | ((with_reducible refine gate_callee (f:=110) rfl ?_);refine goesL_ (some 49) rfl rfl Tryz.func110 (by kernel_rfl) rfl #[.string a0,.int .i64 x8_1] rfl (by (try simp only [List.map_toArray,List.map_cons,List.map_nil]);first | done | rfl | (simp only [List.length_drop,List.length_take];rfl)) ?_;(with_reducible refine (vouchref14_piece.calls kj3 a0 x8_1 t457 t458 t459 _ A17.out).mono ?_);rintro e w23 ⟨v460,rfl,ho0,hb⟩;refine ⟨_,rfl,?_⟩;have n0_:=Aside0.mk (Kd.R_elder' (by (with_reducible repeat (first | apply Kd.R_alloc | apply Kd.R_drewN | apply Kd.R_drew));exact HO_7.out) (Kd.R_base ho0) hb);have n1_:=Aside0.mk (Kd.R_lower (Kd.R_new' ho0 (Kd.R_lt (by (with_reducible repeat (first | apply Kd.R_alloc | apply Kd.R_drewN | apply Kd.R_drew));exact HO_7.out))) (below_size (by repeat (first | (with_reducible first | exact HB.out | apply below_alloc | apply pw_below_drewN | apply below_drew1 | refine below_set ?_ GE453.out) | exact HB.out))));have n2_:=Aside0.mk (blk_below (g:=gb453) (o:=.cells #[.int .u8 x454000_1,.string x454001_1,.int .i64 x454002_1,.int .i64 x454003_1] 70 (0,0)) (by (with_reducible repeat (first | refine blk_drewN ?_ _ | refine blk_drew ?_ | refine blk_alloc ?_ _));exact BK453.out) hb);have n3_:=Aside0.mk (below_step (by repeat (first | (with_reducible first | exact HB.out | apply below_alloc | apply pw_below_drewN | apply below_drew1 | refine below_set ?_ GE453.out) | exact HB.out)) hb);clear HO_7;clear BK453;clear HB;have HO_7:=n0_;have HO461:=n1_;have BK453:=n2_;have HB:=n3_;clear n0_ n1_ n2_ n3_;(try clear hb);(try clear hb2);(try clear hk);(try clear hi);(try clear ho0);obtain ⟨Ao25,co25,eo25⟩:=Kd.R_slice HO461.out;subst eo25) | ((with_reducible refine gate_builtin (b:=.append) (xs:=#[.tmp 63,.tmp 64]) rfl ?_);at_builtin;refine Kd.R_append_rows (Kd.int .u8) (w0:=w) w.heap.size rfl (.tmp 63) (.tmp 64) 48 5 (.int .u8 0) 1 rfl Tryz.underlying48 info5 rfl (by decide) (by omega) u7 x7_1 t457 _ _ _ (fun k_=>some k_ ≠ (.slice Ao25 t457.length co25:Value).ownBlock) (fun _=>False) rfl rfl ?aO ?aR (fun _ _ h=>h) (fun _ h=>h.elim) ?aF ?aB ?aS ?aL ?_;(case aR=>repeat (first | exact (Kd.R_reads' HO461.out).2.2 | (with_reducible refine Kd.C_alloc ?_ _) | (with_reducible refine Kd.C_drewN ?_ _) | (with_reducible refine Kd.C_drew ?_)));(case aB=>exact (by repeat (first | (with_reducible first | exact HB.out | apply below_alloc | apply pw_below_drewN | apply below_drew1 | refine below_set ?_ GE453.out) | exact HB.out)));(case aF=>exact (fun k_ hk=>Kd.fresh' (Kd.R_lt (by (with_reducible repeat (first | apply Kd.R_alloc | apply Kd.R_drewN | apply Kd.R_drew));exact HO461.out)) k_ hk));(case aO=>exact (by (with_reducible repeat (first | apply Kd.R_alloc | apply Kd.R_drewN | apply Kd.R_drew));exact Kd.R_mono HO_7.out (fun _ hk=>hk.2)));(case aS=>exact (below_size (by repeat (first | (with_reducible first | exact HB.out | apply below_alloc | apply pw_below_drewN | apply below_drew1 | refine below_set ?_ GE453.out) | exact HB.out))));(case aL=>have:=LMc22.out;omega);intro v463 w24 ho hb hg hat;rw [← Ny462.out] at ho;have n0_:=Aside0.mk (blk_grown (g:=gb453) (o:=.cells #[.int .u8 x454000_1,.string x454001_1,.int .i64 x454002_1,.int .i64 x454003_1] 70 (0,0)) (by (with_reducible repeat (first | refine blk_drewN ?_ _ | refine blk_drew ?_ | refine blk_alloc ?_ _));exact BK453.out) hg (Kd.R_ne HO_7.out BK453.out (by decide)));have n1_:=Aside0.mk (Kd.R_after (ok:=(fun _=>True)) (by (with_reducible repeat (first | apply Kd.R_alloc | apply Kd.R_drewN | apply Kd.R_drew));exact HO461.out) hg hat);have n2_:=Aside0.mk (hb);have n3_:=Aside0.mk (ho);clear BK453;clear HO461;clear HB;clear HO_7;have BK453:=n0_;have HO461:=n1_;have HB:=n2_;have HO464:=n3_;clear n0_ n1_ n2_ n3_;clear ho hb hg hat))
             go_roundg kj3
             case measure=>have:=HK1.out;have:=HJ3.out;omega
             case rel=>exact ⟨(y462),(t458),(x454000_1),(x454001_1),(x454002_1),(x454003_1),(by first | rfl | (simp;done) | (simp [*];done) | (repeat (first | rfl | (unfold wrap64;omega) | congr 1))),H',⟨by have:=HK1.out;have:=HJ3.out;omega⟩,⟨by (with_reducible repeat (first | apply Kd.R_alloc | apply Kd.R_drewN | apply Kd.R_drew));exact Kd.R_mono HO464.out (fun _ hk=>trivial)⟩,⟨by (with_reducible repeat (first | refine blk_drewN ?_ _ | refine blk_drew ?_ | refine blk_alloc ?_ _));exact BK453.out⟩,⟨by repeat (first | (with_reducible first | exact HB.out | apply below_alloc | apply pw_below_drewN | apply below_drew1 | refine below_set ?_ GE453.out) | exact HB.out)⟩⟩
            ·rw [if_neg c22] at H
             exact absurd H (by simp)
           ·rw [if_neg c21] at H
            have c21b0:(t459 == 0)=false:=beq_eq_false_iff_ne.mpr c21
            have c21b1:(t459 != 0)=true:=bne_iff_ne.mpr c21
            simp only [Option.some.injEq,Prod.mk.injEq] at H
            obtain ⟨rfl,rfl,rfl,rfl,rfl,rfl⟩:=H
            have p11:0 ≤ (x8_1:Int):=of_decide_eq_true (by first | (with_reducible assumption) | assumption)
            have q11:x8_1 < (a0.size:Int):=of_decide_eq_true (by first | (with_reducible assumption) | assumption)
            have hx11:=bt_at a0 x8_1
            replace p11:=eq_true p11
            replace q11:=eq_true q11
            have p15:0 ≤ (x8_1:Int):=of_decide_eq_true (by first | (with_reducible assumption) | assumption)
            have q15:x8_1 < (a0.size:Int):=of_decide_eq_true (by first | (with_reducible assumption) | assumption)
            have hx15:=bt_at a0 x8_1
            replace p15:=eq_true p15
            replace q15:=eq_true q15
            go_wp2_with (first | ((with_reducible refine gate_callee (f:=110) rfl ?_);refine goesL_ (some 49) rfl rfl Tryz.func110 (by kernel_rfl) rfl #[.string a0,.int .i64 x8_1] rfl (by (try simp only [List.map_toArray,List.map_cons,List.map_nil]);first | done | rfl | (simp only [List.length_drop,List.length_take];rfl)) ?_;(with_reducible refine (vouchref14_piece.calls kj3 a0 x8_1 t457 t458 t459 _ A17.out).mono ?_);rintro e w26 ⟨v460,rfl,ho0,hb⟩;refine ⟨_,rfl,?_⟩;have n0_:=Aside0.mk (Kd.R_elder' (by (with_reducible repeat (first | apply Kd.R_alloc | apply Kd.R_drewN | apply Kd.R_drew));exact HO_7.out) (Kd.R_base ho0) hb);have n1_:=Aside0.mk (Kd.R_lower (Kd.R_new' ho0 (Kd.R_lt (by (with_reducible repeat (first | apply Kd.R_alloc | apply Kd.R_drewN | apply Kd.R_drew));exact HO_7.out))) (below_size (by repeat (first | (with_reducible first | exact HB.out | apply below_alloc | apply pw_below_drewN | apply below_drew1 | refine below_set ?_ GE453.out) | exact HB.out))));have n2_:=Aside0.mk (blk_below (g:=gb453) (o:=.cells #[.int .u8 x454000_1,.string x454001_1,.int .i64 x454002_1,.int .i64 x454003_1] 70 (0,0)) (by (with_reducible repeat (first | refine blk_drewN ?_ _ | refine blk_drew ?_ | refine blk_alloc ?_ _));exact BK453.out) hb);have n3_:=Aside0.mk (below_step (by repeat (first | (with_reducible first | exact HB.out | apply below_alloc | apply pw_below_drewN | apply below_drew1 | refine below_set ?_ GE453.out) | exact HB.out)) hb);clear HO_7;clear BK453;clear HB;have HO_7:=n0_;have HO461:=n1_;have BK453:=n2_;have HB:=n3_;clear n0_ n1_ n2_ n3_;(try clear hb);(try clear hb2);(try clear hk);(try clear hi);(try clear ho0);have hcz27_0:w26.cell? ⟨gb453,0,none⟩=some (.int .u8 x454000_1):=(blk_cell BK453.out 0).trans rfl;have hcz27_1:w26.cell? ⟨gb453,1,none⟩=some (.string x454001_1):=(blk_cell BK453.out 1).trans rfl;have hcz27_2:w26.cell? ⟨gb453,2,none⟩=some (.int .i64 x454002_1):=(blk_cell BK453.out 2).trans rfl;have hcz27_3:w26.cell? ⟨gb453,3,none⟩=some (.int .i64 x454003_1):=(blk_cell BK453.out 3).trans rfl;have hfz27_0:=blk_frozen BK453.out 0;have hfz27_1:=blk_frozen BK453.out 1;have hfz27_2:=blk_frozen BK453.out 2;have hfz27_3:=blk_frozen BK453.out 3))
            refine bodyPost_ret (results_ctt rfl _ _ gb453 70 #[.int .u8 0,.string (⟨#[]⟩:ByteArray),.int .i64 0,.int .i64 0] (0,0) _ rfl (by (with_reducible repeat (first | refine blk_drewN ?_ _ | refine blk_drew ?_ | refine blk_alloc ?_ _));refine blk_put (cs:=#[.int .u8 0,.string (⟨#[]⟩:ByteArray),.int .i64 0,.int .i64 x454003_1]) ?_ 3 _ rfl;(with_reducible repeat (first | refine blk_drewN ?_ _ | refine blk_drew ?_ | refine blk_alloc ?_ _));refine blk_put (cs:=#[.int .u8 0,.string (⟨#[]⟩:ByteArray),.int .i64 x454002_1,.int .i64 x454003_1]) ?_ 2 _ rfl;(with_reducible repeat (first | refine blk_drewN ?_ _ | refine blk_drew ?_ | refine blk_alloc ?_ _));refine blk_put (cs:=#[.int .u8 0,.string x454001_1,.int .i64 x454002_1,.int .i64 x454003_1]) ?_ 1 _ rfl;(with_reducible repeat (first | refine blk_drewN ?_ _ | refine blk_drew ?_ | refine blk_alloc ?_ _));refine blk_put (cs:=#[.int .u8 x454000_1,.string x454001_1,.int .i64 x454002_1,.int .i64 x454003_1]) ?_ 0 _ rfl;(with_reducible repeat (first | refine blk_drewN ?_ _ | refine blk_drew ?_ | refine blk_alloc ?_ _));exact BK453.out) Tryz.underlying70 rfl (by kernel_rfl)) rfl ?_
            exact ⟨by first | rfl | (simp [errW_none,errW_some] <;> rfl) | (simp [*,errW_none,errW_some] <;> rfl),by repeat (first | (with_reducible first | exact HB.out | apply below_alloc | apply pw_below_drewN | apply below_drew1 | refine below_set ?_ GE453.out) | exact HB.out)⟩
         ·rw [if_neg c16] at H
          have c16b0:((bt a0 x8_1) == 92)=false:=beq_eq_false_iff_ne.mpr c16
          have c16b1:((bt a0 x8_1) != 92)=true:=bne_iff_ne.mpr c16
          by_cases c29:x7_1.length < 140737488355328
          ·rw [if_pos c29] at H
           have LMc29:=Aside0.mk c29
           clear c29
           obtain ⟨y454,hy454⟩:∃ y_:List Int,y_=(x7_1 ++ [bt a0 x8_1]):=⟨_,rfl⟩
           replace H:(vouchref14_quoted.l0 kj3 a0 a1 y454 (wrap64 (x8_1 + 1)))=some (r1,r2,r3,r4,r5,r6):=by first | (rw [hy454];with_reducible exact H) | (have H2_:=(Option.bind_some _ _).symm.trans H;rw [hy454];with_reducible exact H2_) | (have H2_:=(Option.bind_some _ _).symm.trans H;with_reducible exact H2_) | with_reducible exact H | (rw [hy454];exact H) | exact H
           have Ny454:=Aside0.mk hy454
           clear hy454
           have H':=Aside0.mk H
           clear H
           have p11:0 ≤ (x8_1:Int):=of_decide_eq_true (by first | (with_reducible assumption) | assumption)
           have q11:x8_1 < (a0.size:Int):=of_decide_eq_true (by first | (with_reducible assumption) | assumption)
           have hx11:=bt_at a0 x8_1
           replace p11:=eq_true p11
           replace q11:=eq_true q11
           have p15:0 ≤ (x8_1:Int):=of_decide_eq_true (by first | (with_reducible assumption) | assumption)
           have q15:x8_1 < (a0.size:Int):=of_decide_eq_true (by first | (with_reducible assumption) | assumption)
           have hx15:=bt_at a0 x8_1
           replace p15:=eq_true p15
           replace q15:=eq_true q15
           have p28:0 ≤ (x8_1:Int):=of_decide_eq_true (by first | (with_reducible assumption) | assumption)
           have q28:x8_1 < (a0.size:Int):=of_decide_eq_true (by first | (with_reducible assumption) | assumption)
           have hx28:=bt_at a0 x8_1
           replace p28:=eq_true p28
           replace q28:=eq_true q28
           go_wp2_with (first | ((with_reducible refine gate_builtin (b:=.append) (xs:=#[.tmp 38,.tmp 42]) rfl ?_);at_builtin;refine Kd.R_append (Kd.int .u8) (w0:=w) w.heap.size rfl (.tmp 38) (.tmp 42) 48 5 (.int .u8 0) 1 rfl Tryz.underlying48 info5 rfl (by decide) (by omega) u7 x7_1 (bt a0 x8_1) [.int .u8 (bt a0 x8_1)] (fun _=>True) (fun _=>False) rfl rfl ?aP (fun _ hk=>hk.elim) ?aF ?aO ?aB ?aS ?aL ?_;(case aP=>exact rfl);(case aB=>exact (by repeat (first | (with_reducible first | exact HB.out | apply below_alloc | apply pw_below_drewN | apply below_drew1 | refine below_set ?_ GE453.out) | exact HB.out)));(case aF=>exact (fun _ _=>trivial));(case aO=>exact (by (with_reducible repeat (first | apply Kd.R_alloc | apply Kd.R_drewN | apply Kd.R_drew));exact HO_7.out));(case aS=>exact (below_size (by repeat (first | (with_reducible first | exact HB.out | apply below_alloc | apply pw_below_drewN | apply below_drew1 | refine below_set ?_ GE453.out) | exact HB.out))));(case aL=>have:=LMc29.out;omega);intro v455 w30 ho hb hg hat;rw [← Ny454.out] at ho;have n0_:=Aside0.mk (blk_grown (g:=gb453) (o:=.cells #[.int .u8 x454000_1,.string x454001_1,.int .i64 x454002_1,.int .i64 x454003_1] 70 (0,0)) (by (with_reducible repeat (first | refine blk_drewN ?_ _ | refine blk_drew ?_ | refine blk_alloc ?_ _));exact BK453.out) hg (Kd.R_ne HO_7.out BK453.out (by decide)));have n1_:=Aside0.mk (hb);have n2_:=Aside0.mk (ho);clear BK453;clear HB;clear HO_7;have BK453:=n0_;have HB:=n1_;have HO456:=n2_;clear n0_ n1_ n2_;clear ho hb hg hat))
           go_roundg kj3
           case measure=>have:=HK1.out;have:=HJ3.out;omega
           case rel=>exact ⟨(y454),(wrap64 (x8_1 + 1)),(x454000_1),(x454001_1),(x454002_1),(x454003_1),(by first | rfl | (simp;done) | (simp [*];done) | (repeat (first | rfl | (unfold wrap64;omega) | congr 1))),H',⟨by have:=HK1.out;have:=HJ3.out;omega⟩,⟨by (with_reducible repeat (first | apply Kd.R_alloc | apply Kd.R_drewN | apply Kd.R_drew));exact HO456.out⟩,⟨by (with_reducible repeat (first | refine blk_drewN ?_ _ | refine blk_drew ?_ | refine blk_alloc ?_ _));exact BK453.out⟩,⟨by repeat (first | (with_reducible first | exact HB.out | apply below_alloc | apply pw_below_drewN | apply below_drew1 | refine below_set ?_ GE453.out) | exact HB.out)⟩⟩
          ·rw [if_neg c29] at H
           exact absurd H (by simp)
       ·rw [if_neg c10] at H
        exact absurd H (by simp)
      ·rw [if_neg c9] at H
       exact absurd H (by simp)
     ·replace c8:=Bool.eq_false_iff.mpr c8
      subst c8
      have H1:(some (0,(⟨#[]⟩:ByteArray),0,0,a1,141))=some (r1,r2,r3,r4,r5,r6):=by rw [if_neg (show ¬ (false=true) by decide)] at H;exact H
      clear H
      have H:=H1
      clear H1
      simp only [Option.some.injEq,Prod.mk.injEq] at H
      obtain ⟨rfl,rfl,rfl,rfl,rfl,rfl⟩:=H
      have hcz31_0:wc.cell? ⟨gb453,0,none⟩=some (.int .u8 x454000_1):=(blk_cell BK453.out 0).trans rfl
      have hcz31_1:wc.cell? ⟨gb453,1,none⟩=some (.string x454001_1):=(blk_cell BK453.out 1).trans rfl
      have hcz31_2:wc.cell? ⟨gb453,2,none⟩=some (.int .i64 x454002_1):=(blk_cell BK453.out 2).trans rfl
      have hcz31_3:wc.cell? ⟨gb453,3,none⟩=some (.int .i64 x454003_1):=(blk_cell BK453.out 3).trans rfl
      have hfz31_0:=blk_frozen BK453.out 0
      have hfz31_1:=blk_frozen BK453.out 1
      have hfz31_2:=blk_frozen BK453.out 2
      have hfz31_3:=blk_frozen BK453.out 3
      go_wp2
      refine bodyPost_ret (results_ctt rfl _ _ gb453 70 #[.int .u8 0,.string (⟨#[]⟩:ByteArray),.int .i64 0,.int .i64 0] (0,0) _ rfl (by (with_reducible repeat (first | refine blk_drewN ?_ _ | refine blk_drew ?_ | refine blk_alloc ?_ _));refine blk_put (cs:=#[.int .u8 0,.string (⟨#[]⟩:ByteArray),.int .i64 0,.int .i64 x454003_1]) ?_ 3 _ rfl;(with_reducible repeat (first | refine blk_drewN ?_ _ | refine blk_drew ?_ | refine blk_alloc ?_ _));refine blk_put (cs:=#[.int .u8 0,.string (⟨#[]⟩:ByteArray),.int .i64 x454002_1,.int .i64 x454003_1]) ?_ 2 _ rfl;(with_reducible repeat (first | refine blk_drewN ?_ _ | refine blk_drew ?_ | refine blk_alloc ?_ _));refine blk_put (cs:=#[.int .u8 0,.string x454001_1,.int .i64 x454002_1,.int .i64 x454003_1]) ?_ 1 _ rfl;(with_reducible repeat (first | refine blk_drewN ?_ _ | refine blk_drew ?_ | refine blk_alloc ?_ _));refine blk_put (cs:=#[.int .u8 x454000_1,.string x454001_1,.int .i64 x454002_1,.int .i64 x454003_1]) ?_ 0 _ rfl;(with_reducible repeat (first | refine blk_drewN ?_ _ | refine blk_drew ?_ | refine blk_alloc ?_ _));exact BK453.out) Tryz.underlying70 rfl (by kernel_rfl)) rfl ?_
      exact ⟨by first | rfl | (simp [errW_none,errW_some] <;> rfl) | (simp [*,errW_none,errW_some] <;> rfl),by repeat (first | (with_reducible first | exact HB.out | apply below_alloc | apply pw_below_drewN | apply below_drew1 | refine below_set ?_ GE453.out) | exact HB.out)⟩
end Go.Proofs.YtjapfefiaijfcaaGreatDoor.Q
namespace Go.Proofs.YtjapfefiaijfcaaGreatDoor.Q
open Go.RowKit Go.Proofs.YtjapfefiaijfcaaGreatDoorW.PrintWords Go.Proofs.YtjapfefiaijfcaaGreatDoorW.PrintLast Go.Proofs.YtjapfefiaijfcaaGreatDoorW.PrintMore
attribute [local go_sem] max2_int min2_int max_two min_two max_three min_three max_four min_four
set_option linter.unusedVariables false
set_option linter.unusedSimpArgs false
def IsS76 (w0 W:World) (g:Nat) (f0:List (S70)) (f1:List (S138)) (f2:Int) (f3:Int) (f4:Int) (f5:Int) (f6:Int):Prop:=∃ A0 c0,∃ A1 c1,W.heap[g]? = some (.cells #[.slice A0 f0.length c0,.slice A1 f1.length c1,.int .i64 f2,.int .i64 f3,.int .i64 f4,.int .i64 f5,.int .i64 f6] 76 (0,0)) ∧ w0.heap.size ≤ g ∧ Kd.C k70 w0 A0 f0.length f0 ∧ Kd.C k138 w0 A1 f1.length f1
theorem IsS76.grown {w0 W:World} {g:Nat} {f0:List (S70)} {f1:List (S138)} {f2:Int} {f3:Int} {f4:Int} {f5:Int} {f6:Int} {W1:World} {row:Option Nat} (h:IsS76 w0 W g f0 f1 f2 f3 f4 f5 f6) (hw:W.grownBy W1 row) (hne:some g ≠ row):IsS76 w0 W1 g f0 f1 f2 f3 f4 f5 f6:=by
 obtain ⟨A0,c0,A1,c1,hb,hg,hr0,hr1⟩:=h
 exact ⟨A0,c0,A1,c1,blk_grown hb hw hne,hg,hr0,hr1⟩
theorem IsS76.kept {w0 W:World} {g:Nat} {f0:List (S70)} {f1:List (S138)} {f2:Int} {f3:Int} {f4:Int} {f5:Int} {f6:Int} {W1:World} {S:Nat → Prop} (h:IsS76 w0 W g f0 f1 f2 f3 f4 f5 f6) (hk:Kept W W1 S) (hne:¬ S g):IsS76 w0 W1 g f0 f1 f2 f3 f4 f5 f6:=by
 obtain ⟨A0,c0,A1,c1,hb,hg,hr0,hr1⟩:=h
 exact ⟨A0,c0,A1,c1,blk_kept hb hk hne,hg,hr0,hr1⟩
theorem IsS76.below {w0 W:World} {g:Nat} {f0:List (S70)} {f1:List (S138)} {f2:Int} {f3:Int} {f4:Int} {f5:Int} {f6:Int} {W1:World} (h:IsS76 w0 W g f0 f1 f2 f3 f4 f5 f6) (hw:Below W.heap.size W W1):IsS76 w0 W1 g f0 f1 f2 f3 f4 f5 f6:=h.grown (grown_of_below hw none) (by simp)
theorem IsS76.alloc {w0 W:World} {g:Nat} {f0:List (S70)} {f1:List (S138)} {f2:Int} {f3:Int} {f4:Int} {f5:Int} {f6:Int} (h:IsS76 w0 W g f0 f1 f2 f3 f4 f5 f6) (o:Obj):IsS76 w0 (W.alloc o) g f0 f1 f2 f3 f4 f5 f6:=h.below (below_alloc (Below.refl _ _) o)
theorem IsS76.drewN {w0 W:World} {g:Nat} {f0:List (S70)} {f1:List (S138)} {f2:Int} {f3:Int} {f4:Int} {f5:Int} {f6:Int} (h:IsS76 w0 W g f0 f1 f2 f3 f4 f5 f6) (m:Nat):IsS76 w0 (W.drewN m) g f0 f1 f2 f3 f4 f5 f6:=h
theorem IsS76.drew {w0 W:World} {g:Nat} {f0:List (S70)} {f1:List (S138)} {f2:Int} {f3:Int} {f4:Int} {f5:Int} {f6:Int} (h:IsS76 w0 W g f0 f1 f2 f3 f4 f5 f6):IsS76 w0 W.drew g f0 f1 f2 f3 f4 f5 f6:=h
theorem IsS76.at_ {w0 W:World} {g:Nat} {f0:List (S70)} {f1:List (S138)} {f2:Int} {f3:Int} {f4:Int} {f5:Int} {f6:Int} {w':World} {m:Nat} (hq:W.drewN m=w') (h:IsS76 w0 W g f0 f1 f2 f3 f4 f5 f6):IsS76 w0 w' g f0 f1 f2 f3 f4 f5 f6:=by subst hq;exact IsS76.drewN h m
theorem IsS76.apart {w0 W:World} {g:Nat} {f0:List (S70)} {f1:List (S138)} {f2:Int} {f3:Int} {f4:Int} {f5:Int} {f6:Int} {α:Type} {d:Kd α} {e:Nat} {base:Nat} {ok:Nat → Prop} {v:Value} {xs:List α} (h:IsS76 w0 W g f0 f1 f2 f3 f4 f5 f6) (ho:d.R e W base ok v xs) (ht:∀ q,q ∈ e :: d.E → q ≠ 76):d.R e W base (fun k=>ok k ∧ k ≠ g) v xs:=by
 obtain ⟨A0,c0,A1,c1,hb,hg,hr0,hr1⟩:=h
 exact Kd.R_types ho hb ht
theorem IsS76.lt {w0 W:World} {g:Nat} {f0:List (S70)} {f1:List (S138)} {f2:Int} {f3:Int} {f4:Int} {f5:Int} {f6:Int} (h:IsS76 w0 W g f0 f1 f2 f3 f4 f5 f6):g < W.heap.size:=by
 obtain ⟨A0,c0,A1,c1,hb,hg,hr0,hr1⟩:=h
 exact blk_lt hb
theorem IsS76.ge {w0 W:World} {g:Nat} {f0:List (S70)} {f1:List (S138)} {f2:Int} {f3:Int} {f4:Int} {f5:Int} {f6:Int} (h:IsS76 w0 W g f0 f1 f2 f3 f4 f5 f6):w0.heap.size ≤ g:=by
 obtain ⟨A0,c0,A1,c1,hb,hg,hr0,hr1⟩:=h
 exact hg
theorem IsS76.ne_blk {w0 W:World} {g:Nat} {f0:List (S70)} {f1:List (S138)} {f2:Int} {f3:Int} {f4:Int} {f5:Int} {f6:Int} {a:Nat} {cs:Array Value} {t:TypeId} {fr:Nat × Nat} (h:IsS76 w0 W g f0 f1 f2 f3 f4 f5 f6) (hb2:W.heap[a]? = some (.cells cs t fr)) (ht:t ≠ 76):g ≠ a:=by
 obtain ⟨A0,c0,A1,c1,hb,hg,hr0,hr1⟩:=h
 rintro rfl
 rw [hb] at hb2
 injection hb2 with hb2
 injection hb2 with _ ht2
 exact ht ht2.symm
theorem IsS76.far {w0 W:World} {g:Nat} {f0:List (S70)} {f1:List (S138)} {f2:Int} {f3:Int} {f4:Int} {f5:Int} {f6:Int} {p:Addr} (h:IsS76 w0 W g f0 f1 f2 f3 f4 f5 f6) (hne:g ≠ p.block) (u:Value):IsS76 w0 (W.setCell p u) g f0 f1 f2 f3 f4 f5 f6:=by
 obtain ⟨A0,c0,A1,c1,hb,hg,hr0,hr1⟩:=h
 exact ⟨A0,c0,A1,c1,blk_far hb hne u,hg,hr0,hr1⟩
theorem cellS76_0 {W:World} {g:Nat} {A0:Option Addr} {c0:Nat} {A1:Option Addr} {c1:Nat} {f0:List (S70)} {f1:List (S138)} {f2:Int} {f3:Int} {f4:Int} {f5:Int} {f6:Int} (h:W.heap[g]? = some (.cells #[.slice A0 f0.length c0,.slice A1 f1.length c1,.int .i64 f2,.int .i64 f3,.int .i64 f4,.int .i64 f5,.int .i64 f6] 76 (0,0))):W.cell? ⟨g,0,none⟩=some (.slice A0 f0.length c0):=(blk_cell h 0).trans rfl
theorem cellS76_1 {W:World} {g:Nat} {A0:Option Addr} {c0:Nat} {A1:Option Addr} {c1:Nat} {f0:List (S70)} {f1:List (S138)} {f2:Int} {f3:Int} {f4:Int} {f5:Int} {f6:Int} (h:W.heap[g]? = some (.cells #[.slice A0 f0.length c0,.slice A1 f1.length c1,.int .i64 f2,.int .i64 f3,.int .i64 f4,.int .i64 f5,.int .i64 f6] 76 (0,0))):W.cell? ⟨g,1,none⟩=some (.slice A1 f1.length c1):=(blk_cell h 1).trans rfl
theorem cellS76_2 {W:World} {g:Nat} {A0:Option Addr} {c0:Nat} {A1:Option Addr} {c1:Nat} {f0:List (S70)} {f1:List (S138)} {f2:Int} {f3:Int} {f4:Int} {f5:Int} {f6:Int} (h:W.heap[g]? = some (.cells #[.slice A0 f0.length c0,.slice A1 f1.length c1,.int .i64 f2,.int .i64 f3,.int .i64 f4,.int .i64 f5,.int .i64 f6] 76 (0,0))):W.cell? ⟨g,2,none⟩=some (.int .i64 f2):=(blk_cell h 2).trans rfl
theorem IsS76.set_2 {w0 W:World} {g:Nat} {f0:List (S70)} {f1:List (S138)} {f2:Int} {f3:Int} {f4:Int} {f5:Int} {f6:Int} (h:IsS76 w0 W g f0 f1 f2 f3 f4 f5 f6) (x:Int):IsS76 w0 (W.setCell ⟨g,2,none⟩ (.int .i64 x)) g f0 f1 x f3 f4 f5 f6:=by
 obtain ⟨A0,c0,A1,c1,hb,hg,hr0,hr1⟩:=h
 exact ⟨A0,c0,A1,c1,by simpa using blk_set hb 2 (.int .i64 x),hg,hr0,hr1⟩
theorem cellS76_3 {W:World} {g:Nat} {A0:Option Addr} {c0:Nat} {A1:Option Addr} {c1:Nat} {f0:List (S70)} {f1:List (S138)} {f2:Int} {f3:Int} {f4:Int} {f5:Int} {f6:Int} (h:W.heap[g]? = some (.cells #[.slice A0 f0.length c0,.slice A1 f1.length c1,.int .i64 f2,.int .i64 f3,.int .i64 f4,.int .i64 f5,.int .i64 f6] 76 (0,0))):W.cell? ⟨g,3,none⟩=some (.int .i64 f3):=(blk_cell h 3).trans rfl
theorem IsS76.set_3 {w0 W:World} {g:Nat} {f0:List (S70)} {f1:List (S138)} {f2:Int} {f3:Int} {f4:Int} {f5:Int} {f6:Int} (h:IsS76 w0 W g f0 f1 f2 f3 f4 f5 f6) (x:Int):IsS76 w0 (W.setCell ⟨g,3,none⟩ (.int .i64 x)) g f0 f1 f2 x f4 f5 f6:=by
 obtain ⟨A0,c0,A1,c1,hb,hg,hr0,hr1⟩:=h
 exact ⟨A0,c0,A1,c1,by simpa using blk_set hb 3 (.int .i64 x),hg,hr0,hr1⟩
theorem cellS76_4 {W:World} {g:Nat} {A0:Option Addr} {c0:Nat} {A1:Option Addr} {c1:Nat} {f0:List (S70)} {f1:List (S138)} {f2:Int} {f3:Int} {f4:Int} {f5:Int} {f6:Int} (h:W.heap[g]? = some (.cells #[.slice A0 f0.length c0,.slice A1 f1.length c1,.int .i64 f2,.int .i64 f3,.int .i64 f4,.int .i64 f5,.int .i64 f6] 76 (0,0))):W.cell? ⟨g,4,none⟩=some (.int .i64 f4):=(blk_cell h 4).trans rfl
theorem IsS76.set_4 {w0 W:World} {g:Nat} {f0:List (S70)} {f1:List (S138)} {f2:Int} {f3:Int} {f4:Int} {f5:Int} {f6:Int} (h:IsS76 w0 W g f0 f1 f2 f3 f4 f5 f6) (x:Int):IsS76 w0 (W.setCell ⟨g,4,none⟩ (.int .i64 x)) g f0 f1 f2 f3 x f5 f6:=by
 obtain ⟨A0,c0,A1,c1,hb,hg,hr0,hr1⟩:=h
 exact ⟨A0,c0,A1,c1,by simpa using blk_set hb 4 (.int .i64 x),hg,hr0,hr1⟩
theorem cellS76_5 {W:World} {g:Nat} {A0:Option Addr} {c0:Nat} {A1:Option Addr} {c1:Nat} {f0:List (S70)} {f1:List (S138)} {f2:Int} {f3:Int} {f4:Int} {f5:Int} {f6:Int} (h:W.heap[g]? = some (.cells #[.slice A0 f0.length c0,.slice A1 f1.length c1,.int .i64 f2,.int .i64 f3,.int .i64 f4,.int .i64 f5,.int .i64 f6] 76 (0,0))):W.cell? ⟨g,5,none⟩=some (.int .i64 f5):=(blk_cell h 5).trans rfl
theorem IsS76.set_5 {w0 W:World} {g:Nat} {f0:List (S70)} {f1:List (S138)} {f2:Int} {f3:Int} {f4:Int} {f5:Int} {f6:Int} (h:IsS76 w0 W g f0 f1 f2 f3 f4 f5 f6) (x:Int):IsS76 w0 (W.setCell ⟨g,5,none⟩ (.int .i64 x)) g f0 f1 f2 f3 f4 x f6:=by
 obtain ⟨A0,c0,A1,c1,hb,hg,hr0,hr1⟩:=h
 exact ⟨A0,c0,A1,c1,by simpa using blk_set hb 5 (.int .i64 x),hg,hr0,hr1⟩
theorem cellS76_6 {W:World} {g:Nat} {A0:Option Addr} {c0:Nat} {A1:Option Addr} {c1:Nat} {f0:List (S70)} {f1:List (S138)} {f2:Int} {f3:Int} {f4:Int} {f5:Int} {f6:Int} (h:W.heap[g]? = some (.cells #[.slice A0 f0.length c0,.slice A1 f1.length c1,.int .i64 f2,.int .i64 f3,.int .i64 f4,.int .i64 f5,.int .i64 f6] 76 (0,0))):W.cell? ⟨g,6,none⟩=some (.int .i64 f6):=(blk_cell h 6).trans rfl
theorem IsS76.set_6 {w0 W:World} {g:Nat} {f0:List (S70)} {f1:List (S138)} {f2:Int} {f3:Int} {f4:Int} {f5:Int} {f6:Int} (h:IsS76 w0 W g f0 f1 f2 f3 f4 f5 f6) (x:Int):IsS76 w0 (W.setCell ⟨g,6,none⟩ (.int .i64 x)) g f0 f1 f2 f3 f4 f5 x:=by
 obtain ⟨A0,c0,A1,c1,hb,hg,hr0,hr1⟩:=h
 exact ⟨A0,c0,A1,c1,by simpa using blk_set hb 6 (.int .i64 x),hg,hr0,hr1⟩
theorem IsS76.new (w0 W:World) (A0:Option Addr) (c0:Nat) (A1:Option Addr) (c1:Nat) (f0:List (S70)) (f1:List (S138)) (f2:Int) (f3:Int) (f4:Int) (f5:Int) (f6:Int) (hB:Below w0.heap.size w0 W) (hr0:Kd.C k70 w0 A0 f0.length f0) (hr1:Kd.C k138 w0 A1 f1.length f1):IsS76 w0 (W.alloc (.cells #[.slice A0 f0.length c0,.slice A1 f1.length c1,.int .i64 f2,.int .i64 f3,.int .i64 f4,.int .i64 f5,.int .i64 f6] 76)) W.heap.size f0 f1 f2 f3 f4 f5 f6:=⟨A0,c0,A1,c1,by simpa using heap_alloc_new W _,hB.size,hr0,hr1⟩
def vouchref16_reader_is.f (s0_0:List (S70)) (s0_1:List (S138)) (s0_2:Int) (s0_3:Int) (s0_4:Int) (s0_5:Int) (s0_6:Int) (a1:ByteArray):Option (Bool × Int × Int × Int × Int × Int):=if s0_5=0 then (if s0_2 < (s0_0.length:Int) then (if 0 ≤ s0_2 then (if ((rd_T70 s0_0 s0_2).f0)=6 then (some ((((rd_T70 s0_0 s0_2).f1).toList == a1.toList),s0_2,s0_3,s0_4,s0_5,s0_6)) else (some (false,s0_2,s0_3,s0_4,s0_5,s0_6))) else (none)) else (some (false,s0_2,s0_3,s0_4,s0_5,s0_6))) else (some (false,s0_2,s0_3,s0_4,s0_5,s0_6))
set_option maxHeartbeats 8000000 in
set_option maxRecDepth 100000 in
theorem vouchref16_reader_is.calls (g:Nat) (s0_0:List (S70)) (s0_1:List (S138)) (s0_2:Int) (s0_3:Int) (s0_4:Int) (s0_5:Int) (s0_6:Int) (a1:ByteArray) (r1:Bool) (r2:Int) (r3:Int) (r4:Int) (r5:Int) (r6:Int) (w0 w:World) (hI:IsS76 w0 w g s0_0 s0_1 s0_2 s0_3 s0_4 s0_5 s0_6) (hB:Below w0.heap.size w0 w) (h:vouchref16_reader_is.f s0_0 s0_1 s0_2 s0_3 s0_4 s0_5 s0_6 a1=some (r1,r2,r3,r4,r5,r6)) :
  Calls Tryz.prog 63 #[.pointer (some ⟨g,0,none⟩),.string a1] w fun e w'=>e = .returned (.bool r1) ∧ IsS76 w0 w' g s0_0 s0_1 r2 r3 r4 r5 r6 ∧ Below w0.heap.size w0 w' ∧ KeepBut w w' g none:=by
 have HI0:=Aside0.mk hI
 have HK:=Aside0.mk (KeepBut.refl w g none)
 have HL:=Aside0.mk hB.size
 clear hI
 have HW0:=Aside0.mk hB.size
 have HB:=Aside0.mk hB
 clear hB
 have H:(if s0_5=0 then (if s0_2 < (s0_0.length:Int) then (if 0 ≤ s0_2 then (if ((rd_T70 s0_0 s0_2).f0)=6 then (some ((((rd_T70 s0_0 s0_2).f1).toList == a1.toList),s0_2,s0_3,s0_4,s0_5,s0_6)) else (some (false,s0_2,s0_3,s0_4,s0_5,s0_6))) else (none)) else (some (false,s0_2,s0_3,s0_4,s0_5,s0_6))) else (some (false,s0_2,s0_3,s0_4,s0_5,s0_6)))=some (r1,r2,r3,r4,r5,r6):=h
 clear h
 by_cases c3:s0_5=0
 ·rw [if_pos c3] at H
  have c3b0:(s0_5 == 0)=true:=beq_iff_eq.mpr c3
  have c3b1:(s0_5 != 0)=false:=bne_eq_false_iff_eq.mpr c3
  clear c3
  by_cases c4:s0_2 < (s0_0.length:Int)
  ·rw [if_pos c4] at H
   have c4b0:decide (s0_2 < (s0_0.length:Int))=true:=decide_eq_true c4
   clear c4
   by_cases c5:0 ≤ s0_2
   ·rw [if_pos c5] at H
    have c5b0:decide (0 ≤ s0_2)=true:=decide_eq_true c5
    clear c5
    by_cases c6:((rd_T70 s0_0 s0_2).f0)=6
    ·rw [if_pos c6] at H
     have c6b0:(((rd_T70 s0_0 s0_2).f0) == 6)=true:=beq_iff_eq.mpr c6
     have c6b1:(((rd_T70 s0_0 s0_2).f0) != 6)=false:=bne_eq_false_iff_eq.mpr c6
     clear c6
     simp only [Option.some.injEq,Prod.mk.injEq] at H
     obtain ⟨rfl,rfl,rfl,rfl,rfl,rfl⟩:=H
     obtain ⟨ASz7_0,cSz7_0,ASz7_1,cSz7_1,HGz7,hgz7,HSz7_0,HSz7_1⟩:=HI0.out
     have hcz7_0:=cellS76_0 HGz7
     have hcz7_1:=cellS76_1 HGz7
     have hcz7_2:=cellS76_2 HGz7
     have hcz7_3:=cellS76_3 HGz7
     have hcz7_4:=cellS76_4 HGz7
     have hcz7_5:=cellS76_5 HGz7
     have hcz7_6:=cellS76_6 HGz7
     have hfz7_2:=blk_frozen HGz7 2
     have hfz7_3:=blk_frozen HGz7 3
     have hfz7_4:=blk_frozen HGz7 4
     have hfz7_5:=blk_frozen HGz7 5
     have hfz7_6:=blk_frozen HGz7 6
     clear HGz7 hgz7
     have p497:0 ≤ (s0_2:Int):=of_decide_eq_true (by first | (with_reducible assumption) | assumption)
     have q497:s0_2 < (s0_0.length:Int):=of_decide_eq_true (by first | (with_reducible assumption) | assumption)
     obtain ⟨ad497,e497,hx497_0,hx497_1,hx497_2,hx497_3⟩:=at_T70 HSz7_0 s0_2 p497 q497
     cases e497
     replace hx497_0:=pw_cell_below HB.out hx497_0
     replace hx497_1:=pw_cell_below HB.out hx497_1
     replace hx497_2:=pw_cell_below HB.out hx497_2
     replace hx497_3:=pw_cell_below HB.out hx497_3
     replace p497:=eq_true p497
     replace q497:=eq_true q497
     have p498:0 ≤ (s0_2:Int):=of_decide_eq_true (by first | (with_reducible assumption) | assumption)
     have q498:s0_2 < (s0_0.length:Int):=of_decide_eq_true (by first | (with_reducible assumption) | assumption)
     obtain ⟨ad498,e498,hx498_0,hx498_1,hx498_2,hx498_3⟩:=at_T70 HSz7_0 s0_2 p498 q498
     obtain rfl:ad497=ad498:=(by injection e498)
     replace hx498_0:=pw_cell_below HB.out hx498_0
     replace hx498_1:=pw_cell_below HB.out hx498_1
     replace hx498_2:=pw_cell_below HB.out hx498_2
     replace hx498_3:=pw_cell_below HB.out hx498_3
     replace p498:=eq_true p498
     replace q498:=eq_true q498
     go_enter Tryz.func63,Tryz.ntmps63
     go_wp2
     repeat (go_quiet (fail);try go_wp2)
     go_ret
     exact ⟨by first | rfl | (simp [errW_none,errW_some] <;> rfl) | (simp [*,errW_none,errW_some] <;> rfl),by repeat (first | (with_reducible first | exact HI0.out | apply IsS76.alloc | apply IsS76.drewN | apply IsS76.drew | apply IsS76.set_2 | apply IsS76.set_3 | apply IsS76.set_4 | apply IsS76.set_5 | apply IsS76.set_6) | exact HI0.out),by repeat (first | (with_reducible first | exact HB.out | apply below_alloc | apply pw_below_drewN | apply below_drew1 | refine below_set ?_ (IsS76.ge HI0.out)) | exact HB.out),by repeat (first | (with_reducible first | exact HK.out | apply KeepBut.set_ | apply keep_drewN | apply keep_drew | apply keep_alloc) | exact HK.out)⟩
    ·rw [if_neg c6] at H
     have c6b0:(((rd_T70 s0_0 s0_2).f0) == 6)=false:=beq_eq_false_iff_ne.mpr c6
     have c6b1:(((rd_T70 s0_0 s0_2).f0) != 6)=true:=bne_iff_ne.mpr c6
     simp only [Option.some.injEq,Prod.mk.injEq] at H
     obtain ⟨rfl,rfl,rfl,rfl,rfl,rfl⟩:=H
     obtain ⟨ASz8_0,cSz8_0,ASz8_1,cSz8_1,HGz8,hgz8,HSz8_0,HSz8_1⟩:=HI0.out
     have hcz8_0:=cellS76_0 HGz8
     have hcz8_1:=cellS76_1 HGz8
     have hcz8_2:=cellS76_2 HGz8
     have hcz8_3:=cellS76_3 HGz8
     have hcz8_4:=cellS76_4 HGz8
     have hcz8_5:=cellS76_5 HGz8
     have hcz8_6:=cellS76_6 HGz8
     have hfz8_2:=blk_frozen HGz8 2
     have hfz8_3:=blk_frozen HGz8 3
     have hfz8_4:=blk_frozen HGz8 4
     have hfz8_5:=blk_frozen HGz8 5
     have hfz8_6:=blk_frozen HGz8 6
     clear HGz8 hgz8
     have p497:0 ≤ (s0_2:Int):=of_decide_eq_true (by first | (with_reducible assumption) | assumption)
     have q497:s0_2 < (s0_0.length:Int):=of_decide_eq_true (by first | (with_reducible assumption) | assumption)
     obtain ⟨ad497,e497,hx497_0,hx497_1,hx497_2,hx497_3⟩:=at_T70 HSz8_0 s0_2 p497 q497
     cases e497
     replace hx497_0:=pw_cell_below HB.out hx497_0
     replace hx497_1:=pw_cell_below HB.out hx497_1
     replace hx497_2:=pw_cell_below HB.out hx497_2
     replace hx497_3:=pw_cell_below HB.out hx497_3
     replace p497:=eq_true p497
     replace q497:=eq_true q497
     go_enter Tryz.func63,Tryz.ntmps63
     go_wp2
     repeat (go_quiet (fail);try go_wp2)
     go_ret
     exact ⟨by first | rfl | (simp [errW_none,errW_some] <;> rfl) | (simp [*,errW_none,errW_some] <;> rfl),by repeat (first | (with_reducible first | exact HI0.out | apply IsS76.alloc | apply IsS76.drewN | apply IsS76.drew | apply IsS76.set_2 | apply IsS76.set_3 | apply IsS76.set_4 | apply IsS76.set_5 | apply IsS76.set_6) | exact HI0.out),by repeat (first | (with_reducible first | exact HB.out | apply below_alloc | apply pw_below_drewN | apply below_drew1 | refine below_set ?_ (IsS76.ge HI0.out)) | exact HB.out),by repeat (first | (with_reducible first | exact HK.out | apply KeepBut.set_ | apply keep_drewN | apply keep_drew | apply keep_alloc) | exact HK.out)⟩
   ·rw [if_neg c5] at H
    exact absurd H (by simp)
  ·rw [if_neg c4] at H
   have c4b0:decide (s0_2 < (s0_0.length:Int))=false:=decide_eq_false c4
   clear c4
   simp only [Option.some.injEq,Prod.mk.injEq] at H
   obtain ⟨rfl,rfl,rfl,rfl,rfl,rfl⟩:=H
   obtain ⟨ASz9_0,cSz9_0,ASz9_1,cSz9_1,HGz9,hgz9,HSz9_0,HSz9_1⟩:=HI0.out
   have hcz9_0:=cellS76_0 HGz9
   have hcz9_1:=cellS76_1 HGz9
   have hcz9_2:=cellS76_2 HGz9
   have hcz9_3:=cellS76_3 HGz9
   have hcz9_4:=cellS76_4 HGz9
   have hcz9_5:=cellS76_5 HGz9
   have hcz9_6:=cellS76_6 HGz9
   have hfz9_2:=blk_frozen HGz9 2
   have hfz9_3:=blk_frozen HGz9 3
   have hfz9_4:=blk_frozen HGz9 4
   have hfz9_5:=blk_frozen HGz9 5
   have hfz9_6:=blk_frozen HGz9 6
   clear HGz9 hgz9
   go_enter Tryz.func63,Tryz.ntmps63
   go_wp2
   repeat (go_quiet (fail);try go_wp2)
   go_ret
   exact ⟨by first | rfl | (simp [errW_none,errW_some] <;> rfl) | (simp [*,errW_none,errW_some] <;> rfl),by repeat (first | (with_reducible first | exact HI0.out | apply IsS76.alloc | apply IsS76.drewN | apply IsS76.drew | apply IsS76.set_2 | apply IsS76.set_3 | apply IsS76.set_4 | apply IsS76.set_5 | apply IsS76.set_6) | exact HI0.out),by repeat (first | (with_reducible first | exact HB.out | apply below_alloc | apply pw_below_drewN | apply below_drew1 | refine below_set ?_ (IsS76.ge HI0.out)) | exact HB.out),by repeat (first | (with_reducible first | exact HK.out | apply KeepBut.set_ | apply keep_drewN | apply keep_drew | apply keep_alloc) | exact HK.out)⟩
 ·rw [if_neg c3] at H
  have c3b0:(s0_5 == 0)=false:=beq_eq_false_iff_ne.mpr c3
  have c3b1:(s0_5 != 0)=true:=bne_iff_ne.mpr c3
  simp only [Option.some.injEq,Prod.mk.injEq] at H
  obtain ⟨rfl,rfl,rfl,rfl,rfl,rfl⟩:=H
  obtain ⟨ASz10_0,cSz10_0,ASz10_1,cSz10_1,HGz10,hgz10,HSz10_0,HSz10_1⟩:=HI0.out
  have hcz10_0:=cellS76_0 HGz10
  have hcz10_1:=cellS76_1 HGz10
  have hcz10_2:=cellS76_2 HGz10
  have hcz10_3:=cellS76_3 HGz10
  have hcz10_4:=cellS76_4 HGz10
  have hcz10_5:=cellS76_5 HGz10
  have hcz10_6:=cellS76_6 HGz10
  have hfz10_2:=blk_frozen HGz10 2
  have hfz10_3:=blk_frozen HGz10 3
  have hfz10_4:=blk_frozen HGz10 4
  have hfz10_5:=blk_frozen HGz10 5
  have hfz10_6:=blk_frozen HGz10 6
  clear HGz10 hgz10
  go_enter Tryz.func63,Tryz.ntmps63
  go_wp2
  repeat (go_quiet (fail);try go_wp2)
  go_ret
  exact ⟨by first | rfl | (simp [errW_none,errW_some] <;> rfl) | (simp [*,errW_none,errW_some] <;> rfl),by repeat (first | (with_reducible first | exact HI0.out | apply IsS76.alloc | apply IsS76.drewN | apply IsS76.drew | apply IsS76.set_2 | apply IsS76.set_3 | apply IsS76.set_4 | apply IsS76.set_5 | apply IsS76.set_6) | exact HI0.out),by repeat (first | (with_reducible first | exact HB.out | apply below_alloc | apply pw_below_drewN | apply below_drew1 | refine below_set ?_ (IsS76.ge HI0.out)) | exact HB.out),by repeat (first | (with_reducible first | exact HK.out | apply KeepBut.set_ | apply keep_drewN | apply keep_drew | apply keep_alloc) | exact HK.out)⟩
end Go.Proofs.YtjapfefiaijfcaaGreatDoor.Q
namespace Go.Proofs.YtjapfefiaijfcaaGreatDoor.Q
open Go.RowKit Go.Proofs.YtjapfefiaijfcaaGreatDoorW.PrintWords Go.Proofs.YtjapfefiaijfcaaGreatDoorW.PrintLast Go.Proofs.YtjapfefiaijfcaaGreatDoorW.PrintMore
set_option linter.unusedVariables false
def mk77:List Value:=[.int .u8 77,.string ⟨#[]⟩,.int .i64 0,.slice none 0 0]
def optk (a:Kd S24):Kd (Option S24) where
 sz:=a.sz
 E:=a.E
 K:=fun w o cs=>match o with | some x=>a.K w x cs | none=>cs=mk77 ∧ a.sz=4
 M:=fun w base ok o cs=>match o with | some x=>a.M w base ok x cs | none=>cs=mk77 ∧ a.sz=4
 K_len:=by
  rintro w (_ | x) cs h
  ·obtain ⟨rfl,h⟩:=h;rw [h];rfl
  ·exact a.K_len h
 K_one:=by
  rintro w (_ | x) cs h u hu
  ·obtain ⟨rfl,-⟩:=h
   simp [mk77] at hu
   rcases hu with rfl | rfl | rfl | rfl <;> rfl
  ·exact a.K_one h u hu
 K_below:=by
  rintro w w1 (_ | x) cs hb h
  ·exact h
  ·exact a.K_below hb h
 K_of_M:=by
  rintro w base ok (_ | x) cs h
  ·exact h
  ·exact a.K_of_M h
 M_mono:=by
  rintro w base ok ok' (_ | x) cs hk h
  ·exact h
  ·exact a.M_mono hk h
 M_bound:=by
  rintro w base ok (_ | x) cs h
  ·exact h
  ·exact a.M_bound h
 M_move:=by
  rintro w w1 base ok (_ | x) cs hm h
  ·exact h
  ·exact a.M_move hm h
 M_lower:=by
  rintro w base base' ok (_ | x) cs hb h
  ·exact h
  ·exact a.M_lower hb h
theorem len_some (xs:List S24):(xs.map some ++ [none]).length=xs.length + 1:=by simp
def mslice (a:Kd S24):Kd (List S24) where
 sz:=1
 E:=24 :: a.E
 K:=fun w xs cs=>∃ ad c,cs=[.slice (some ad) xs.length c] ∧ xs.length + 1 ≤ c ∧ (optk a).C w (some ad) (xs.length + 1) (xs.map some ++ [none])
 M:=fun w base ok xs cs=>∃ ad c,cs=[.slice (some ad) xs.length c] ∧ (optk a).R 24 w base ok (.slice (some ad) (xs.length + 1) c) (xs.map some ++ [none])
 K_len:=by
  rintro w x cs ⟨ad,c,rfl,_⟩
  rfl
 K_one:=by
  rintro w x cs ⟨ad,c,rfl,_⟩ u hu
  rw [List.mem_singleton.1 hu]
  rfl
 K_below:=by
  rintro w w1 x cs hb ⟨ad,c,rfl,hl,hr⟩
  exact ⟨ad,c,rfl,hl,Kd.C_below hr hb⟩
 K_of_M:=by
  rintro w base ok x cs ⟨ad,c,rfl,h⟩
  obtain ⟨hn,hc,hr⟩:=Kd.R_reads' h
  rw [len_some] at hr
  exact ⟨ad,c,rfl,hc,hr⟩
 M_mono:=by
  rintro w base ok ok' x cs hok ⟨ad,c,rfl,h⟩
  exact ⟨ad,c,rfl,Kd.R_mono h hok⟩
 M_bound:=by
  rintro w base ok x cs ⟨ad,c,rfl,h⟩
  exact ⟨ad,c,rfl,Kd.R_bound h⟩
 M_move:=by
  rintro w w1 base ok x cs hm ⟨ad,c,rfl,h⟩
  exact ⟨ad,c,rfl,Kd.R_move h hm⟩
 M_lower:=by
  rintro w base base' ok x cs hb ⟨ad,c,rfl,h⟩
  exact ⟨ad,c,rfl,Kd.R_lower h hb⟩
theorem mono_optk {α:Type} {G:Kd α → Kd S24} (hG:Kd.Mono G):Kd.Mono (fun d=>optk (G d)):=by
 refine ⟨hG.sz,?_,?_⟩
 ·rintro d d' hs h w (_ | x) cs hk
  ·exact ⟨hk.1,(hG.sz d d' hs).symm.trans hk.2⟩
  ·exact hG.K d d' hs h _ _ _ hk
 ·rintro d d' hs h w base ok (_ | x) cs hk
  ·exact ⟨hk.1,(hG.sz d d' hs).symm.trans hk.2⟩
  ·exact hG.M d d' hs h _ _ _ _ _ hk
theorem mono_mslice {α:Type} {G:Kd α → Kd S24} (hG:Kd.Mono G):Kd.Mono (fun d=>mslice (G d)):=by
 have hO:=mono_optk hG
 refine ⟨fun _ _ _=>rfl,?_,?_⟩
 ·rintro d d' hs h w x cs ⟨ad,c,rfl,hl,hr⟩
  exact ⟨ad,c,rfl,hl,Kd.C_imp (hO.sz d d' hs) (hO.K d d' hs h) hr⟩
 ·rintro d d' hs h w base ok x cs ⟨ad,c,rfl,hr⟩
  exact ⟨ad,c,rfl,Kd.R_imp (hO.sz d d' hs) (hO.M d d' hs h) hr⟩
def Fm (d:Kd S24):Kd S24:=Kd.iso (Kd.pair (Kd.int .u8) (Kd.pair Kd.string (Kd.pair (Kd.int .i64) (mslice d)))) (fun x:S24=>(x.f0,x.f1,x.f2,x.f3))
theorem monoFm:Kd.Mono Fm:=Kd.mono_iso _ (Kd.mono_pair (Kd.mono_const _) (Kd.mono_pair (Kd.mono_const _) (Kd.mono_pair (Kd.mono_const _) (mono_mslice Kd.mono_id))))
theorem subFm:Kd.Sub Fm [24]:=Kd.sub_iso _ (Kd.sub_pair (Kd.sub_const _ (by decide)) (Kd.sub_pair (Kd.sub_const _ (by decide)) (Kd.sub_pair (Kd.sub_const _ (by decide)) (fun d h q hq=>by
 rcases List.mem_cons.1 hq with rfl | hq
 ·exact List.mem_singleton.2 rfl
 ·exact h q hq))))
theorem szFm:∀ n,(Kd.upto Fm 4 [24] n).sz=4:=Kd.upto_sz (fun _=>rfl)
def km:Kd S24:=Kd.fix Fm 4 [24] szFm (Kd.upto_E subFm)
theorem km_optk_M {w:World} {base:Nat} {ok:Nat → Prop} {p:Option S24} {c:List Value} (h:(optk km).M w base ok p c):∃ n,(optk (Kd.upto Fm 4 [24] n)).M w base ok p c:=by
 rcases p with _ | x
 ·exact ⟨0,h.1,szFm 0⟩
 ·obtain ⟨n,hn⟩:=(h:km.M w base ok x c)
  exact ⟨n,hn⟩
theorem optk_M_le {n m:Nat} (hnm:n ≤ m) {w:World} {base:Nat} {ok:Nat → Prop} {p:Option S24} {c:List Value} (h:(optk (Kd.upto Fm 4 [24] n)).M w base ok p c):(optk (Kd.upto Fm 4 [24] m)).M w base ok p c:=by
 rcases p with _ | x
 ·exact ⟨h.1,szFm m⟩
 ·exact Kd.upto_M_le monoFm szFm hnm h
theorem optk_R_back {w:World} {base:Nat} {ok:Nat → Prop} {v:Value} {xs:List (Option S24)} (h:(optk km).R 24 w base ok v xs):∃ n,(optk (Kd.upto Fm 4 [24] n)).R 24 w base ok v xs:=by
 obtain ⟨h0,inner,ho,hr⟩:=h
 obtain ⟨N,hN⟩:=Kd.reps_bounded (R:=fun n p c=>(optk (Kd.upto Fm 4 [24] n)).M w base (fun k=>ok k ∧ some k ≠ v.ownBlock) p c) (fun n m p c hnm hp=>optk_M_le hnm hp) (hr.imp_ (fun p c hp=>km_optk_M hp))
 refine ⟨N,h0,inner,?_,?_⟩
 ·have:(optk (Kd.upto Fm 4 [24] N)).sz=4:=szFm N
  rw [this];exact ho
 ·have:(optk (Kd.upto Fm 4 [24] N)).sz=4:=szFm N
  rw [this];exact hN
theorem km_mkM (w:World) (base:Nat) (ok:Nat → Prop) (x:S24) {ad:Addr} {c:Nat} (g:(optk km).R 24 w base ok (.slice (some ad) (x.f3.length + 1) c) (x.f3.map some ++ [none])):km.M w base ok x [.int .u8 x.f0,.string x.f1,.int .i64 x.f2,.slice (some ad) x.f3.length c]:=by
 obtain ⟨n,q⟩:=optk_R_back g
 exact ⟨n + 1,[.int .u8 x.f0],[.string x.f1,.int .i64 x.f2,.slice (some ad) x.f3.length c],rfl,rfl,[.string x.f1],[.int .i64 x.f2,.slice (some ad) x.f3.length c],rfl,rfl,[.int .i64 x.f2],[.slice (some ad) x.f3.length c],rfl,rfl,ad,c,rfl,q⟩
theorem optk_C_fix {n:Nat} {w:World} {A:Option Addr} {m:Nat} {xs:List (Option S24)} (h:(optk (Kd.upto Fm 4 [24] n)).C w A m xs):(optk km).C w A m xs:=Kd.C_imp (d':=optk km) (szFm n) (fun w p cs hp=>by
 rcases p with _ | x
 ·exact ⟨hp.1,rfl⟩
 ·exact (⟨n,hp⟩:∃ n,(Kd.upto Fm 4 [24] n).K w x cs)) h
theorem km_open {w:World} {x:S24} {cs:List Value} (h:km.K w x cs):∃ ad c,cs=[.int .u8 x.f0,.string x.f1,.int .i64 x.f2,.slice (some ad) x.f3.length c] ∧ x.f3.length + 1 ≤ c ∧ (optk km).C w (some ad) (x.f3.length + 1) (x.f3.map some ++ [none]):=by
 obtain ⟨n,h⟩:=h
 cases n with
 | zero=>exact h.elim
 | succ n =>
  obtain ⟨_,_,rfl,rfl,⟨_,_,rfl,rfl,⟨_,_,rfl,rfl,⟨ad,c,rfl,l,g⟩⟩⟩⟩:=h
  exact ⟨ad,c,rfl,l,optk_C_fix g⟩
theorem optk_C_k24 {n:Nat} (ih:∀ w x cs,(Kd.upto Fm 4 [24] n).K w x cs → k24.K w x cs) {w:World} {ad:Addr} {xs:List S24} (h:(optk (Kd.upto Fm 4 [24] n)).C w (some ad) (xs.length + 1) (xs.map some ++ [none])):k24.C w (some ad) xs.length xs:=by
 obtain ⟨h1,h2,h3⟩:=h
 refine ⟨rfl,by omega,fun hp=>?_⟩
 obtain ⟨ad',e,hc⟩:=h3 (by omega)
 refine ⟨ad',e,fun j p hj=>?_⟩
 have hjl:=(List.getElem?_eq_some_iff.1 hj).1
 obtain ⟨c,c1,c2,c3⟩:=hc j (some p) (by rw [List.getElem?_append_left (by simpa using hjl),List.getElem?_map,hj];rfl)
 have hz:(optk (Kd.upto Fm 4 [24] n)).sz=4:=szFm n
 rw [hz] at c1 c3
 exact ⟨c,c1,ih w p c c2,c3⟩
theorem km_k24_upto (n:Nat):∀ w x cs,(Kd.upto Fm 4 [24] n).K w x cs → k24.K w x cs:=by
 induction n with
 | zero=>exact fun w x cs h=>h.elim
 | succ n ih =>
  intro w x cs h
  obtain ⟨_,_,rfl,rfl,⟨_,_,rfl,rfl,⟨_,_,rfl,rfl,⟨ad,c,rfl,l,g⟩⟩⟩⟩:=h
  exact k24_mk w x (Nat.le_of_succ_le l) (optk_C_k24 ih g)
theorem km_k24 {w:World} {x:S24} {cs:List Value} (h:km.K w x cs):k24.K w x cs:=by
 obtain ⟨n,h⟩:=h
 exact km_k24_upto n w x cs h
theorem km_C_k24 {w:World} {ad:Addr} {xs:List S24} (h:(optk km).C w (some ad) (xs.length + 1) (xs.map some ++ [none])):k24.C w (some ad) xs.length xs:=by
 obtain ⟨h1,h2,h3⟩:=h
 refine ⟨rfl,by omega,fun hp=>?_⟩
 obtain ⟨ad',e,hc⟩:=h3 (by omega)
 refine ⟨ad',e,fun j p hj=>?_⟩
 have hjl:=(List.getElem?_eq_some_iff.1 hj).1
 obtain ⟨c,c1,c2,c3⟩:=hc j (some p) (by rw [List.getElem?_append_left (by simpa using hjl),List.getElem?_map,hj];rfl)
 exact ⟨c,c1,km_k24 c2,c3⟩
end Go.Proofs.YtjapfefiaijfcaaGreatDoor.Q
namespace Go.Proofs.YtjapfefiaijfcaaGreatDoor.Q
open Go.RowKit Go.Proofs.YtjapfefiaijfcaaGreatDoorW.PrintWords Go.Proofs.YtjapfefiaijfcaaGreatDoorW.PrintLast Go.Proofs.YtjapfefiaijfcaaGreatDoorW.PrintMore
attribute [local go_sem] max2_int min2_int max_two min_two max_three min_three max_four min_four
set_option linter.unusedVariables false
set_option linter.unusedSimpArgs false
mutual
def vouchref19_LicWeight.l0:Nat → Int → Int → Int → Int → ByteArray → Int → List (S24) → Option (Int)
 | 0,_,_,_,_,_,_,_=>none
 | k + 1,x1,x5,x6,x357000,x357001,x357002,x357003=>if x6 < (x357003.length:Int) then (if x5 ≤ x1 then (if 0 ≤ x6 then ((vouchref19_LicWeight.f k ((rd_T24 x357003 x6).f0) ((rd_T24 x357003 x6).f1) ((rd_T24 x357003 x6).f2) ((rd_T24 x357003 x6).f3) (wrap64 (x1 - x5))).bind fun t358=>(vouchref19_LicWeight.l0 k x1 (wrap64 (x5 + t358)) (wrap64 (x6 + 1)) x357000 x357001 x357002 x357003)) else (none)) else (some x5)) else (some x5)
def vouchref19_LicWeight.f:Nat → Int → ByteArray → Int → List (S24) → Int → Option (Int)
 | 0,_,_,_,_,_=>none
 | k + 1,a0_0,a0_1,a0_2,l0_3,a1=>vouchref19_LicWeight.l0 k a1 (wrap64 (1 + (mn (a0_1.size:Int) a1))) 0 a0_0 a0_1 a0_2 l0_3
end
set_option maxHeartbeats 8000000 in
set_option maxRecDepth 100000 in
theorem vouchref19_LicWeight.calls (k:Nat):∀ (a0_0:Int) (a0_1:ByteArray) (a0_2:Int) (A0_3:Option Addr) (c0_3:Nat) (l0_3:List (S24)) (a1:Int) (r:Int) (w:World) (hr0_3:Kd.C k24 w A0_3 l0_3.length l0_3) (hc0_3:l0_3.length ≤ c0_3) (h:vouchref19_LicWeight.f k a0_0 a0_1 a0_2 l0_3 a1=some r),
  Calls Tryz.prog 6 #[.agg #[.int .u8 a0_0,.string a0_1,.int .i64 a0_2,.slice A0_3 l0_3.length c0_3],.int .i64 a1] w fun e w'=>e = .returned (.int .i64 r) ∧ Below w.heap.size w w':=by
 induction k using Nat.strongRecOn with
 | _ k ih =>
 intro a0_0 a0_1 a0_2 A0_3 c0_3 l0_3 a1 r w hr0_3 hc0_3 h
 cases k with
 | zero=>exact absurd h (by simp [vouchref19_LicWeight.f])
 | succ k =>
 simp only [vouchref19_LicWeight.f] at h
 have hu24:=Tryz.underlying24
 have HR0_3:=Aside0.mk hr0_3
 have HC0_3:=Aside0.mk hc0_3
 clear hr0_3 hc0_3
 have HB:=Aside0.mk (Below.refl w.heap.size w)
 have H:(vouchref19_LicWeight.l0 k a1 (wrap64 (1 + (mn (a0_1.size:Int) a1))) 0 a0_0 a0_1 a0_2 l0_3)=some r:=h
 clear h
 obtain ⟨ji3,hji3⟩:∃ j_:Int,(mn (a0_1.size:Int) a1)=j_:=⟨_,rfl⟩
 replace H:(vouchref19_LicWeight.l0 k a1 (wrap64 (1 + (ji3))) 0 a0_0 a0_1 a0_2 l0_3)=some r:=by first | (rw [hji3] at H;exact H) | (simp only [hji3] at H ⊢;exact H)
 have hji3_:(if a1 < (a0_1.size:Int) then a1 else (a0_1.size:Int))=ji3:=hji3
 have H':=Aside0.mk H
 clear H
 go_enter Tryz.func6,Tryz.ntmps6
 go_wp2_with (first | ((with_reducible refine gate_dst (N:=2) rfl ?_);refine box_event ?hg (N:=2) ?hd (cs:=#[.int .u8 a0_0,.string a0_1,.int .i64 a0_2,.slice A0_3 l0_3.length c0_3]) (t:=24) ?hr ?_;(case hd=>rfl);(case hg=>rfl);(case hr=>first | (go_simp;done) | (go_simp;rfl));intro gb356 hg w4 hbox hb;have n0_:=Aside0.mk (below_step (by repeat (first | (with_reducible first | exact HB.out | apply below_alloc | apply pw_below_drewN | apply below_drew1) | exact HB.out)) hb);have n1_:=Aside0.mk (hbox);have n2_:=Aside0.mk ((by rw [hg];exact (below_size (by repeat (first | (with_reducible first | exact HB.out | apply below_alloc | apply pw_below_drewN | apply below_drew1) | exact HB.out))):w.heap.size ≤ gb356));have n3_:=Aside0.mk ((by rw [hg];exact (below_size (by repeat (first | (with_reducible first | exact HB.out | apply below_alloc | apply pw_below_drewN | apply below_drew1) | exact HB.out))):w.heap.size ≤ gb356));clear HB;have HB:=n0_;have BK356:=n1_;have GW356:=n2_;have GE356:=n3_;clear n0_ n1_ n2_ n3_;clear hb hbox hg;have hcz5_0:w4.cell? ⟨gb356,0,none⟩=some (.int .u8 a0_0):=(blk_cell BK356.out 0).trans rfl;have hcz5_1:w4.cell? ⟨gb356,1,none⟩=some (.string a0_1):=(blk_cell BK356.out 1).trans rfl;have hcz5_2:w4.cell? ⟨gb356,2,none⟩=some (.int .i64 a0_2):=(blk_cell BK356.out 2).trans rfl;have hcz5_3:w4.cell? ⟨gb356,3,none⟩=some (.slice A0_3 l0_3.length c0_3):=(blk_cell BK356.out 3).trans rfl;have hfz5_0:=blk_frozen BK356.out 0;have hfz5_1:=blk_frozen BK356.out 1;have hfz5_2:=blk_frozen BK356.out 2;have hfz5_3:=blk_frozen BK356.out 3))
 go_loopg [5,6] k (fun kq v5 v6 w'=>∃ (x5_1:Int) (x6_1:Int),v5 = .int .i64 x5_1 ∧ v6 = .int .i64 x6_1 ∧ Aside0 (vouchref19_LicWeight.l0 kq a1 x5_1 x6_1 a0_0 a0_1 a0_2 l0_3=some r) ∧ Aside0 (kq ≤ k) ∧ Aside0 (w'.heap[gb356]? = some (.cells #[.int .u8 a0_0,.string a0_1,.int .i64 a0_2,(.slice A0_3 l0_3.length c0_3)] 24 (0,0))) ∧ Aside0 (Below w.heap.size w w'))
 case atStart=>exact ⟨(wrap64 (1 + (ji3))),(0),(by first | rfl | (simp;done) | (simp only [← hji3] <;> (first | rfl | simp)) | (simp [*];done)),(by first | rfl | (simp;done) | (simp [*];done) | (repeat (first | rfl | (unfold wrap64;omega) | congr 1))),H',⟨Nat.le_refl _⟩,⟨by (with_reducible repeat (first | refine blk_drewN ?_ _ | refine blk_drew ?_ | refine blk_alloc ?_ _));exact BK356.out⟩,⟨by repeat (first | (with_reducible first | exact HB.out | apply below_alloc | apply pw_below_drewN | apply below_drew1 | refine below_set ?_ GE356.out) | exact HB.out)⟩⟩
 case round =>
  clear H'
  try clear p2
  try clear hcz5_0
  try clear hcz5_1
  try clear hcz5_2
  try clear hcz5_3
  try clear hfz5_0
  try clear hfz5_1
  try clear hfz5_2
  try clear hfz5_3
  obtain ⟨x5_1,x6_1,rfl,rfl,HA,HK1,BK356,HB⟩:=hrel
  cases gk with
  | zero=>exact absurd HA.out (by simp [vouchref19_LicWeight.l0])
  | succ k1 =>
   have H:=HA.out
   clear HA
   simp only [vouchref19_LicWeight.l0] at H
   by_cases c6:x6_1 < (l0_3.length:Int)
   ·rw [if_pos c6] at H
    have c6b0:decide (x6_1 < (l0_3.length:Int))=true:=decide_eq_true c6
    clear c6
    by_cases c7:x5_1 ≤ a1
    ·rw [if_pos c7] at H
     have c7b0:decide (x5_1 ≤ a1)=true:=decide_eq_true c7
     clear c7
     by_cases c8:0 ≤ x6_1
     ·rw [if_pos c8] at H
      have c8b0:decide (0 ≤ x6_1)=true:=decide_eq_true c8
      clear c8
      replace H:=Option.bind_eq_some_iff.mp H
      obtain ⟨t358,A90,H⟩:=H
      replace H:(vouchref19_LicWeight.l0 k1 a1 (wrap64 (x5_1 + t358)) (wrap64 (x6_1 + 1)) a0_0 a0_1 a0_2 l0_3)=some r:=H
      have A9:=Aside0.mk A90
      clear A90
      have H':=Aside0.mk H
      clear H
      have hcz10_0:wr.cell? ⟨gb356,0,none⟩=some (.int .u8 a0_0):=(blk_cell BK356.out 0).trans rfl
      have hcz10_1:wr.cell? ⟨gb356,1,none⟩=some (.string a0_1):=(blk_cell BK356.out 1).trans rfl
      have hcz10_2:wr.cell? ⟨gb356,2,none⟩=some (.int .i64 a0_2):=(blk_cell BK356.out 2).trans rfl
      have hcz10_3:wr.cell? ⟨gb356,3,none⟩=some (.slice A0_3 l0_3.length c0_3):=(blk_cell BK356.out 3).trans rfl
      have hfz10_0:=blk_frozen BK356.out 0
      have hfz10_1:=blk_frozen BK356.out 1
      have hfz10_2:=blk_frozen BK356.out 2
      have hfz10_3:=blk_frozen BK356.out 3
      have p357:0 ≤ (x6_1:Int):=of_decide_eq_true (by first | (with_reducible assumption) | assumption)
      have q357:x6_1 < (l0_3.length:Int):=of_decide_eq_true (by first | (with_reducible assumption) | assumption)
      obtain ⟨ad357,A357_3,c357_3,e357,hx357_0,hx357_1,hx357_2,hx357_3,hl357_3,hi357_3⟩:=at_T24 HR0_3.out x6_1 p357 q357
      cases e357
      replace hx357_0:=(HB.out.cell (World.block_lt_of_cell? w _ hx357_0)).trans hx357_0
      replace hx357_1:=(HB.out.cell (World.block_lt_of_cell? w _ hx357_1)).trans hx357_1
      replace hx357_2:=(HB.out.cell (World.block_lt_of_cell? w _ hx357_2)).trans hx357_2
      replace hx357_3:=(HB.out.cell (World.block_lt_of_cell? w _ hx357_3)).trans hx357_3
      have HR357_3:=Aside0.mk hi357_3
      have HC357_3:=Aside0.mk hl357_3
      clear hi357_3 hl357_3
      replace p357:=eq_true p357
      replace q357:=eq_true q357
      go_wp2_with (first | ((with_reducible refine gate_callee (f:=6) rfl ?_);refine goesL_ (some 34) rfl rfl Tryz.func6 (by kernel_rfl) rfl #[.agg #[.int .u8 ((rd_T24 l0_3 x6_1).f0),.string ((rd_T24 l0_3 x6_1).f1),.int .i64 ((rd_T24 l0_3 x6_1).f2),.slice A357_3 ((rd_T24 l0_3 x6_1).f3).length c357_3],.int .i64 (wrap64 (a1 - x5_1))] rfl (by (try simp only [List.map_toArray,List.map_cons,List.map_nil]);first | done | rfl | (simp only [List.length_drop,List.length_take];rfl)) ?_;(with_reducible refine (ih k1 (by have:=HK1.out;omega) ((rd_T24 l0_3 x6_1).f0) ((rd_T24 l0_3 x6_1).f1) ((rd_T24 l0_3 x6_1).f2) _ _ ((rd_T24 l0_3 x6_1).f3) (wrap64 (a1 - x5_1)) t358 _ ?side1 ?side2 A9.out).mono ?_);(case side1=>repeat (first | exact (Kd.C_below HR357_3.out HB.out) | (with_reducible refine Kd.C_alloc ?_ _) | (with_reducible refine Kd.C_drewN ?_ _) | (with_reducible refine Kd.C_drew ?_)));(case side2=>exact HC357_3.out);rintro e w11 ⟨rfl,hb⟩;refine ⟨_,rfl,?_⟩;have n0_:=Aside0.mk (blk_below (g:=gb356) (o:=.cells #[.int .u8 a0_0,.string a0_1,.int .i64 a0_2,.slice (some ad357) l0_3.length c0_3] 24 (0,0)) (by (with_reducible repeat (first | refine blk_drewN ?_ _ | refine blk_drew ?_ | refine blk_alloc ?_ _));exact BK356.out) hb);have n1_:=Aside0.mk (below_step (by repeat (first | (with_reducible first | exact HB.out | apply below_alloc | apply pw_below_drewN | apply below_drew1 | refine below_set ?_ GE356.out) | exact HB.out)) hb);clear BK356;clear HB;have BK356:=n0_;have HB:=n1_;clear n0_ n1_;(try clear hb);(try clear hb2);(try clear hk);(try clear hi)))
      go_roundg k1
      case measure=>have:=HK1.out;omega
      case rel=>exact ⟨(wrap64 (x5_1 + t358)),(wrap64 (x6_1 + 1)),(by first | rfl | (simp;done) | (simp [*];done) | (repeat (first | rfl | (unfold wrap64;omega) | congr 1))),(by first | rfl | (simp;done) | (simp [*];done) | (repeat (first | rfl | (unfold wrap64;omega) | congr 1))),H',⟨by have:=HK1.out;omega⟩,⟨by (with_reducible repeat (first | refine blk_drewN ?_ _ | refine blk_drew ?_ | refine blk_alloc ?_ _));exact BK356.out⟩,⟨by repeat (first | (with_reducible first | exact HB.out | apply below_alloc | apply pw_below_drewN | apply below_drew1 | refine below_set ?_ GE356.out) | exact HB.out)⟩⟩
     ·rw [if_neg c8] at H
      exact absurd H (by simp)
    ·rw [if_neg c7] at H
     have c7b0:decide (x5_1 ≤ a1)=false:=decide_eq_false c7
     clear c7
     obtain rfl:=Option.some.inj H
     have hcz12_0:wr.cell? ⟨gb356,0,none⟩=some (.int .u8 a0_0):=(blk_cell BK356.out 0).trans rfl
     have hcz12_1:wr.cell? ⟨gb356,1,none⟩=some (.string a0_1):=(blk_cell BK356.out 1).trans rfl
     have hcz12_2:wr.cell? ⟨gb356,2,none⟩=some (.int .i64 a0_2):=(blk_cell BK356.out 2).trans rfl
     have hcz12_3:wr.cell? ⟨gb356,3,none⟩=some (.slice A0_3 l0_3.length c0_3):=(blk_cell BK356.out 3).trans rfl
     have hfz12_0:=blk_frozen BK356.out 0
     have hfz12_1:=blk_frozen BK356.out 1
     have hfz12_2:=blk_frozen BK356.out 2
     have hfz12_3:=blk_frozen BK356.out 3
     go_wp2
     go_ret
     exact ⟨by first | rfl | (simp [errW_none,errW_some] <;> rfl) | (simp only [← hji3];first | rfl | (simp [errW_none,errW_some] <;> rfl)) | (simp [*,errW_none,errW_some] <;> rfl),by repeat (first | (with_reducible first | exact HB.out | apply below_alloc | apply pw_below_drewN | apply below_drew1 | refine below_set ?_ GE356.out) | exact HB.out)⟩
   ·rw [if_neg c6] at H
    have c6b0:decide (x6_1 < (l0_3.length:Int))=false:=decide_eq_false c6
    clear c6
    obtain rfl:=Option.some.inj H
    have hcz13_0:wr.cell? ⟨gb356,0,none⟩=some (.int .u8 a0_0):=(blk_cell BK356.out 0).trans rfl
    have hcz13_1:wr.cell? ⟨gb356,1,none⟩=some (.string a0_1):=(blk_cell BK356.out 1).trans rfl
    have hcz13_2:wr.cell? ⟨gb356,2,none⟩=some (.int .i64 a0_2):=(blk_cell BK356.out 2).trans rfl
    have hcz13_3:wr.cell? ⟨gb356,3,none⟩=some (.slice A0_3 l0_3.length c0_3):=(blk_cell BK356.out 3).trans rfl
    have hfz13_0:=blk_frozen BK356.out 0
    have hfz13_1:=blk_frozen BK356.out 1
    have hfz13_2:=blk_frozen BK356.out 2
    have hfz13_3:=blk_frozen BK356.out 3
    go_wp2
    go_ret
    exact ⟨by first | rfl | (simp [errW_none,errW_some] <;> rfl) | (simp only [← hji3];first | rfl | (simp [errW_none,errW_some] <;> rfl)) | (simp [*,errW_none,errW_some] <;> rfl),by repeat (first | (with_reducible first | exact HB.out | apply below_alloc | apply pw_below_drewN | apply below_drew1 | refine below_set ?_ GE356.out) | exact HB.out)⟩
end Go.Proofs.YtjapfefiaijfcaaGreatDoor.Q
