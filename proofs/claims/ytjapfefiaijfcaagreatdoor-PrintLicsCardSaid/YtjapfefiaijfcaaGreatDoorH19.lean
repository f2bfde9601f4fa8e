/- Go functions as Lean functions, and that each call comes to its Lean function's answer, wherever that is some answer. Written by a program of this session out of the translation. -/
import Derived.Test.YtjapfefiaijfcaaGreatDoorH5
import Derived.Test.YtjapfefiaijfcaaGreatDoorH9
import Derived.Test.YtjapfefiaijfcaaGreatDoorH13
import Derived.Test.YtjapfefiaijfcaaGreatDoorH16
namespace Go.Proofs.YtjapfefiaijfcaaGreatDoor.Q
open Go.RowKit Go.Proofs.YtjapfefiaijfcaaGreatDoorW.PrintWords Go.Proofs.YtjapfefiaijfcaaGreatDoorW.PrintLast Go.Proofs.YtjapfefiaijfcaaGreatDoorW.PrintMore
attribute [local go_sem] max2_int min2_int max_two min_two max_three min_three max_four min_four
set_option linter.unusedVariables false
set_option linter.unusedSimpArgs false
def vouchref14_next.l0:Nat → ByteArray → Int → Int → Option (Int × ByteArray × Int × Int × Int × Int)
 | 0,_,_,_=>none
 | k + 1,x0,x1,x7=>if x7 < (x0.size:Int) then (if 0 ≤ x7 then ((vouchref14_letter.f (bt x0 x7)).bind fun t471=>(if t471=true then (vouchref14_next.l0 k x0 x1 (wrap64 (x7 + 1))) else ((vouchref14_digit.f (bt x0 x7)).bind fun t472=>(if t472=true then (vouchref14_next.l0 k x0 x1 (wrap64 (x7 + 1))) else (if 0 ≤ x1 then (if x1 ≤ x7 then (if x7 ≤ (x0.size:Int) then (some (1,x0.extract (x1:Int).toNat (x7:Int).toNat,x1,x7,0,0)) else (none)) else (none)) else (none)))))) else (none)) else (if 0 ≤ x1 then (if x1 ≤ x7 then (if x7 ≤ (x0.size:Int) then (some (1,x0.extract (x1:Int).toNat (x7:Int).toNat,x1,x7,0,0)) else (none)) else (none)) else (none))
def vouchref14_next.f (k:Nat) (a0:ByteArray) (a1:Int):Option (Int × ByteArray × Int × Int × Int × Int):=if 0 ≤ a1 then (if a1 < (a0.size:Int) then ((vouchref14_letter.f (bt a0 a1)).bind fun t470=>(if t470=true then (vouchref14_next.l0 k a0 a1 a1) else ((vouchref14_digit.f (bt a0 a1)).bind fun t473=>(if t473=true then ((vouchref14_number.f k a0 a1).bind fun bt474=>(some (bt474.1,bt474.2.1,bt474.2.2.1,bt474.2.2.2,0,0))) else (if (bt a0 a1)=34 then ((vouchref14_quoted.f k a0 a1).bind fun bt478=>(some (bt478.1,bt478.2.1,bt478.2.2.1,bt478.2.2.2.1,bt478.2.2.2.2.1,bt478.2.2.2.2.2))) else ((vouchref14_sign.f k a0 a1).bind fun t484=>(if t484=0 then (some (0,(⟨#[]⟩:ByteArray),0,0,a1,140)) else (if a1 ≤ (wrap64 (a1 + t484)) then (if (wrap64 (a1 + t484)) ≤ (a0.size:Int) then (some (6,a0.extract (a1:Int).toNat ((wrap64 (a1 + t484)):Int).toNat,a1,wrap64 (a1 + t484),0,0)) else (none)) else (none))))))))) else (none)) else (none)
set_option maxHeartbeats 8000000 in
set_option maxRecDepth 100000 in
theorem vouchref14_next.calls (k:Nat) (a0:ByteArray) (a1:Int) (r1:Int) (r2:ByteArray) (r3:Int) (r4:Int) (r5:Int) (r6:Int) (w:World) (h:vouchref14_next.f k a0 a1=some (r1,r2,r3,r4,r5,r6)) :
  Calls Tryz.prog 61 #[.string a0,.int .i64 a1] w fun e w'=>e = .returned (.tuple #[.agg #[.int .u8 r1,.string r2,.int .i64 r3,.int .i64 r4],.int .i64 r5,.int .i64 r6]) ∧ Below w.heap.size w w':=by
 have hu70:=Tryz.underlying70
 have HB:=Aside0.mk (Below.refl w.heap.size w)
 have H:(if 0 ≤ a1 then (if a1 < (a0.size:Int) then ((vouchref14_letter.f (bt a0 a1)).bind fun t470=>(if t470=true then (vouchref14_next.l0 k a0 a1 a1) else ((vouchref14_digit.f (bt a0 a1)).bind fun t473=>(if t473=true then ((vouchref14_number.f k a0 a1).bind fun bt474=>(some (bt474.1,bt474.2.1,bt474.2.2.1,bt474.2.2.2,0,0))) else (if (bt a0 a1)=34 then ((vouchref14_quoted.f k a0 a1).bind fun bt478=>(some (bt478.1,bt478.2.1,bt478.2.2.1,bt478.2.2.2.1,bt478.2.2.2.2.1,bt478.2.2.2.2.2))) else ((vouchref14_sign.f k a0 a1).bind fun t484=>(if t484=0 then (some (0,(⟨#[]⟩:ByteArray),0,0,a1,140)) else (if a1 ≤ (wrap64 (a1 + t484)) then (if (wrap64 (a1 + t484)) ≤ (a0.size:Int) then (some (6,a0.extract (a1:Int).toNat ((wrap64 (a1 + t484)):Int).toNat,a1,wrap64 (a1 + t484),0,0)) else (none)) else (none))))))))) else (none)) else (none))=some (r1,r2,r3,r4,r5,r6):=h
 clear h
 by_cases c3:0 ≤ a1
 ·rw [if_pos c3] at H
  have c3b0:decide (0 ≤ a1)=true:=decide_eq_true c3
  clear c3
  by_cases c4:a1 < (a0.size:Int)
  ·rw [if_pos c4] at H
   have c4b0:decide (a1 < (a0.size:Int))=true:=decide_eq_true c4
   clear c4
   replace H:=Option.bind_eq_some_iff.mp H
   obtain ⟨t470,A60,H⟩:=H
   replace H:(if t470=true then (vouchref14_next.l0 k a0 a1 a1) else ((vouchref14_digit.f (bt a0 a1)).bind fun t473=>(if t473=true then ((vouchref14_number.f k a0 a1).bind fun bt474=>(some (bt474.1,bt474.2.1,bt474.2.2.1,bt474.2.2.2,0,0))) else (if (bt a0 a1)=34 then ((vouchref14_quoted.f k a0 a1).bind fun bt478=>(some (bt478.1,bt478.2.1,bt478.2.2.1,bt478.2.2.2.1,bt478.2.2.2.2.1,bt478.2.2.2.2.2))) else ((vouchref14_sign.f k a0 a1).bind fun t484=>(if t484=0 then (some (0,(⟨#[]⟩:ByteArray),0,0,a1,140)) else (if a1 ≤ (wrap64 (a1 + t484)) then (if (wrap64 (a1 + t484)) ≤ (a0.size:Int) then (some (6,a0.extract (a1:Int).toNat ((wrap64 (a1 + t484)):Int).toNat,a1,wrap64 (a1 + t484),0,0)) else (none)) else (none))))))))=some (r1,r2,r3,r4,r5,r6):=H
   have A6:=Aside0.mk A60
   clear A60
   by_cases c7:t470=true
   ·subst c7
    have H1:(vouchref14_next.l0 k a0 a1 a1)=some (r1,r2,r3,r4,r5,r6):=by rw [if_pos rfl] at H;exact H
    clear H
    have H:=H1
    clear H1
    have H':=Aside0.mk H
    clear H
    go_enter Tryz.func61,Tryz.ntmps61
    go_wp2_with (first | ((with_reducible refine gate_dst (N:=4) rfl ?_);refine box_event ?hg (N:=4) ?hd (cs:=#[.int .u8 0,.string (⟨#[]⟩:ByteArray),.int .i64 0,.int .i64 0]) (t:=70) ?hr ?_;(case hd=>rfl);(case hg=>rfl);(case hr=>first | (go_simp;done) | (go_simp;rfl));intro gb469 hg w8 hbox hb;have n0_:=Aside0.mk (below_step (by repeat (first | (with_reducible first | exact HB.out | apply below_alloc | apply pw_below_drewN | apply below_drew1) | exact HB.out)) hb);have n1_:=Aside0.mk (hbox);have n2_:=Aside0.mk ((by rw [hg];exact (below_size (by repeat (first | (with_reducible first | exact HB.out | apply below_alloc | apply pw_below_drewN | apply below_drew1) | exact HB.out))):w.heap.size ≤ gb469));have n3_:=Aside0.mk ((by rw [hg];exact (below_size (by repeat (first | (with_reducible first | exact HB.out | apply below_alloc | apply pw_below_drewN | apply below_drew1) | exact HB.out))):w.heap.size ≤ gb469));clear HB;have HB:=n0_;have BK469:=n1_;have GW469:=n2_;have GE469:=n3_;clear n0_ n1_ n2_ n3_;clear hb hbox hg;have p5:0 ≤ (a1:Int):=of_decide_eq_true (by first | (with_reducible assumption) | assumption);have q5:a1 < (a0.size:Int):=of_decide_eq_true (by first | (with_reducible assumption) | assumption);have hx5:=bt_at a0 a1;replace p5:=eq_true p5;replace q5:=eq_true q5) | ((with_reducible refine gate_callee (f:=82) rfl ?_);refine goesL_ (some 12) rfl rfl Tryz.func82 (by kernel_rfl) rfl #[.int .u8 (bt a0 a1)] rfl (by (try simp only [List.map_toArray,List.map_cons,List.map_nil]);first | done | rfl | (simp only [List.length_drop,List.length_take];rfl)) ?_;(with_reducible refine (vouchref14_letter.calls (bt a0 a1) true _ A6.out).mono ?_);rintro e w' ⟨rfl,⟨nd,rfl⟩⟩;refine ⟨_,rfl,?_⟩))
    go_loopg [7] k (fun kq v7 w'=>∃ (x7_1:Int),v7 = .int .i64 x7_1 ∧ Aside0 (vouchref14_next.l0 kq a0 a1 x7_1=some (r1,r2,r3,r4,r5,r6)) ∧ Aside0 (kq ≤ k) ∧ Aside0 (w'.heap[gb469]? = some (.cells #[.int .u8 0,.string (⟨#[]⟩:ByteArray),.int .i64 0,.int .i64 0] 70 (0,0))) ∧ Aside0 (Below w.heap.size w w'))
    case atStart=>exact ⟨(a1),(by first | rfl | (simp;done) | (simp [*];done) | (repeat (first | rfl | (unfold wrap64;omega) | congr 1))),H',⟨Nat.le_refl _⟩,⟨by (with_reducible repeat (first | refine blk_drewN ?_ _ | refine blk_drew ?_ | refine blk_alloc ?_ _));exact BK469.out⟩,⟨by repeat (first | (with_reducible first | exact HB.out | apply below_alloc | apply pw_below_drewN | apply below_drew1 | refine below_set ?_ GE469.out) | exact HB.out)⟩⟩
    case round =>
     clear H'
     try clear p2
     try clear c3
     try clear c3b0
     try clear c4
     try clear c4b0
     try clear p5
     try clear q5
     try clear hx5
     try clear c6
     try clear p6
     try clear c7
     try clear c8
     try clear p5
     try clear q5
     obtain ⟨x7_1,rfl,HA,HK1,BK469,HB⟩:=hrel
     cases gk with
     | zero=>exact absurd HA.out (by simp [vouchref14_next.l0])
     | succ k1 =>
      have H:=HA.out
      clear HA
      simp only [vouchref14_next.l0] at H
      by_cases c9:x7_1 < (a0.size:Int)
      ·rw [if_pos c9] at H
       have c9b0:decide (x7_1 < (a0.size:Int))=true:=decide_eq_true c9
       clear c9
       by_cases c10:0 ≤ x7_1
       ·rw [if_pos c10] at H
        have c10b0:decide (0 ≤ x7_1)=true:=decide_eq_true c10
        clear c10
        replace H:=Option.bind_eq_some_iff.mp H
        obtain ⟨t471,A120,H⟩:=H
        replace H:(if t471=true then (vouchref14_next.l0 k1 a0 a1 (wrap64 (x7_1 + 1))) else ((vouchref14_digit.f (bt a0 x7_1)).bind fun t472=>(if t472=true then (vouchref14_next.l0 k1 a0 a1 (wrap64 (x7_1 + 1))) else (if 0 ≤ a1 then (if a1 ≤ x7_1 then (if x7_1 ≤ (a0.size:Int) then (some (1,a0.extract (a1:Int).toNat (x7_1:Int).toNat,a1,x7_1,0,0)) else (none)) else (none)) else (none)))))=some (r1,r2,r3,r4,r5,r6):=H
        have A12:=Aside0.mk A120
        clear A120
        by_cases c13:t471=true
        ·subst c13
         have H1:(vouchref14_next.l0 k1 a0 a1 (wrap64 (x7_1 + 1)))=some (r1,r2,r3,r4,r5,r6):=by rw [if_pos rfl] at H;exact H
         clear H
         have H:=H1
         clear H1
         have H':=Aside0.mk H
         clear H
         have p11:0 ≤ (x7_1:Int):=of_decide_eq_true (by first | (with_reducible assumption) | assumption)
         have q11:x7_1 < (a0.size:Int):=of_decide_eq_true (by first | (with_reducible assumption) | assumption)
         have hx11:=bt_at a0 x7_1
         replace p11:=eq_true p11
         replace q11:=eq_true q11
         go_wp2_with (first | (go_at_call 82;(with_reducible refine (vouchref14_letter.calls (bt a0 x7_1) true _ A12.out).mono ?_);rintro e w' ⟨rfl,⟨nd,rfl⟩⟩))
         go_roundg k1
         case measure=>have:=HK1.out;omega
         case rel=>exact ⟨(wrap64 (x7_1 + 1)),(by first | rfl | (simp;done) | (simp [*];done) | (repeat (first | rfl | (unfold wrap64;omega) | congr 1))),H',⟨by have:=HK1.out;omega⟩,⟨by (with_reducible repeat (first | refine blk_drewN ?_ _ | refine blk_drew ?_ | refine blk_alloc ?_ _));exact BK469.out⟩,⟨by repeat (first | (with_reducible first | exact HB.out | apply below_alloc | apply pw_below_drewN | apply below_drew1 | refine below_set ?_ GE469.out) | exact HB.out)⟩⟩
        ·replace c13:=Bool.eq_false_iff.mpr c13
         subst c13
         have H1:((vouchref14_digit.f (bt a0 x7_1)).bind fun t472=>(if t472=true then (vouchref14_next.l0 k1 a0 a1 (wrap64 (x7_1 + 1))) else (if 0 ≤ a1 then (if a1 ≤ x7_1 then (if x7_1 ≤ (a0.size:Int) then (some (1,a0.extract (a1:Int).toNat (x7_1:Int).toNat,a1,x7_1,0,0)) else (none)) else (none)) else (none))))=some (r1,r2,r3,r4,r5,r6):=by rw [if_neg (show ¬ (false=true) by decide)] at H;exact H
         clear H
         have H:=H1
         clear H1
         replace H:=Option.bind_eq_some_iff.mp H
         obtain ⟨t472,A150,H⟩:=H
         replace H:(if t472=true then (vouchref14_next.l0 k1 a0 a1 (wrap64 (x7_1 + 1))) else (if 0 ≤ a1 then (if a1 ≤ x7_1 then (if x7_1 ≤ (a0.size:Int) then (some (1,a0.extract (a1:Int).toNat (x7_1:Int).toNat,a1,x7_1,0,0)) else (none)) else (none)) else (none)))=some (r1,r2,r3,r4,r5,r6):=H
         have A15:=Aside0.mk A150
         clear A150
         by_cases c16:t472=true
         ·subst c16
          have H1:(vouchref14_next.l0 k1 a0 a1 (wrap64 (x7_1 + 1)))=some (r1,r2,r3,r4,r5,r6):=by rw [if_pos rfl] at H;exact H
          clear H
          have H:=H1
          clear H1
          have H':=Aside0.mk H
          clear H
          have p11:0 ≤ (x7_1:Int):=of_decide_eq_true (by first | (with_reducible assumption) | assumption)
          have q11:x7_1 < (a0.size:Int):=of_decide_eq_true (by first | (with_reducible assumption) | assumption)
          have hx11:=bt_at a0 x7_1
          replace p11:=eq_true p11
          replace q11:=eq_true q11
          go_wp2_with (first | (go_at_call 82;(with_reducible refine (vouchref14_letter.calls (bt a0 x7_1) false _ A12.out).mono ?_);rintro e w' ⟨rfl,⟨nd,rfl⟩⟩;have p14:0 ≤ (x7_1:Int):=of_decide_eq_true (by first | (with_reducible assumption) | assumption);have q14:x7_1 < (a0.size:Int):=of_decide_eq_true (by first | (with_reducible assumption) | assumption);have hx14:=bt_at a0 x7_1;replace p14:=eq_true p14;replace q14:=eq_true q14) | (go_at_call 83;(with_reducible refine (vouchref14_digit.calls (bt a0 x7_1) true _ A15.out).mono ?_);rintro e w' ⟨rfl,⟨nd,rfl⟩⟩))
          go_roundg k1
          case measure=>have:=HK1.out;omega
          case rel=>exact ⟨(wrap64 (x7_1 + 1)),(by first | rfl | (simp;done) | (simp [*];done) | (repeat (first | rfl | (unfold wrap64;omega) | congr 1))),H',⟨by have:=HK1.out;omega⟩,⟨by (with_reducible repeat (first | refine blk_drewN ?_ _ | refine blk_drew ?_ | refine blk_alloc ?_ _));exact BK469.out⟩,⟨by repeat (first | (with_reducible first | exact HB.out | apply below_alloc | apply pw_below_drewN | apply below_drew1 | refine below_set ?_ GE469.out) | exact HB.out)⟩⟩
         ·replace c16:=Bool.eq_false_iff.mpr c16
          subst c16
          have H1:(if 0 ≤ a1 then (if a1 ≤ x7_1 then (if x7_1 ≤ (a0.size:Int) then (some (1,a0.extract (a1:Int).toNat (x7_1:Int).toNat,a1,x7_1,0,0)) else (none)) else (none)) else (none))=some (r1,r2,r3,r4,r5,r6):=by rw [if_neg (show ¬ (false=true) by decide)] at H;exact H
          clear H
          have H:=H1
          clear H1
          by_cases c17:0 ≤ a1
          ·rw [if_pos c17] at H
           have c17b0:=eq_true c17
           have c17b1:decide (0 ≤ a1)=true:=decide_eq_true c17
           clear c17
           by_cases c18:a1 ≤ x7_1
           ·rw [if_pos c18] at H
            have c18b0:=eq_true c18
            have c18b1:decide (a1 ≤ x7_1)=true:=decide_eq_true c18
            clear c18
            by_cases c19:x7_1 ≤ (a0.size:Int)
            ·rw [if_pos c19] at H
             have c19b0:=eq_true c19
             have c19b1:decide (x7_1 ≤ (a0.size:Int))=true:=decide_eq_true c19
             clear c19
             simp only [Option.some.injEq,Prod.mk.injEq] at H
             obtain ⟨rfl,rfl,rfl,rfl,rfl,rfl⟩:=H
             have p11:0 ≤ (x7_1:Int):=of_decide_eq_true (by first | (with_reducible assumption) | assumption)
             have q11:x7_1 < (a0.size:Int):=of_decide_eq_true (by first | (with_reducible assumption) | assumption)
             have hx11:=bt_at a0 x7_1
             replace p11:=eq_true p11
             replace q11:=eq_true q11
             go_wp2_with (first | (go_at_call 82;(with_reducible refine (vouchref14_letter.calls (bt a0 x7_1) false _ A12.out).mono ?_);rintro e w' ⟨rfl,⟨nd,rfl⟩⟩;(try (rw [drewN_self wr];generalize hq_:World.drewN wr _=wr;have n0_:Aside0 (wr.heap[gb469]? = some (.cells #[.int .u8 0,.string (⟨#[]⟩:ByteArray),.int .i64 0,.int .i64 0] 70 (0,0))):=⟨by rw [← hq_];exact (by (with_reducible repeat (first | refine blk_drewN ?_ _ | refine blk_drew ?_ | refine blk_alloc ?_ _));exact BK469.out)⟩;have n1_:Aside0 (Below w.heap.size w wr):=⟨by rw [← hq_];exact (by repeat (first | (with_reducible first | exact HB.out | apply below_alloc | apply pw_below_drewN | apply below_drew1 | refine below_set ?_ GE469.out) | exact HB.out))⟩;clear BK469 HB hq_;have BK469:=n0_;have HB:=n1_;clear n0_ n1_));have p14:0 ≤ (x7_1:Int):=of_decide_eq_true (by first | (with_reducible assumption) | assumption);have q14:x7_1 < (a0.size:Int):=of_decide_eq_true (by first | (with_reducible assumption) | assumption);have hx14:=bt_at a0 x7_1;replace p14:=eq_true p14;replace q14:=eq_true q14) | (go_at_call 83;(with_reducible refine (vouchref14_digit.calls (bt a0 x7_1) false _ A15.out).mono ?_);rintro e w' ⟨rfl,⟨nd,rfl⟩⟩;(try (rw [drewN_self wr];generalize hq_:World.drewN wr _=wr;have n0_:Aside0 (wr.heap[gb469]? = some (.cells #[.int .u8 0,.string (⟨#[]⟩:ByteArray),.int .i64 0,.int .i64 0] 70 (0,0))):=⟨by rw [← hq_];exact (by (with_reducible repeat (first | refine blk_drewN ?_ _ | refine blk_drew ?_ | refine blk_alloc ?_ _));exact BK469.out)⟩;have n1_:Aside0 (Below w.heap.size w wr):=⟨by rw [← hq_];exact (by repeat (first | (with_reducible first | exact HB.out | apply below_alloc | apply pw_below_drewN | apply below_drew1 | refine below_set ?_ GE469.out) | exact HB.out))⟩;clear BK469 HB hq_;have BK469:=n0_;have HB:=n1_;clear n0_ n1_));have hcz20_0:wr.cell? ⟨gb469,0,none⟩=some (.int .u8 0):=(blk_cell BK469.out 0).trans rfl;have hcz20_1:wr.cell? ⟨gb469,1,none⟩=some (.string (⟨#[]⟩:ByteArray)):=(blk_cell BK469.out 1).trans rfl;have hcz20_2:wr.cell? ⟨gb469,2,none⟩=some (.int .i64 0):=(blk_cell BK469.out 2).trans rfl;have hcz20_3:wr.cell? ⟨gb469,3,none⟩=some (.int .i64 0):=(blk_cell BK469.out 3).trans rfl;have hfz20_0:=blk_frozen BK469.out 0;have hfz20_1:=blk_frozen BK469.out 1;have hfz20_2:=blk_frozen BK469.out 2;have hfz20_3:=blk_frozen BK469.out 3))
             refine bodyPost_ret (results_ctt rfl _ _ gb469 70 #[.int .u8 1,.string (a0.extract (a1:Int).toNat (x7_1:Int).toNat),.int .i64 a1,.int .i64 x7_1] (0,0) _ rfl (by (with_reducible repeat (first | refine blk_drewN ?_ _ | refine blk_drew ?_ | refine blk_alloc ?_ _));refine blk_put (cs:=#[.int .u8 1,.string (a0.extract (a1:Int).toNat (x7_1:Int).toNat),.int .i64 a1,.int .i64 0]) ?_ 3 _ rfl;(with_reducible repeat (first | refine blk_drewN ?_ _ | refine blk_drew ?_ | refine blk_alloc ?_ _));refine blk_put (cs:=#[.int .u8 1,.string (a0.extract (a1:Int).toNat (x7_1:Int).toNat),.int .i64 0,.int .i64 0]) ?_ 2 _ rfl;(with_reducible repeat (first | refine blk_drewN ?_ _ | refine blk_drew ?_ | refine blk_alloc ?_ _));refine blk_put (cs:=#[.int .u8 1,.string (⟨#[]⟩:ByteArray),.int .i64 0,.int .i64 0]) ?_ 1 _ rfl;(with_reducible repeat (first | refine blk_drewN ?_ _ | refine blk_drew ?_ | refine blk_alloc ?_ _));refine blk_put (cs:=#[.int .u8 0,.string (⟨#[]⟩:ByteArray),.int .i64 0,.int .i64 0]) ?_ 0 _ rfl;(with_reducible repeat (first | refine blk_drewN ?_ _ | refine blk_drew ?_ | refine blk_alloc ?_ _));exact BK469.out) Tryz.underlying70 rfl (by kernel_rfl)) rfl ?_
             exact ⟨by first | rfl | (simp [errW_none,errW_some] <;> rfl) | (simp [*,errW_none,errW_some] <;> rfl),by repeat (first | (with_reducible first | exact HB.out | apply below_alloc | apply pw_below_drewN | apply below_drew1 | refine below_set ?_ GE469.out) | exact HB.out)⟩
            ·rw [if_neg c19] at H
             exact absurd H (by simp)
           ·rw [if_neg c18] at H
            exact absurd H (by simp)
          ·rw [if_neg c17] at H
           exact absurd H (by simp)
       ·rw [if_neg c10] at H
        exact absurd H (by simp)
      ·rw [if_neg c9] at H
       have c9b0:decide (x7_1 < (a0.size:Int))=false:=decide_eq_false c9
       clear c9
       by_cases c21:0 ≤ a1
       ·rw [if_pos c21] at H
        have c21b0:=eq_true c21
        have c21b1:decide (0 ≤ a1)=true:=decide_eq_true c21
        clear c21
        by_cases c22:a1 ≤ x7_1
        ·rw [if_pos c22] at H
         have c22b0:=eq_true c22
         have c22b1:decide (a1 ≤ x7_1)=true:=decide_eq_true c22
         clear c22
         by_cases c23:x7_1 ≤ (a0.size:Int)
         ·rw [if_pos c23] at H
          have c23b0:=eq_true c23
          have c23b1:decide (x7_1 ≤ (a0.size:Int))=true:=decide_eq_true c23
          clear c23
          simp only [Option.some.injEq,Prod.mk.injEq] at H
          obtain ⟨rfl,rfl,rfl,rfl,rfl,rfl⟩:=H
          have hcz24_0:wr.cell? ⟨gb469,0,none⟩=some (.int .u8 0):=(blk_cell BK469.out 0).trans rfl
          have hcz24_1:wr.cell? ⟨gb469,1,none⟩=some (.string (⟨#[]⟩:ByteArray)):=(blk_cell BK469.out 1).trans rfl
          have hcz24_2:wr.cell? ⟨gb469,2,none⟩=some (.int .i64 0):=(blk_cell BK469.out 2).trans rfl
          have hcz24_3:wr.cell? ⟨gb469,3,none⟩=some (.int .i64 0):=(blk_cell BK469.out 3).trans rfl
          have hfz24_0:=blk_frozen BK469.out 0
          have hfz24_1:=blk_frozen BK469.out 1
          have hfz24_2:=blk_frozen BK469.out 2
          have hfz24_3:=blk_frozen BK469.out 3
          go_wp2
          refine bodyPost_ret (results_ctt rfl _ _ gb469 70 #[.int .u8 1,.string (a0.extract (a1:Int).toNat (x7_1:Int).toNat),.int .i64 a1,.int .i64 x7_1] (0,0) _ rfl (by (with_reducible repeat (first | refine blk_drewN ?_ _ | refine blk_drew ?_ | refine blk_alloc ?_ _));refine blk_put (cs:=#[.int .u8 1,.string (a0.extract (a1:Int).toNat (x7_1:Int).toNat),.int .i64 a1,.int .i64 0]) ?_ 3 _ rfl;(with_reducible repeat (first | refine blk_drewN ?_ _ | refine blk_drew ?_ | refine blk_alloc ?_ _));refine blk_put (cs:=#[.int .u8 1,.string (a0.extract (a1:Int).toNat (x7_1:Int).toNat),.int .i64 0,.int .i64 0]) ?_ 2 _ rfl;(with_reducible repeat (first | refine blk_drewN ?_ _ | refine blk_drew ?_ | refine blk_alloc ?_ _));refine blk_put (cs:=#[.int .u8 1,.string (⟨#[]⟩:ByteArray),.int .i64 0,.int .i64 0]) ?_ 1 _ rfl;(with_reducible repeat (first | refine blk_drewN ?_ _ | refine blk_drew ?_ | refine blk_alloc ?_ _));refine blk_put (cs:=#[.int .u8 0,.string (⟨#[]⟩:ByteArray),.int .i64 0,.int .i64 0]) ?_ 0 _ rfl;(with_reducible repeat (first | refine blk_drewN ?_ _ | refine blk_drew ?_ | refine blk_alloc ?_ _));exact BK469.out) Tryz.underlying70 rfl (by kernel_rfl)) rfl ?_
          exact ⟨by first | rfl | (simp [errW_none,errW_some] <;> rfl) | (simp [*,errW_none,errW_some] <;> rfl),by repeat (first | (with_reducible first | exact HB.out | apply below_alloc | apply pw_below_drewN | apply below_drew1 | refine below_set ?_ GE469.out) | exact HB.out)⟩
         ·rw [if_neg c23] at H
          exact absurd H (by simp)
        ·rw [if_neg c22] at H
         exact absurd H (by simp)
       ·rw [if_neg c21] at H
        exact absurd H (by simp)
   ·replace c7:=Bool.eq_false_iff.mpr c7
    subst c7
    have H1:((vouchref14_digit.f (bt a0 a1)).bind fun t473=>(if t473=true then ((vouchref14_number.f k a0 a1).bind fun bt474=>(some (bt474.1,bt474.2.1,bt474.2.2.1,bt474.2.2.2,0,0))) else (if (bt a0 a1)=34 then ((vouchref14_quoted.f k a0 a1).bind fun bt478=>(some (bt478.1,bt478.2.1,bt478.2.2.1,bt478.2.2.2.1,bt478.2.2.2.2.1,bt478.2.2.2.2.2))) else ((vouchref14_sign.f k a0 a1).bind fun t484=>(if t484=0 then (some (0,(⟨#[]⟩:ByteArray),0,0,a1,140)) else (if a1 ≤ (wrap64 (a1 + t484)) then (if (wrap64 (a1 + t484)) ≤ (a0.size:Int) then (some (6,a0.extract (a1:Int).toNat ((wrap64 (a1 + t484)):Int).toNat,a1,wrap64 (a1 + t484),0,0)) else (none)) else (none)))))))=some (r1,r2,r3,r4,r5,r6):=by rw [if_neg (show ¬ (false=true) by decide)] at H;exact H
    clear H
    have H:=H1
    clear H1
    replace H:=Option.bind_eq_some_iff.mp H
    obtain ⟨t473,A260,H⟩:=H
    replace H:(if t473=true then ((vouchref14_number.f k a0 a1).bind fun bt474=>(some (bt474.1,bt474.2.1,bt474.2.2.1,bt474.2.2.2,0,0))) else (if (bt a0 a1)=34 then ((vouchref14_quoted.f k a0 a1).bind fun bt478=>(some (bt478.1,bt478.2.1,bt478.2.2.1,bt478.2.2.2.1,bt478.2.2.2.2.1,bt478.2.2.2.2.2))) else ((vouchref14_sign.f k a0 a1).bind fun t484=>(if t484=0 then (some (0,(⟨#[]⟩:ByteArray),0,0,a1,140)) else (if a1 ≤ (wrap64 (a1 + t484)) then (if (wrap64 (a1 + t484)) ≤ (a0.size:Int) then (some (6,a0.extract (a1:Int).toNat ((wrap64 (a1 + t484)):Int).toNat,a1,wrap64 (a1 + t484),0,0)) else (none)) else (none))))))=some (r1,r2,r3,r4,r5,r6):=H
    have A26:=Aside0.mk A260
    clear A260
    by_cases c27:t473=true
    ·subst c27
     have H1:((vouchref14_number.f k a0 a1).bind fun bt474=>(some (bt474.1,bt474.2.1,bt474.2.2.1,bt474.2.2.2,0,0)))=some (r1,r2,r3,r4,r5,r6):=by rw [if_pos rfl] at H;exact H
     clear H
     have H:=H1
     clear H1
     replace H:=Option.bind_eq_some_iff.mp H
     obtain ⟨⟨t474,t475,t476,t477⟩,A280,H⟩:=H
     replace H:(some (t474,t475,t476,t477,0,0))=some (r1,r2,r3,r4,r5,r6):=H
     have A28:=Aside0.mk A280
     clear A280
     simp only [Option.some.injEq,Prod.mk.injEq] at H
     obtain ⟨rfl,rfl,rfl,rfl,rfl,rfl⟩:=H
     go_enter Tryz.func61,Tryz.ntmps61
     go_wp2_with (first | ((with_reducible refine gate_dst (N:=4) rfl ?_);refine box_event ?hg (N:=4) ?hd (cs:=#[.int .u8 0,.string (⟨#[]⟩:ByteArray),.int .i64 0,.int .i64 0]) (t:=70) ?hr ?_;(case hd=>rfl);(case hg=>rfl);(case hr=>first | (go_simp;done) | (go_simp;rfl));intro gb469 hg w29 hbox hb;have n0_:=Aside0.mk (below_step (by repeat (first | (with_reducible first | exact HB.out | apply below_alloc | apply pw_below_drewN | apply below_drew1) | exact HB.out)) hb);have n1_:=Aside0.mk (hbox);have n2_:=Aside0.mk ((by rw [hg];exact (below_size (by repeat (first | (with_reducible first | exact HB.out | apply below_alloc | apply pw_below_drewN | apply below_drew1) | exact HB.out))):w.heap.size ≤ gb469));have n3_:=Aside0.mk ((by rw [hg];exact (below_size (by repeat (first | (with_reducible first | exact HB.out | apply below_alloc | apply pw_below_drewN | apply below_drew1) | exact HB.out))):w.heap.size ≤ gb469));clear HB;have HB:=n0_;have BK469:=n1_;have GW469:=n2_;have GE469:=n3_;clear n0_ n1_ n2_ n3_;clear hb hbox hg;have p5:0 ≤ (a1:Int):=of_decide_eq_true (by first | (with_reducible assumption) | assumption);have q5:a1 < (a0.size:Int):=of_decide_eq_true (by first | (with_reducible assumption) | assumption);have hx5:=bt_at a0 a1;replace p5:=eq_true p5;replace q5:=eq_true q5) | ((with_reducible refine gate_callee (f:=82) rfl ?_);refine goesL_ (some 12) rfl rfl Tryz.func82 (by kernel_rfl) rfl #[.int .u8 (bt a0 a1)] rfl (by (try simp only [List.map_toArray,List.map_cons,List.map_nil]);first | done | rfl | (simp only [List.length_drop,List.length_take];rfl)) ?_;(with_reducible refine (vouchref14_letter.calls (bt a0 a1) false _ A6.out).mono ?_);rintro e w' ⟨rfl,⟨nd,rfl⟩⟩;refine ⟨_,rfl,?_⟩;(try (rw [drewN_self w29];generalize hq_:World.drewN w29 _=w29;have n0_:Aside0 (w29.heap[gb469]? = some (.cells #[.int .u8 0,.string (⟨#[]⟩:ByteArray),.int .i64 0,.int .i64 0] 70 (0,0))):=⟨by rw [← hq_];exact (by (with_reducible repeat (first | refine blk_drewN ?_ _ | refine blk_drew ?_ | refine blk_alloc ?_ _));exact BK469.out)⟩;have n1_:Aside0 (Below w.heap.size w w29):=⟨by rw [← hq_];exact (by repeat (first | (with_reducible first | exact HB.out | apply below_alloc | apply pw_below_drewN | apply below_drew1 | refine below_set ?_ GE469.out) | exact HB.out))⟩;clear BK469 HB hq_;have BK469:=n0_;have HB:=n1_;clear n0_ n1_));have p25:0 ≤ (a1:Int):=of_decide_eq_true (by first | (with_reducible assumption) | assumption);have q25:a1 < (a0.size:Int):=of_decide_eq_true (by first | (with_reducible assumption) | assumption);have hx25:=bt_at a0 a1;replace p25:=eq_true p25;replace q25:=eq_true q25) | ((with_reducible refine gate_callee (f:=83) rfl ?_);refine goesL_ (some 42) rfl rfl Tryz.func83 (by kernel_rfl) rfl #[.int .u8 (bt a0 a1)] rfl (by (try simp only [List.map_toArray,List.map_cons,List.map_nil]);first | done | rfl | (simp only [List.length_drop,List.length_take];rfl)) ?_;(with_reducible refine (vouchref14_digit.calls (bt a0 a1) true _ A26.out).mono ?_);rintro e w' ⟨rfl,⟨nd,rfl⟩⟩;refine ⟨_,rfl,?_⟩;(try (rw [drewN_self w29];generalize hq_:World.drewN w29 _=w29;have n0_:Aside0 (w29.heap[gb469]? = some (.cells #[.int .u8 0,.string (⟨#[]⟩:ByteArray),.int .i64 0,.int .i64 0] 70 (0,0))):=⟨by rw [← hq_];exact (by (with_reducible repeat (first | refine blk_drewN ?_ _ | refine blk_drew ?_ | refine blk_alloc ?_ _));exact BK469.out)⟩;have n1_:Aside0 (Below w.heap.size w w29):=⟨by rw [← hq_];exact (by repeat (first | (with_reducible first | exact HB.out | apply below_alloc | apply pw_below_drewN | apply below_drew1 | refine below_set ?_ GE469.out) | exact HB.out))⟩;clear BK469 HB hq_;have BK469:=n0_;have HB:=n1_;clear n0_ n1_))) | ((with_reducible refine gate_callee (f:=84) rfl ?_);refine goesL_ (some 45) rfl rfl Tryz.func84 (by kernel_rfl) rfl #[.string a0,.int .i64 a1] rfl (by (try simp only [List.map_toArray,List.map_cons,List.map_nil]);first | done | rfl | (simp only [List.length_drop,List.length_take];rfl)) ?_;(with_reducible refine (vouchref14_number.calls k a0 a1 t474 t475 t476 t477 _ A28.out).mono ?_);rintro e w30 ⟨rfl,hb⟩;refine ⟨_,rfl,?_⟩;have n0_:=Aside0.mk (blk_below (g:=gb469) (o:=.cells #[.int .u8 0,.string (⟨#[]⟩:ByteArray),.int .i64 0,.int .i64 0] 70 (0,0)) (by (with_reducible repeat (first | refine blk_drewN ?_ _ | refine blk_drew ?_ | refine blk_alloc ?_ _));exact BK469.out) hb);have n1_:=Aside0.mk (below_step (by repeat (first | (with_reducible first | exact HB.out | apply below_alloc | apply pw_below_drewN | apply below_drew1 | refine below_set ?_ GE469.out) | exact HB.out)) hb);clear BK469;clear HB;have BK469:=n0_;have HB:=n1_;clear n0_ n1_;(try clear hb);(try clear hb2);(try clear hk);(try clear hi);have hcz31_0:w30.cell? ⟨gb469,0,none⟩=some (.int .u8 0):=(blk_cell BK469.out 0).trans rfl;have hcz31_1:w30.cell? ⟨gb469,1,none⟩=some (.string (⟨#[]⟩:ByteArray)):=(blk_cell BK469.out 1).trans rfl;have hcz31_2:w30.cell? ⟨gb469,2,none⟩=some (.int .i64 0):=(blk_cell BK469.out 2).trans rfl;have hcz31_3:w30.cell? ⟨gb469,3,none⟩=some (.int .i64 0):=(blk_cell BK469.out 3).trans rfl;have hfz31_0:=blk_frozen BK469.out 0;have hfz31_1:=blk_frozen BK469.out 1;have hfz31_2:=blk_frozen BK469.out 2;have hfz31_3:=blk_frozen BK469.out 3))
     refine bodyPost_ret (results_ctt rfl _ _ gb469 70 #[.int .u8 t474,.string t475,.int .i64 t476,.int .i64 t477] (0,0) _ rfl (by (with_reducible repeat (first | refine blk_drewN ?_ _ | refine blk_drew ?_ | refine blk_alloc ?_ _));refine blk_put (cs:=#[.int .u8 t474,.string t475,.int .i64 t476,.int .i64 0]) ?_ 3 _ rfl;(with_reducible repeat (first | refine blk_drewN ?_ _ | refine blk_drew ?_ | refine blk_alloc ?_ _));refine blk_put (cs:=#[.int .u8 t474,.string t475,.int .i64 0,.int .i64 0]) ?_ 2 _ rfl;(with_reducible repeat (first | refine blk_drewN ?_ _ | refine blk_drew ?_ | refine blk_alloc ?_ _));refine blk_put (cs:=#[.int .u8 t474,.string (⟨#[]⟩:ByteArray),.int .i64 0,.int .i64 0]) ?_ 1 _ rfl;(with_reducible repeat (first | refine blk_drewN ?_ _ | refine blk_drew ?_ | refine blk_alloc ?_ _));refine blk_put (cs:=#[.int .u8 0,.string (⟨#[]⟩:ByteArray),.int .i64 0,.int .i64 0]) ?_ 0 _ rfl;(with_reducible repeat (first | refine blk_drewN ?_ _ | refine blk_drew ?_ | refine blk_alloc ?_ _));exact BK469.out) Tryz.underlying70 rfl (by kernel_rfl)) rfl ?_
     exact ⟨by first | rfl | (simp [errW_none,errW_some] <;> rfl) | (simp [*,errW_none,errW_some] <;> rfl),by repeat (first | (with_reducible first | exact HB.out | apply below_alloc | apply pw_below_drewN | apply below_drew1 | refine below_set ?_ GE469.out) | exact HB.out)⟩
    ·replace c27:=Bool.eq_false_iff.mpr c27
     subst c27
     have H1:(if (bt a0 a1)=34 then ((vouchref14_quoted.f k a0 a1).bind fun bt478=>(some (bt478.1,bt478.2.1,bt478.2.2.1,bt478.2.2.2.1,bt478.2.2.2.2.1,bt478.2.2.2.2.2))) else ((vouchref14_sign.f k a0 a1).bind fun t484=>(if t484=0 then (some (0,(⟨#[]⟩:ByteArray),0,0,a1,140)) else (if a1 ≤ (wrap64 (a1 + t484)) then (if (wrap64 (a1 + t484)) ≤ (a0.size:Int) then (some (6,a0.extract (a1:Int).toNat ((wrap64 (a1 + t484)):Int).toNat,a1,wrap64 (a1 + t484),0,0)) else (none)) else (none)))))=some (r1,r2,r3,r4,r5,r6):=by rw [if_neg (show ¬ (false=true) by decide)] at H;exact H
     clear H
     have H:=H1
     clear H1
     by_cases c33:(bt a0 a1)=34
     ·rw [if_pos c33] at H
      have c33b0:((bt a0 a1) == 34)=true:=beq_iff_eq.mpr c33
      have c33b1:((bt a0 a1) != 34)=false:=bne_eq_false_iff_eq.mpr c33
      clear c33
      replace H:=Option.bind_eq_some_iff.mp H
      obtain ⟨⟨t478,t479,t480,t481,t482,t483⟩,A340,H⟩:=H
      replace H:(some (t478,t479,t480,t481,t482,t483))=some (r1,r2,r3,r4,r5,r6):=H
      have A34:=Aside0.mk A340
      clear A340
      simp only [Option.some.injEq,Prod.mk.injEq] at H
      obtain ⟨rfl,rfl,rfl,rfl,rfl,rfl⟩:=H
      go_enter Tryz.func61,Tryz.ntmps61
      go_wp2_with (first | ((with_reducible refine gate_dst (N:=4) rfl ?_);refine box_event ?hg (N:=4) ?hd (cs:=#[.int .u8 0,.string (⟨#[]⟩:ByteArray),.int .i64 0,.int .i64 0]) (t:=70) ?hr ?_;(case hd=>rfl);(case hg=>rfl);(case hr=>first | (go_simp;done) | (go_simp;rfl));intro gb469 hg w35 hbox hb;have n0_:=Aside0.mk (below_step (by repeat (first | (with_reducible first | exact HB.out | apply below_alloc | apply pw_below_drewN | apply below_drew1) | exact HB.out)) hb);have n1_:=Aside0.mk (hbox);have n2_:=Aside0.mk ((by rw [hg];exact (below_size (by repeat (first | (with_reducible first | exact HB.out | apply below_alloc | apply pw_below_drewN | apply below_drew1) | exact HB.out))):w.heap.size ≤ gb469));have n3_:=Aside0.mk ((by rw [hg];exact (below_size (by repeat (first | (with_reducible first | exact HB.out | apply below_alloc | apply pw_below_drewN | apply below_drew1) | exact HB.out))):w.heap.size ≤ gb469));clear HB;have HB:=n0_;have BK469:=n1_;have GW469:=n2_;have GE469:=n3_;clear n0_ n1_ n2_ n3_;clear hb hbox hg;have p5:0 ≤ (a1:Int):=of_decide_eq_true (by first | (with_reducible assumption) | assumption);have q5:a1 < (a0.size:Int):=of_decide_eq_true (by first | (with_reducible assumption) | assumption);have hx5:=bt_at a0 a1;replace p5:=eq_true p5;replace q5:=eq_true q5) | ((with_reducible refine gate_callee (f:=82) rfl ?_);refine goesL_ (some 12) rfl rfl Tryz.func82 (by kernel_rfl) rfl #[.int .u8 (bt a0 a1)] rfl (by (try simp only [List.map_toArray,List.map_cons,List.map_nil]);first | done | rfl | (simp only [List.length_drop,List.length_take];rfl)) ?_;(with_reducible refine (vouchref14_letter.calls (bt a0 a1) false _ A6.out).mono ?_);rintro e w' ⟨rfl,⟨nd,rfl⟩⟩;refine ⟨_,rfl,?_⟩;(try (rw [drewN_self w35];generalize hq_:World.drewN w35 _=w35;have n0_:Aside0 (w35.heap[gb469]? = some (.cells #[.int .u8 0,.string (⟨#[]⟩:ByteArray),.int .i64 0,.int .i64 0] 70 (0,0))):=⟨by rw [← hq_];exact (by (with_reducible repeat (first | refine blk_drewN ?_ _ | refine blk_drew ?_ | refine blk_alloc ?_ _));exact BK469.out)⟩;have n1_:Aside0 (Below w.heap.size w w35):=⟨by rw [← hq_];exact (by repeat (first | (with_reducible first | exact HB.out | apply below_alloc | apply pw_below_drewN | apply below_drew1 | refine below_set ?_ GE469.out) | exact HB.out))⟩;clear BK469 HB hq_;have BK469:=n0_;have HB:=n1_;clear n0_ n1_));have p25:0 ≤ (a1:Int):=of_decide_eq_true (by first | (with_reducible assumption) | assumption);have q25:a1 < (a0.size:Int):=of_decide_eq_true (by first | (with_reducible assumption) | assumption);have hx25:=bt_at a0 a1;replace p25:=eq_true p25;replace q25:=eq_true q25) | ((with_reducible refine gate_callee (f:=83) rfl ?_);refine goesL_ (some 42) rfl rfl Tryz.func83 (by kernel_rfl) rfl #[.int .u8 (bt a0 a1)] rfl (by (try simp only [List.map_toArray,List.map_cons,List.map_nil]);first | done | rfl | (simp only [List.length_drop,List.length_take];rfl)) ?_;(with_reducible refine (vouchref14_digit.calls (bt a0 a1) false _ A26.out).mono ?_);rintro e w' ⟨rfl,⟨nd,rfl⟩⟩;refine ⟨_,rfl,?_⟩;(try (rw [drewN_self w35];generalize hq_:World.drewN w35 _=w35;have n0_:Aside0 (w35.heap[gb469]? = some (.cells #[.int .u8 0,.string (⟨#[]⟩:ByteArray),.int .i64 0,.int .i64 0] 70 (0,0))):=⟨by rw [← hq_];exact (by (with_reducible repeat (first | refine blk_drewN ?_ _ | refine blk_drew ?_ | refine blk_alloc ?_ _));exact BK469.out)⟩;have n1_:Aside0 (Below w.heap.size w w35):=⟨by rw [← hq_];exact (by repeat (first | (with_reducible first | exact HB.out | apply below_alloc | apply pw_below_drewN | apply below_drew1 | refine below_set ?_ GE469.out) | exact HB.out))⟩;clear BK469 HB hq_;have BK469:=n0_;have HB:=n1_;clear n0_ n1_));have p32:0 ≤ (a1:Int):=of_decide_eq_true (by first | (with_reducible assumption) | assumption);have q32:a1 < (a0.size:Int):=of_decide_eq_true (by first | (with_reducible assumption) | assumption);have hx32:=bt_at a0 a1;replace p32:=eq_true p32;replace q32:=eq_true q32) | ((with_reducible refine gate_callee (f:=85) rfl ?_);refine goesL_ (some 52) rfl rfl Tryz.func85 (by kernel_rfl) rfl #[.string a0,.int .i64 a1] rfl (by (try simp only [List.map_toArray,List.map_cons,List.map_nil]);first | done | rfl | (simp only [List.length_drop,List.length_take];rfl)) ?_;(with_reducible refine (vouchref14_quoted.calls k a0 a1 t478 t479 t480 t481 t482 t483 _ A34.out).mono ?_);rintro e w36 ⟨rfl,hb⟩;refine ⟨_,rfl,?_⟩;have n0_:=Aside0.mk (blk_below (g:=gb469) (o:=.cells #[.int .u8 0,.string (⟨#[]⟩:ByteArray),.int .i64 0,.int .i64 0] 70 (0,0)) (by (with_reducible repeat (first | refine blk_drewN ?_ _ | refine blk_drew ?_ | refine blk_alloc ?_ _));exact BK469.out) hb);have n1_:=Aside0.mk (below_step (by repeat (first | (with_reducible first | exact HB.out | apply below_alloc | apply pw_below_drewN | apply below_drew1 | refine below_set ?_ GE469.out) | exact HB.out)) hb);clear BK469;clear HB;have BK469:=n0_;have HB:=n1_;clear n0_ n1_;(try clear hb);(try clear hb2);(try clear hk);(try clear hi);have hcz37_0:w36.cell? ⟨gb469,0,none⟩=some (.int .u8 0):=(blk_cell BK469.out 0).trans rfl;have hcz37_1:w36.cell? ⟨gb469,1,none⟩=some (.string (⟨#[]⟩:ByteArray)):=(blk_cell BK469.out 1).trans rfl;have hcz37_2:w36.cell? ⟨gb469,2,none⟩=some (.int .i64 0):=(blk_cell BK469.out 2).trans rfl;have hcz37_3:w36.cell? ⟨gb469,3,none⟩=some (.int .i64 0):=(blk_cell BK469.out 3).trans rfl;have hfz37_0:=blk_frozen BK469.out 0;have hfz37_1:=blk_frozen BK469.out 1;have hfz37_2:=blk_frozen BK469.out 2;have hfz37_3:=blk_frozen BK469.out 3))
      refine bodyPost_ret (results_ctt rfl _ _ gb469 70 #[.int .u8 t478,.string t479,.int .i64 t480,.int .i64 t481] (0,0) _ rfl (by (with_reducible repeat (first | refine blk_drewN ?_ _ | refine blk_drew ?_ | refine blk_alloc ?_ _));refine blk_put (cs:=#[.int .u8 t478,.string t479,.int .i64 t480,.int .i64 0]) ?_ 3 _ rfl;(with_reducible repeat (first | refine blk_drewN ?_ _ | refine blk_drew ?_ | refine blk_alloc ?_ _));refine blk_put (cs:=#[.int .u8 t478,.string t479,.int .i64 0,.int .i64 0]) ?_ 2 _ rfl;(with_reducible repeat (first | refine blk_drewN ?_ _ | refine blk_drew ?_ | refine blk_alloc ?_ _));refine blk_put (cs:=#[.int .u8 t478,.string (⟨#[]⟩:ByteArray),.int .i64 0,.int .i64 0]) ?_ 1 _ rfl;(with_reducible repeat (first | refine blk_drewN ?_ _ | refine blk_drew ?_ | refine blk_alloc ?_ _));refine blk_put (cs:=#[.int .u8 0,.string (⟨#[]⟩:ByteArray),.int .i64 0,.int .i64 0]) ?_ 0 _ rfl;(with_reducible repeat (first | refine blk_drewN ?_ _ | refine blk_drew ?_ | refine blk_alloc ?_ _));exact BK469.out) Tryz.underlying70 rfl (by kernel_rfl)) rfl ?_
      exact ⟨by first | rfl | (simp [errW_none,errW_some] <;> rfl) | (simp [*,errW_none,errW_some] <;> rfl),by repeat (first | (with_reducible first | exact HB.out | apply below_alloc | apply pw_below_drewN | apply below_drew1 | refine below_set ?_ GE469.out) | exact HB.out)⟩
     ·rw [if_neg c33] at H
      have c33b0:((bt a0 a1) == 34)=false:=beq_eq_false_iff_ne.mpr c33
      have c33b1:((bt a0 a1) != 34)=true:=bne_iff_ne.mpr c33
      replace H:=Option.bind_eq_some_iff.mp H
      obtain ⟨t484,A380,H⟩:=H
      replace H:(if t484=0 then (some (0,(⟨#[]⟩:ByteArray),0,0,a1,140)) else (if a1 ≤ (wrap64 (a1 + t484)) then (if (wrap64 (a1 + t484)) ≤ (a0.size:Int) then (some (6,a0.extract (a1:Int).toNat ((wrap64 (a1 + t484)):Int).toNat,a1,wrap64 (a1 + t484),0,0)) else (none)) else (none)))=some (r1,r2,r3,r4,r5,r6):=H
      have A38:=Aside0.mk A380
      clear A380
      by_cases c39:t484=0
      ·rw [if_pos c39] at H
       have c39b0:(t484 == 0)=true:=beq_iff_eq.mpr c39
       have c39b1:(t484 != 0)=false:=bne_eq_false_iff_eq.mpr c39
       clear c39
       simp only [Option.some.injEq,Prod.mk.injEq] at H
       obtain ⟨rfl,rfl,rfl,rfl,rfl,rfl⟩:=H
       go_enter Tryz.func61,Tryz.ntmps61
       go_wp2_with (first | ((with_reducible refine gate_dst (N:=4) rfl ?_);refine box_event ?hg (N:=4) ?hd (cs:=#[.int .u8 0,.string (⟨#[]⟩:ByteArray),.int .i64 0,.int .i64 0]) (t:=70) ?hr ?_;(case hd=>rfl);(case hg=>rfl);(case hr=>first | (go_simp;done) | (go_simp;rfl));intro gb469 hg w40 hbox hb;have n0_:=Aside0.mk (below_step (by repeat (first | (with_reducible first | exact HB.out | apply below_alloc | apply pw_below_drewN | apply below_drew1) | exact HB.out)) hb);have n1_:=Aside0.mk (hbox);have n2_:=Aside0.mk ((by rw [hg];exact (below_size (by repeat (first | (with_reducible first | exact HB.out | apply below_alloc | apply pw_below_drewN | apply below_drew1) | exact HB.out))):w.heap.size ≤ gb469));have n3_:=Aside0.mk ((by rw [hg];exact (below_size (by repeat (first | (with_reducible first | exact HB.out | apply below_alloc | apply pw_below_drewN | apply below_drew1) | exact HB.out))):w.heap.size ≤ gb469));clear HB;have HB:=n0_;have BK469:=n1_;have GW469:=n2_;have GE469:=n3_;clear n0_ n1_ n2_ n3_;clear hb hbox hg;have p5:0 ≤ (a1:Int):=of_decide_eq_true (by first | (with_reducible assumption) | assumption);have q5:a1 < (a0.size:Int):=of_decide_eq_true (by first | (with_reducible assumption) | assumption);have hx5:=bt_at a0 a1;replace p5:=eq_true p5;replace q5:=eq_true q5) | ((with_reducible refine gate_callee (f:=82) rfl ?_);refine goesL_ (some 12) rfl rfl Tryz.func82 (by kernel_rfl) rfl #[.int .u8 (bt a0 a1)] rfl (by (try simp only [List.map_toArray,List.map_cons,List.map_nil]);first | done | rfl | (simp only [List.length_drop,List.length_take];rfl)) ?_;(with_reducible refine (vouchref14_letter.calls (bt a0 a1) false _ A6.out).mono ?_);rintro e w' ⟨rfl,⟨nd,rfl⟩⟩;refine ⟨_,rfl,?_⟩;(try (rw [drewN_self w40];generalize hq_:World.drewN w40 _=w40;have n0_:Aside0 (w40.heap[gb469]? = some (.cells #[.int .u8 0,.string (⟨#[]⟩:ByteArray),.int .i64 0,.int .i64 0] 70 (0,0))):=⟨by rw [← hq_];exact (by (with_reducible repeat (first | refine blk_drewN ?_ _ | refine blk_drew ?_ | refine blk_alloc ?_ _));exact BK469.out)⟩;have n1_:Aside0 (Below w.heap.size w w40):=⟨by rw [← hq_];exact (by repeat (first | (with_reducible first | exact HB.out | apply below_alloc | apply pw_below_drewN | apply below_drew1 | refine below_set ?_ GE469.out) | exact HB.out))⟩;clear BK469 HB hq_;have BK469:=n0_;have HB:=n1_;clear n0_ n1_));have p25:0 ≤ (a1:Int):=of_decide_eq_true (by first | (with_reducible assumption) | assumption);have q25:a1 < (a0.size:Int):=of_decide_eq_true (by first | (with_reducible assumption) | assumption);have hx25:=bt_at a0 a1;replace p25:=eq_true p25;replace q25:=eq_true q25) | ((with_reducible refine gate_callee (f:=83) rfl ?_);refine goesL_ (some 42) rfl rfl Tryz.func83 (by kernel_rfl) rfl #[.int .u8 (bt a0 a1)] rfl (by (try simp only [List.map_toArray,List.map_cons,List.map_nil]);first | done | rfl | (simp only [List.length_drop,List.length_take];rfl)) ?_;(with_reducible refine (vouchref14_digit.calls (bt a0 a1) false _ A26.out).mono ?_);rintro e w' ⟨rfl,⟨nd,rfl⟩⟩;refine ⟨_,rfl,?_⟩;(try (rw [drewN_self w40];generalize hq_:World.drewN w40 _=w40;have n0_:Aside0 (w40.heap[gb469]? = some (.cells #[.int .u8 0,.string (⟨#[]⟩:ByteArray),.int .i64 0,.int .i64 0] 70 (0,0))):=⟨by rw [← hq_];exact (by (with_reducible repeat (first | refine blk_drewN ?_ _ | refine blk_drew ?_ | refine blk_alloc ?_ _));exact BK469.out)⟩;have n1_:Aside0 (Below w.heap.size w w40):=⟨by rw [← hq_];exact (by repeat (first | (with_reducible first | exact HB.out | apply below_alloc | apply pw_below_drewN | apply below_drew1 | refine below_set ?_ GE469.out) | exact HB.out))⟩;clear BK469 HB hq_;have BK469:=n0_;have HB:=n1_;clear n0_ n1_));have p32:0 ≤ (a1:Int):=of_decide_eq_true (by first | (with_reducible assumption) | assumption);have q32:a1 < (a0.size:Int):=of_decide_eq_true (by first | (with_reducible assumption) | assumption);have hx32:=bt_at a0 a1;replace p32:=eq_true p32;replace q32:=eq_true q32) | ((with_reducible refine gate_callee (f:=86) rfl ?_);refine goesL_ (some 58) rfl rfl Tryz.func86 (by kernel_rfl) rfl #[.string a0,.int .i64 a1] rfl (by (try simp only [List.map_toArray,List.map_cons,List.map_nil]);first | done | rfl | (simp only [List.length_drop,List.length_take];rfl)) ?_;(with_reducible refine (vouchref14_sign.calls k a0 a1 t484 _ A38.out).mono ?_);rintro e w41 ⟨rfl,hb⟩;refine ⟨_,rfl,?_⟩;have n0_:=Aside0.mk (blk_below (g:=gb469) (o:=.cells #[.int .u8 0,.string (⟨#[]⟩:ByteArray),.int .i64 0,.int .i64 0] 70 (0,0)) (by (with_reducible repeat (first | refine blk_drewN ?_ _ | refine blk_drew ?_ | refine blk_alloc ?_ _));exact BK469.out) hb);have n1_:=Aside0.mk (below_step (by repeat (first | (with_reducible first | exact HB.out | apply below_alloc | apply pw_below_drewN | apply below_drew1 | refine below_set ?_ GE469.out) | exact HB.out)) hb);clear BK469;clear HB;have BK469:=n0_;have HB:=n1_;clear n0_ n1_;(try clear hb);(try clear hb2);(try clear hk);(try clear hi);have hcz42_0:w41.cell? ⟨gb469,0,none⟩=some (.int .u8 0):=(blk_cell BK469.out 0).trans rfl;have hcz42_1:w41.cell? ⟨gb469,1,none⟩=some (.string (⟨#[]⟩:ByteArray)):=(blk_cell BK469.out 1).trans rfl;have hcz42_2:w41.cell? ⟨gb469,2,none⟩=some (.int .i64 0):=(blk_cell BK469.out 2).trans rfl;have hcz42_3:w41.cell? ⟨gb469,3,none⟩=some (.int .i64 0):=(blk_cell BK469.out 3).trans rfl;have hfz42_0:=blk_frozen BK469.out 0;have hfz42_1:=blk_frozen BK469.out 1;have hfz42_2:=blk_frozen BK469.out 2;have hfz42_3:=blk_frozen BK469.out 3))
       refine bodyPost_ret (results_ctt rfl _ _ gb469 70 #[.int .u8 0,.string (⟨#[]⟩:ByteArray),.int .i64 0,.int .i64 0] (0,0) _ rfl (by (with_reducible repeat (first | refine blk_drewN ?_ _ | refine blk_drew ?_ | refine blk_alloc ?_ _));refine blk_put (cs:=#[.int .u8 0,.string (⟨#[]⟩:ByteArray),.int .i64 0,.int .i64 0]) ?_ 3 _ rfl;(with_reducible repeat (first | refine blk_drewN ?_ _ | refine blk_drew ?_ | refine blk_alloc ?_ _));refine blk_put (cs:=#[.int .u8 0,.string (⟨#[]⟩:ByteArray),.int .i64 0,.int .i64 0]) ?_ 2 _ rfl;(with_reducible repeat (first | refine blk_drewN ?_ _ | refine blk_drew ?_ | refine blk_alloc ?_ _));refine blk_put (cs:=#[.int .u8 0,.string (⟨#[]⟩:ByteArray),.int .i64 0,.int .i64 0]) ?_ 1 _ rfl;(with_reducible repeat (first | refine blk_drewN ?_ _ | refine blk_drew ?_ | refine blk_alloc ?_ _));refine blk_put (cs:=#[.int .u8 0,.string (⟨#[]⟩:ByteArray),.int .i64 0,.int .i64 0]) ?_ 0 _ rfl;(with_reducible repeat (first | refine blk_drewN ?_ _ | refine blk_drew ?_ | refine blk_alloc ?_ _));exact BK469.out) Tryz.underlying70 rfl (by kernel_rfl)) rfl ?_
       exact ⟨by first | rfl | (simp [errW_none,errW_some] <;> rfl) | (simp [*,errW_none,errW_some] <;> rfl),by repeat (first | (with_reducible first | exact HB.out | apply below_alloc | apply pw_below_drewN | apply below_drew1 | refine below_set ?_ GE469.out) | exact HB.out)⟩
      ·rw [if_neg c39] at H
       have c39b0:(t484 == 0)=false:=beq_eq_false_iff_ne.mpr c39
       have c39b1:(t484 != 0)=true:=bne_iff_ne.mpr c39
       have c43b0:=eq_true (of_decide_eq_true (by first | (with_reducible assumption) | assumption):0 ≤ a1)
       by_cases c44:a1 ≤ (wrap64 (a1 + t484))
       ·rw [if_pos c44] at H
        have c44b0:=eq_true c44
        have c44b1:decide (a1 ≤ (wrap64 (a1 + t484)))=true:=decide_eq_true c44
        by_cases c45:(wrap64 (a1 + t484)) ≤ (a0.size:Int)
        ·rw [if_pos c45] at H
         have c45b0:=eq_true c45
         have c45b1:decide ((wrap64 (a1 + t484)) ≤ (a0.size:Int))=true:=decide_eq_true c45
         simp only [Option.some.injEq,Prod.mk.injEq] at H
         obtain ⟨rfl,rfl,rfl,rfl,rfl,rfl⟩:=H
         go_enter Tryz.func61,Tryz.ntmps61
         go_wp2_with (first | ((with_reducible refine gate_dst (N:=4) rfl ?_);refine box_event ?hg (N:=4) ?hd (cs:=#[.int .u8 0,.string (⟨#[]⟩:ByteArray),.int .i64 0,.int .i64 0]) (t:=70) ?hr ?_;(case hd=>rfl);(case hg=>rfl);(case hr=>first | (go_simp;done) | (go_simp;rfl));intro gb469 hg w46 hbox hb;have n0_:=Aside0.mk (below_step (by repeat (first | (with_reducible first | exact HB.out | apply below_alloc | apply pw_below_drewN | apply below_drew1) | exact HB.out)) hb);have n1_:=Aside0.mk (hbox);have n2_:=Aside0.mk ((by rw [hg];exact (below_size (by repeat (first | (with_reducible first | exact HB.out | apply below_alloc | apply pw_below_drewN | apply below_drew1) | exact HB.out))):w.heap.size ≤ gb469));have n3_:=Aside0.mk ((by rw [hg];exact (below_size (by repeat (first | (with_reducible first | exact HB.out | apply below_alloc | apply pw_below_drewN | apply below_drew1) | exact HB.out))):w.heap.size ≤ gb469));clear HB;have HB:=n0_;have BK469:=n1_;have GW469:=n2_;have GE469:=n3_;clear n0_ n1_ n2_ n3_;clear hb hbox hg;have p5:0 ≤ (a1:Int):=of_decide_eq_true (by first | (with_reducible assumption) | assumption);have q5:a1 < (a0.size:Int):=of_decide_eq_true (by first | (with_reducible assumption) | assumption);have hx5:=bt_at a0 a1;replace p5:=eq_true p5;replace q5:=eq_true q5) | ((with_reducible refine gate_callee (f:=82) rfl ?_);refine goesL_ (some 12) rfl rfl Tryz.func82 (by kernel_rfl) rfl #[.int .u8 (bt a0 a1)] rfl (by (try simp only [List.map_toArray,List.map_cons,List.map_nil]);first | done | rfl | (simp only [List.length_drop,List.length_take];rfl)) ?_;(with_reducible refine (vouchref14_letter.calls (bt a0 a1) false _ A6.out).mono ?_);rintro e w' ⟨rfl,⟨nd,rfl⟩⟩;refine ⟨_,rfl,?_⟩;(try (rw [drewN_self w46];generalize hq_:World.drewN w46 _=w46;have n0_:Aside0 (w46.heap[gb469]? = some (.cells #[.int .u8 0,.string (⟨#[]⟩:ByteArray),.int .i64 0,.int .i64 0] 70 (0,0))):=⟨by rw [← hq_];exact (by (with_reducible repeat (first | refine blk_drewN ?_ _ | refine blk_drew ?_ | refine blk_alloc ?_ _));exact BK469.out)⟩;have n1_:Aside0 (Below w.heap.size w w46):=⟨by rw [← hq_];exact (by repeat (first | (with_reducible first | exact HB.out | apply below_alloc | apply pw_below_drewN | apply below_drew1 | refine below_set ?_ GE469.out) | exact HB.out))⟩;clear BK469 HB hq_;have BK469:=n0_;have HB:=n1_;clear n0_ n1_));have p25:0 ≤ (a1:Int):=of_decide_eq_true (by first | (with_reducible assumption) | assumption);have q25:a1 < (a0.size:Int):=of_decide_eq_true (by first | (with_reducible assumption) | assumption);have hx25:=bt_at a0 a1;replace p25:=eq_true p25;replace q25:=eq_true q25) | ((with_reducible refine gate_callee (f:=83) rfl ?_);refine goesL_ (some 42) rfl rfl Tryz.func83 (by kernel_rfl) rfl #[.int .u8 (bt a0 a1)] rfl (by (try simp only [List.map_toArray,List.map_cons,List.map_nil]);first | done | rfl | (simp only [List.length_drop,List.length_take];rfl)) ?_;(with_reducible refine (vouchref14_digit.calls (bt a0 a1) false _ A26.out).mono ?_);rintro e w' ⟨rfl,⟨nd,rfl⟩⟩;refine ⟨_,rfl,?_⟩;(try (rw [drewN_self w46];generalize hq_:World.drewN w46 _=w46;have n0_:Aside0 (w46.heap[gb469]? = some (.cells #[.int .u8 0,.string (⟨#[]⟩:ByteArray),.int .i64 0,.int .i64 0] 70 (0,0))):=⟨by rw [← hq_];exact (by (with_reducible repeat (first | refine blk_drewN ?_ _ | refine blk_drew ?_ | refine blk_alloc ?_ _));exact BK469.out)⟩;have n1_:Aside0 (Below w.heap.size w w46):=⟨by rw [← hq_];exact (by repeat (first | (with_reducible first | exact HB.out | apply below_alloc | apply pw_below_drewN | apply below_drew1 | refine below_set ?_ GE469.out) | exact HB.out))⟩;clear BK469 HB hq_;have BK469:=n0_;have HB:=n1_;clear n0_ n1_));have p32:0 ≤ (a1:Int):=of_decide_eq_true (by first | (with_reducible assumption) | assumption);have q32:a1 < (a0.size:Int):=of_decide_eq_true (by first | (with_reducible assumption) | assumption);have hx32:=bt_at a0 a1;replace p32:=eq_true p32;replace q32:=eq_true q32) | ((with_reducible refine gate_callee (f:=86) rfl ?_);refine goesL_ (some 58) rfl rfl Tryz.func86 (by kernel_rfl) rfl #[.string a0,.int .i64 a1] rfl (by (try simp only [List.map_toArray,List.map_cons,List.map_nil]);first | done | rfl | (simp only [List.length_drop,List.length_take];rfl)) ?_;(with_reducible refine (vouchref14_sign.calls k a0 a1 t484 _ A38.out).mono ?_);rintro e w47 ⟨rfl,hb⟩;refine ⟨_,rfl,?_⟩;have n0_:=Aside0.mk (blk_below (g:=gb469) (o:=.cells #[.int .u8 0,.string (⟨#[]⟩:ByteArray),.int .i64 0,.int .i64 0] 70 (0,0)) (by (with_reducible repeat (first | refine blk_drewN ?_ _ | refine blk_drew ?_ | refine blk_alloc ?_ _));exact BK469.out) hb);have n1_:=Aside0.mk (below_step (by repeat (first | (with_reducible first | exact HB.out | apply below_alloc | apply pw_below_drewN | apply below_drew1 | refine below_set ?_ GE469.out) | exact HB.out)) hb);clear BK469;clear HB;have BK469:=n0_;have HB:=n1_;clear n0_ n1_;(try clear hb);(try clear hb2);(try clear hk);(try clear hi);have hcz48_0:w47.cell? ⟨gb469,0,none⟩=some (.int .u8 0):=(blk_cell BK469.out 0).trans rfl;have hcz48_1:w47.cell? ⟨gb469,1,none⟩=some (.string (⟨#[]⟩:ByteArray)):=(blk_cell BK469.out 1).trans rfl;have hcz48_2:w47.cell? ⟨gb469,2,none⟩=some (.int .i64 0):=(blk_cell BK469.out 2).trans rfl;have hcz48_3:w47.cell? ⟨gb469,3,none⟩=some (.int .i64 0):=(blk_cell BK469.out 3).trans rfl;have hfz48_0:=blk_frozen BK469.out 0;have hfz48_1:=blk_frozen BK469.out 1;have hfz48_2:=blk_frozen BK469.out 2;have hfz48_3:=blk_frozen BK469.out 3))
         refine bodyPost_ret (results_ctt rfl _ _ gb469 70 #[.int .u8 6,.string (a0.extract (a1:Int).toNat ((wrap64 (a1 + t484)):Int).toNat),.int .i64 a1,.int .i64 (wrap64 (a1 + t484))] (0,0) _ rfl (by (with_reducible repeat (first | refine blk_drewN ?_ _ | refine blk_drew ?_ | refine blk_alloc ?_ _));refine blk_put (cs:=#[.int .u8 6,.string (a0.extract (a1:Int).toNat ((wrap64 (a1 + t484)):Int).toNat),.int .i64 a1,.int .i64 0]) ?_ 3 _ rfl;(with_reducible repeat (first | refine blk_drewN ?_ _ | refine blk_drew ?_ | refine blk_alloc ?_ _));refine blk_put (cs:=#[.int .u8 6,.string (a0.extract (a1:Int).toNat ((wrap64 (a1 + t484)):Int).toNat),.int .i64 0,.int .i64 0]) ?_ 2 _ rfl;(with_reducible repeat (first | refine blk_drewN ?_ _ | refine blk_drew ?_ | refine blk_alloc ?_ _));refine blk_put (cs:=#[.int .u8 6,.string (⟨#[]⟩:ByteArray),.int .i64 0,.int .i64 0]) ?_ 1 _ rfl;(with_reducible repeat (first | refine blk_drewN ?_ _ | refine blk_drew ?_ | refine blk_alloc ?_ _));refine blk_put (cs:=#[.int .u8 0,.string (⟨#[]⟩:ByteArray),.int .i64 0,.int .i64 0]) ?_ 0 _ rfl;(with_reducible repeat (first | refine blk_drewN ?_ _ | refine blk_drew ?_ | refine blk_alloc ?_ _));exact BK469.out) Tryz.underlying70 rfl (by kernel_rfl)) rfl ?_
         exact ⟨by first | rfl | (simp [errW_none,errW_some] <;> rfl) | (simp [*,errW_none,errW_some] <;> rfl),by repeat (first | (with_reducible first | exact HB.out | apply below_alloc | apply pw_below_drewN | apply below_drew1 | refine below_set ?_ GE469.out) | exact HB.out)⟩
        ·rw [if_neg c45] at H
         exact absurd H (by simp)
       ·rw [if_neg c44] at H
        exact absurd H (by simp)
  ·rw [if_neg c4] at H
   exact absurd H (by simp)
 ·rw [if_neg c3] at H
  exact absurd H (by simp)
def vouchref14_Tokens.l0:Nat → ByteArray → List (S70) → Int → Option ((List (S70)) × Int × Int)
 | 0,_,_,_=>none
 | k + 1,x0,x5,x6=>if x6 < (x0.size:Int) then (if (x5.length:Int)=8192 then (some (([]:List (S70)),x6,3)) else ((vouchref14_next.f k x0 x6).bind fun bt486=>(if bt486.2.2.2.2.2=0 then (if x5.length < 3518437208883 then ((vouchref14_blanks.f k x0 bt486.2.2.2.1).bind fun t496=>(vouchref14_Tokens.l0 k x0 (x5 ++ [(⟨bt486.1,bt486.2.1,bt486.2.2.1,bt486.2.2.2.1⟩:S70)]) t496)) else (none)) else (some (([]:List (S70)),bt486.2.2.2.2.1,bt486.2.2.2.2.2))))) else (some (x5,0,0))
def vouchref14_Tokens.f (k:Nat) (a0:ByteArray):Option ((List (S70)) × Int × Int):=if (a0.size:Int) > 65536 then (some (([]:List (S70)),0,3)) else ((vouchref14_blanks.f k a0 0).bind fun t485=>(vouchref14_Tokens.l0 k a0 ([]:List (S70)) t485))
set_option maxHeartbeats 8000000 in
set_option maxRecDepth 100000 in
theorem vouchref14_Tokens.calls (k:Nat) (a0:ByteArray) (r1:List (S70)) (r2:Int) (r3:Int) (w:World) (h:vouchref14_Tokens.f k a0=some (r1,r2,r3)) :
  Calls Tryz.prog 41 #[.string a0] w fun e w'=>∃ v0_:Value,e = .returned (.tuple #[v0_,.int .i64 r2,.int .i64 r3]) ∧ Kd.R k70 70 w' w.heap.size (fun _=>True) v0_ r1 ∧ Below w.heap.size w w':=by
 have hu70:=Tryz.underlying70
 have HB:=Aside0.mk (Below.refl w.heap.size w)
 have H:(if (a0.size:Int) > 65536 then (some (([]:List (S70)),0,3)) else ((vouchref14_blanks.f k a0 0).bind fun t485=>(vouchref14_Tokens.l0 k a0 ([]:List (S70)) t485)))=some (r1,r2,r3):=h
 clear h
 by_cases c2:(a0.size:Int) > 65536
 ·rw [if_pos c2] at H
  have c2b0:decide (65536 < (a0.size:Int))=true:=decide_eq_true c2
  have c2b1:decide (65536 < a0.size)=true:=decide_eq_true (by omega)
  clear c2
  simp only [Option.some.injEq,Prod.mk.injEq] at H
  obtain ⟨rfl,rfl,rfl⟩:=H
  go_enter Tryz.func41,Tryz.ntmps41
  go_wp2
  go_ret3
  exact ⟨_,by first | rfl | (simp [errW_none,errW_some] <;> rfl) | (simp [*,errW_none,errW_some] <;> rfl),by first | exact Kd.R_nil _ _ _ _ _ | exact Kd.N_nil _ _ _ _ _ | exact Kd.V_nil _ _ _ _ _ | exact Kd.Q_nil _ _ _ _ _ | exact Kd.S_nil _ _ _ _ _,by repeat (first | (with_reducible first | exact HB.out | apply below_alloc | apply pw_below_drewN | apply below_drew1) | exact HB.out)⟩
 ·rw [if_neg c2] at H
  have c2b0:decide (65536 < (a0.size:Int))=false:=decide_eq_false c2
  have c2b1:decide (65536 < a0.size)=false:=decide_eq_false (by omega)
  clear c2
  replace H:=Option.bind_eq_some_iff.mp H
  obtain ⟨t485,A30,H⟩:=H
  replace H:(vouchref14_Tokens.l0 k a0 ([]:List (S70)) t485)=some (r1,r2,r3):=H
  have A3:=Aside0.mk A30
  clear A30
  have H':=Aside0.mk H
  clear H
  go_enter Tryz.func41,Tryz.ntmps41
  go_wp2_with (first | ((with_reducible refine gate_callee (f:=60) rfl ?_);refine goesL_ (some 14) rfl rfl Tryz.func60 (by kernel_rfl) rfl #[.string a0,.int .i64 0] rfl (by (try simp only [List.map_toArray,List.map_cons,List.map_nil]);first | done | rfl | (simp only [List.length_drop,List.length_take];rfl)) ?_;(with_reducible refine (vouchref14_blanks.calls k a0 0 t485 _ A3.out).mono ?_);rintro e w' ⟨rfl,⟨nd,rfl⟩⟩;refine ⟨_,rfl,?_⟩))
  go_loopg [5,6] k (fun kq v5 v6 w'=>∃ (x5_1:List (S70)) (x6_1:Int),v6 = .int .i64 x6_1 ∧ Aside0 (vouchref14_Tokens.l0 kq a0 x5_1 x6_1=some (r1,r2,r3)) ∧ Aside0 (kq ≤ k) ∧ Aside0 (Kd.R k70 70 w' w.heap.size (fun _=>True) v5 x5_1) ∧ Aside0 (Below w.heap.size w w'))
  case atStart=>exact ⟨(([]:List (S70))),(t485),(by first | rfl | (simp;done) | (simp [*];done) | (repeat (first | rfl | (unfold wrap64;omega) | congr 1))),H',⟨Nat.le_refl _⟩,⟨by first | exact Kd.R_nil _ _ _ _ _ | exact Kd.N_nil _ _ _ _ _ | exact Kd.V_nil _ _ _ _ _ | exact Kd.Q_nil _ _ _ _ _ | exact Kd.S_nil _ _ _ _ _⟩,⟨by repeat (first | (with_reducible first | exact HB.out | apply below_alloc | apply pw_below_drewN | apply below_drew1) | exact HB.out)⟩⟩
  case round =>
   clear H'
   try clear c2
   try clear c2b0
   try clear c2b1
   try clear p2
   obtain ⟨x5_1,x6_1,rfl,HA,HK1,HO_5,HB⟩:=hrel
   cases gk with
   | zero=>exact absurd HA.out (by simp [vouchref14_Tokens.l0])
   | succ k1 =>
    have H:=HA.out
    clear HA
    simp only [vouchref14_Tokens.l0] at H
    by_cases c4:x6_1 < (a0.size:Int)
    ·rw [if_pos c4] at H
     have c4b0:decide (x6_1 < (a0.size:Int))=true:=decide_eq_true c4
     clear c4
     by_cases c5:(x5_1.length:Int)=8192
     ·rw [if_pos c5] at H
      have c5b0:((x5_1.length:Int) == 8192)=true:=beq_iff_eq.mpr c5
      have c5b1:((x5_1.length:Int) != 8192)=false:=bne_eq_false_iff_eq.mpr c5
      clear c5
      simp only [Option.some.injEq,Prod.mk.injEq] at H
      obtain ⟨rfl,rfl,rfl⟩:=H
      obtain ⟨Ao6,co6,eo6⟩:=Kd.R_slice HO_5.out
      subst eo6
      go_wp2
      go_ret3
      exact ⟨_,by first | rfl | (simp [errW_none,errW_some] <;> rfl) | (simp [*,errW_none,errW_some] <;> rfl),by first | exact Kd.R_nil _ _ _ _ _ | exact Kd.N_nil _ _ _ _ _ | exact Kd.V_nil _ _ _ _ _ | exact Kd.Q_nil _ _ _ _ _ | exact Kd.S_nil _ _ _ _ _,by repeat (first | (with_reducible first | exact HB.out | apply below_alloc | apply pw_below_drewN | apply below_drew1) | exact HB.out)⟩
     ·rw [if_neg c5] at H
      have c5b0:((x5_1.length:Int) == 8192)=false:=beq_eq_false_iff_ne.mpr c5
      have c5b1:((x5_1.length:Int) != 8192)=true:=bne_iff_ne.mpr c5
      replace H:=Option.bind_eq_some_iff.mp H
      obtain ⟨⟨t486,t487,t488,t489,t490,t491⟩,A70,H⟩:=H
      replace H:(if t491=0 then (if x5_1.length < 3518437208883 then ((vouchref14_blanks.f k1 a0 t489).bind fun t496=>(vouchref14_Tokens.l0 k1 a0 (x5_1 ++ [(⟨t486,t487,t488,t489⟩:S70)]) t496)) else (none)) else (some (([]:List (S70)),t490,t491)))=some (r1,r2,r3):=H
      have A7:=Aside0.mk A70
      clear A70
      by_cases c8:t491=0
      ·rw [if_pos c8] at H
       have c8b0:(t491 == 0)=true:=beq_iff_eq.mpr c8
       have c8b1:(t491 != 0)=false:=bne_eq_false_iff_eq.mpr c8
       clear c8
       by_cases c9:x5_1.length < 3518437208883
       ·rw [if_pos c9] at H
        have LMc9:=Aside0.mk c9
        clear c9
        obtain ⟨y493,hy493⟩:∃ y_:List (S70),y_=(x5_1 ++ [(⟨t486,t487,t488,t489⟩:S70)]):=⟨_,rfl⟩
        replace H:((vouchref14_blanks.f k1 a0 t489).bind fun t496=>(vouchref14_Tokens.l0 k1 a0 y493 t496))=some (r1,r2,r3):=by first | (rw [hy493];with_reducible exact H) | (have H2_:=(Option.bind_some _ _).symm.trans H;rw [hy493];with_reducible exact H2_) | (have H2_:=(Option.bind_some _ _).symm.trans H;with_reducible exact H2_) | with_reducible exact H | (rw [hy493];exact H) | exact H
        have Ny493:=Aside0.mk hy493
        clear hy493
        replace H:=Option.bind_eq_some_iff.mp H
        obtain ⟨t496,A100,H⟩:=H
        replace H:(vouchref14_Tokens.l0 k1 a0 y493 t496)=some (r1,r2,r3):=H
        have A10:=Aside0.mk A100
        clear A100
        have H':=Aside0.mk H
        clear H
        obtain ⟨Ao11,co11,eo11⟩:=Kd.R_slice HO_5.out
        subst eo11
        go_wp2_with (first | ((with_reducible refine gate_callee (f:=61) rfl ?_);refine goesL_ (some 29) rfl rfl Tryz.func61 (by kernel_rfl) rfl #[.string a0,.int .i64 x6_1] rfl (by (try simp only [List.map_toArray,List.map_cons,List.map_nil]);first | done | rfl | (simp only [List.length_drop,List.length_take];rfl)) ?_;(with_reducible refine (vouchref14_next.calls k1 a0 x6_1 t486 t487 t488 t489 t490 t491 _ A7.out).mono ?_);rintro e w12 ⟨rfl,hb⟩;refine ⟨_,rfl,?_⟩;have n0_:=Aside0.mk (Kd.R_below (by (with_reducible repeat (first | apply Kd.R_alloc | apply Kd.R_drewN | apply Kd.R_drew));exact HO_5.out) hb);have n1_:=Aside0.mk (below_step (by repeat (first | (with_reducible first | exact HB.out | apply below_alloc | apply pw_below_drewN | apply below_drew1) | exact HB.out)) hb);clear HO_5;clear HB;have HO_5:=n0_;have HB:=n1_;clear n0_ n1_;(try clear hb);(try clear hb2);(try clear hk);(try clear hi)) | ((with_reducible refine gate_dst (N:=7) rfl ?_);refine box_event ?hg (N:=7) ?hd (cs:=#[.int .u8 0,.string (⟨#[]⟩:ByteArray),.int .i64 0,.int .i64 0]) (t:=70) ?hr ?_;(case hd=>rfl);(case hg=>rfl);(case hr=>first | (go_simp;done) | (go_simp;rfl));intro gb492 hg w13 hbox hb;have n0_:=Aside0.mk (Kd.R_below (Kd.R_elderB (by (with_reducible repeat (first | apply Kd.R_alloc | apply Kd.R_drewN | apply Kd.R_drew));exact HO_5.out) gb492 (Nat.le_of_eq hg.symm)) hb);have n1_:=Aside0.mk (below_step (by repeat (first | (with_reducible first | exact HB.out | apply below_alloc | apply pw_below_drewN | apply below_drew1) | exact HB.out)) hb);have n2_:=Aside0.mk (hbox);have n3_:=Aside0.mk ((by rw [hg];exact (below_size (by repeat (first | (with_reducible first | exact HB.out | apply below_alloc | apply pw_below_drewN | apply below_drew1) | exact HB.out))):w.heap.size ≤ gb492));have n4_:=Aside0.mk ((by rw [hg];exact (below_size (by repeat (first | (with_reducible first | exact HB.out | apply below_alloc | apply pw_below_drewN | apply below_drew1) | exact HB.out))):w.heap.size ≤ gb492));clear HO_5;clear HB;have HO_5:=n0_;have HB:=n1_;have BK492:=n2_;have GW492:=n3_;have GE492:=n4_;clear n0_ n1_ n2_ n3_ n4_;clear hb hbox hg;have hcz14_0:w13.cell? ⟨gb492,0,none⟩=some (.int .u8 0):=(blk_cell BK492.out 0).trans rfl;have hcz14_1:w13.cell? ⟨gb492,1,none⟩=some (.string (⟨#[]⟩:ByteArray)):=(blk_cell BK492.out 1).trans rfl;have hcz14_2:w13.cell? ⟨gb492,2,none⟩=some (.int .i64 0):=(blk_cell BK492.out 2).trans rfl;have hcz14_3:w13.cell? ⟨gb492,3,none⟩=some (.int .i64 0):=(blk_cell BK492.out 3).trans rfl;have hfz14_0:=blk_frozen BK492.out 0;have hfz14_1:=blk_frozen BK492.out 1;have hfz14_2:=blk_frozen BK492.out 2;have hfz14_3:=blk_frozen BK492.out 3) | ((with_reducible refine gate_builtin (b:=.append) (xs:=#[.tmp 37,.tmp 39]) rfl ?_);at_builtin;refine Kd.R_append k70 (w0:=w) w.heap.size rfl (.tmp 37) (.tmp 39) 62 70 (.agg #[(.int .u8 0),(.string ⟨#[]⟩),(.int .i64 0),(.int .i64 0)]) 40 rfl Tryz.underlying62 info70 rfl (by decide) (by omega) (.slice Ao11 x5_1.length co11) x5_1 (⟨t486,t487,t488,t489⟩:S70) [.int .u8 t486,.string t487,.int .i64 t488,.int .i64 t489] (fun k_=>k_ ≠ gb492) (fun _=>False) rfl (by first | (go_simp;done) | (go_simp;rfl)) ?aP (fun _ hk=>hk.elim) ?aF ?aO ?aB ?aS ?aL ?_;(case aP=>exact k70_mkM _ _ _ (⟨t486,t487,t488,t489⟩:S70));(case aB=>exact (by repeat (first | (with_reducible first | exact HB.out | apply below_alloc | apply pw_below_drewN | apply below_drew1 | refine below_set ?_ GE492.out) | exact HB.out)));(case aF=>exact (fun k_ hk=>Kd.freshB (g:=gb492) (o:=.cells #[.int .u8 t486,.string t487,.int .i64 t488,.int .i64 t489] 70 (0,0)) (by (with_reducible repeat (first | refine blk_drewN ?_ _ | refine blk_drew ?_ | refine blk_alloc ?_ _));refine blk_put (cs:=#[.int .u8 t486,.string t487,.int .i64 t488,.int .i64 0]) ?_ 3 _ rfl;(with_reducible repeat (first | refine blk_drewN ?_ _ | refine blk_drew ?_ | refine blk_alloc ?_ _));refine blk_put (cs:=#[.int .u8 t486,.string t487,.int .i64 0,.int .i64 0]) ?_ 2 _ rfl;(with_reducible repeat (first | refine blk_drewN ?_ _ | refine blk_drew ?_ | refine blk_alloc ?_ _));refine blk_put (cs:=#[.int .u8 t486,.string (⟨#[]⟩:ByteArray),.int .i64 0,.int .i64 0]) ?_ 1 _ rfl;(with_reducible repeat (first | refine blk_drewN ?_ _ | refine blk_drew ?_ | refine blk_alloc ?_ _));refine blk_put (cs:=#[.int .u8 0,.string (⟨#[]⟩:ByteArray),.int .i64 0,.int .i64 0]) ?_ 0 _ rfl;(with_reducible repeat (first | refine blk_drewN ?_ _ | refine blk_drew ?_ | refine blk_alloc ?_ _));exact BK492.out) k_ hk));(case aO=>exact (by (with_reducible repeat (first | apply Kd.R_alloc | apply Kd.R_drewN | apply Kd.R_drew));exact Kd.R_mono (Kd.R_far (p:=⟨gb492,3,none⟩) (Kd.R_far (p:=⟨gb492,2,none⟩) (Kd.R_far (p:=⟨gb492,1,none⟩) (Kd.R_far (p:=⟨gb492,0,none⟩) (Kd.R_mono HO_5.out (fun k_ hk=>(⟨hk,hk.2⟩:_ ∧ k_ ≠ gb492))) (fun _ hk=>hk.2) (.int .u8 t486)) (fun _ hk=>hk.2) (.string t487)) (fun _ hk=>hk.2) (.int .i64 t488)) (fun _ hk=>hk.2) (.int .i64 t489)) (fun _ hk=>hk.1.2)));(case aS=>exact (below_size (by repeat (first | (with_reducible first | exact HB.out | apply below_alloc | apply pw_below_drewN | apply below_drew1 | refine below_set ?_ GE492.out) | exact HB.out))));(case aL=>have:=LMc9.out;omega);intro v494 w15 ho hb hg hat;rw [← Ny493.out] at ho;have n0_:=Aside0.mk (blk_grown (g:=gb492) (o:=.cells #[.int .u8 t486,.string t487,.int .i64 t488,.int .i64 t489] 70 (0,0)) (by (with_reducible repeat (first | refine blk_drewN ?_ _ | refine blk_drew ?_ | refine blk_alloc ?_ _));refine blk_put (cs:=#[.int .u8 t486,.string t487,.int .i64 t488,.int .i64 0]) ?_ 3 _ rfl;(with_reducible repeat (first | refine blk_drewN ?_ _ | refine blk_drew ?_ | refine blk_alloc ?_ _));refine blk_put (cs:=#[.int .u8 t486,.string t487,.int .i64 0,.int .i64 0]) ?_ 2 _ rfl;(with_reducible repeat (first | refine blk_drewN ?_ _ | refine blk_drew ?_ | refine blk_alloc ?_ _));refine blk_put (cs:=#[.int .u8 t486,.string (⟨#[]⟩:ByteArray),.int .i64 0,.int .i64 0]) ?_ 1 _ rfl;(with_reducible repeat (first | refine blk_drewN ?_ _ | refine blk_drew ?_ | refine blk_alloc ?_ _));refine blk_put (cs:=#[.int .u8 0,.string (⟨#[]⟩:ByteArray),.int .i64 0,.int .i64 0]) ?_ 0 _ rfl;(with_reducible repeat (first | refine blk_drewN ?_ _ | refine blk_drew ?_ | refine blk_alloc ?_ _));exact BK492.out) hg (Kd.R_away HO_5.out (fun _ hk=>hk.2)));have n1_:=Aside0.mk (hb);have n2_:=Aside0.mk (ho);clear BK492;clear HB;clear HO_5;have BK492:=n0_;have HB:=n1_;have HO495:=n2_;clear n0_ n1_ n2_;clear ho hb hg hat;have hcz16_0:w15.cell? ⟨gb492,0,none⟩=some (.int .u8 t486):=(blk_cell BK492.out 0).trans rfl;have hcz16_1:w15.cell? ⟨gb492,1,none⟩=some (.string t487):=(blk_cell BK492.out 1).trans rfl;have hcz16_2:w15.cell? ⟨gb492,2,none⟩=some (.int .i64 t488):=(blk_cell BK492.out 2).trans rfl;have hcz16_3:w15.cell? ⟨gb492,3,none⟩=some (.int .i64 t489):=(blk_cell BK492.out 3).trans rfl;have hfz16_0:=blk_frozen BK492.out 0;have hfz16_1:=blk_frozen BK492.out 1;have hfz16_2:=blk_frozen BK492.out 2;have hfz16_3:=blk_frozen BK492.out 3) | ((with_reducible refine gate_callee (f:=60) rfl ?_);refine goesL_ (some 21) rfl rfl Tryz.func60 (by kernel_rfl) rfl #[.string a0,.int .i64 t489] rfl (by (try simp only [List.map_toArray,List.map_cons,List.map_nil]);first | done | rfl | (simp only [List.length_drop,List.length_take];rfl)) ?_;(with_reducible refine (vouchref14_blanks.calls k1 a0 t489 t496 _ A10.out).mono ?_);rintro e w' ⟨rfl,⟨nd,rfl⟩⟩;refine ⟨_,rfl,?_⟩))
        go_roundg k1
        case measure=>have:=HK1.out;omega
        case rel=>exact ⟨(y493),(t496),(by first | rfl | (simp;done) | (simp [*];done) | (repeat (first | rfl | (unfold wrap64;omega) | congr 1))),H',⟨by have:=HK1.out;omega⟩,⟨by (with_reducible repeat (first | apply Kd.R_alloc | apply Kd.R_drewN | apply Kd.R_drew));exact Kd.R_mono HO495.out (fun _ hk=>trivial)⟩,⟨by repeat (first | (with_reducible first | exact HB.out | apply below_alloc | apply pw_below_drewN | apply below_drew1 | refine below_set ?_ GE492.out) | exact HB.out)⟩⟩
       ·rw [if_neg c9] at H
        exact absurd H (by simp)
      ·rw [if_neg c8] at H
       have c8b0:(t491 == 0)=false:=beq_eq_false_iff_ne.mpr c8
       have c8b1:(t491 != 0)=true:=bne_iff_ne.mpr c8
       simp only [Option.some.injEq,Prod.mk.injEq] at H
       obtain ⟨rfl,rfl,rfl⟩:=H
       obtain ⟨Ao17,co17,eo17⟩:=Kd.R_slice HO_5.out
       subst eo17
       go_wp2_with (first | ((with_reducible refine gate_callee (f:=61) rfl ?_);refine goesL_ (some 29) rfl rfl Tryz.func61 (by kernel_rfl) rfl #[.string a0,.int .i64 x6_1] rfl (by (try simp only [List.map_toArray,List.map_cons,List.map_nil]);first | done | rfl | (simp only [List.length_drop,List.length_take];rfl)) ?_;(with_reducible refine (vouchref14_next.calls k1 a0 x6_1 t486 t487 t488 t489 t490 t491 _ A7.out).mono ?_);rintro e w18 ⟨rfl,hb⟩;refine ⟨_,rfl,?_⟩;have n0_:=Aside0.mk (Kd.R_below (by (with_reducible repeat (first | apply Kd.R_alloc | apply Kd.R_drewN | apply Kd.R_drew));exact HO_5.out) hb);have n1_:=Aside0.mk (below_step (by repeat (first | (with_reducible first | exact HB.out | apply below_alloc | apply pw_below_drewN | apply below_drew1) | exact HB.out)) hb);clear HO_5;clear HB;have HO_5:=n0_;have HB:=n1_;clear n0_ n1_;(try clear hb);(try clear hb2);(try clear hk);(try clear hi)) | ((with_reducible refine gate_dst (N:=7) rfl ?_);refine box_event ?hg (N:=7) ?hd (cs:=#[.int .u8 0,.string (⟨#[]⟩:ByteArray),.int .i64 0,.int .i64 0]) (t:=70) ?hr ?_;(case hd=>rfl);(case hg=>rfl);(case hr=>first | (go_simp;done) | (go_simp;rfl));intro gb492 hg w19 hbox hb;have n0_:=Aside0.mk (Kd.R_below (Kd.R_elderB (by (with_reducible repeat (first | apply Kd.R_alloc | apply Kd.R_drewN | apply Kd.R_drew));exact HO_5.out) gb492 (Nat.le_of_eq hg.symm)) hb);have n1_:=Aside0.mk (below_step (by repeat (first | (with_reducible first | exact HB.out | apply below_alloc | apply pw_below_drewN | apply below_drew1) | exact HB.out)) hb);have n2_:=Aside0.mk (hbox);have n3_:=Aside0.mk ((by rw [hg];exact (below_size (by repeat (first | (with_reducible first | exact HB.out | apply below_alloc | apply pw_below_drewN | apply below_drew1) | exact HB.out))):w.heap.size ≤ gb492));have n4_:=Aside0.mk ((by rw [hg];exact (below_size (by repeat (first | (with_reducible first | exact HB.out | apply below_alloc | apply pw_below_drewN | apply below_drew1) | exact HB.out))):w.heap.size ≤ gb492));clear HO_5;clear HB;have HO_5:=n0_;have HB:=n1_;have BK492:=n2_;have GW492:=n3_;have GE492:=n4_;clear n0_ n1_ n2_ n3_ n4_;clear hb hbox hg;have hcz20_0:w19.cell? ⟨gb492,0,none⟩=some (.int .u8 0):=(blk_cell BK492.out 0).trans rfl;have hcz20_1:w19.cell? ⟨gb492,1,none⟩=some (.string (⟨#[]⟩:ByteArray)):=(blk_cell BK492.out 1).trans rfl;have hcz20_2:w19.cell? ⟨gb492,2,none⟩=some (.int .i64 0):=(blk_cell BK492.out 2).trans rfl;have hcz20_3:w19.cell? ⟨gb492,3,none⟩=some (.int .i64 0):=(blk_cell BK492.out 3).trans rfl;have hfz20_0:=blk_frozen BK492.out 0;have hfz20_1:=blk_frozen BK492.out 1;have hfz20_2:=blk_frozen BK492.out 2;have hfz20_3:=blk_frozen BK492.out 3))
       go_ret3
       exact ⟨_,by first | rfl | (simp [errW_none,errW_some] <;> rfl) | (simp [*,errW_none,errW_some] <;> rfl),by first | exact Kd.R_nil _ _ _ _ _ | exact Kd.N_nil _ _ _ _ _ | exact Kd.V_nil _ _ _ _ _ | exact Kd.Q_nil _ _ _ _ _ | exact Kd.S_nil _ _ _ _ _,by repeat (first | (with_reducible first | exact HB.out | apply below_alloc | apply pw_below_drewN | apply below_drew1 | refine below_set ?_ GE492.out) | exact HB.out)⟩
    ·rw [if_neg c4] at H
     have c4b0:decide (x6_1 < (a0.size:Int))=false:=decide_eq_false c4
     clear c4
     simp only [Option.some.injEq,Prod.mk.injEq] at H
     obtain ⟨rfl,rfl,rfl⟩:=H
     go_wp2
     go_ret3
     exact ⟨_,by first | rfl | (simp [errW_none,errW_some] <;> rfl) | (simp [*,errW_none,errW_some] <;> rfl),by (with_reducible repeat (first | apply Kd.R_alloc | apply Kd.R_drewN | apply Kd.R_drew));exact HO_5.out,by repeat (first | (with_reducible first | exact HB.out | apply below_alloc | apply pw_below_drewN | apply below_drew1) | exact HB.out)⟩
end Go.Proofs.YtjapfefiaijfcaaGreatDoor.Q
