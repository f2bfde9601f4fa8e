/- The contract of LentLic: a tree with a mark behind each row. -/
import Derived.Test.YtjapfefiaijfcaaGreatDoorH5
import Derived.Test.YtjapfefiaijfcaaGreatDoorH16
namespace Go.Proofs.YtjapfefiaijfcaaGreatDoor.Q
open Go.RowKit Go.Proofs.YtjapfefiaijfcaaGreatDoorW.PrintWords Go.Proofs.YtjapfefiaijfcaaGreatDoorW.PrintLast Go.Proofs.YtjapfefiaijfcaaGreatDoorW.PrintMore
attribute [local go_sem] max2_int min2_int max_two min_two max_three min_three max_four min_four
set_option linter.unusedVariables false
set_option linter.unusedSimpArgs false
set_option maxHeartbeats 8000000 in
set_option maxRecDepth 100000 in
theorem vouchkit_LentLic.marks (k:Nat):∀ (a0_0:Int) (a0_1:ByteArray) (a0_2:Int) (A0_3:Option Addr) (c0_3:Nat) (l0_3:List (S24)) (w:World) (hr0_3:Kd.C k24 w A0_3 l0_3.length l0_3) (hc0_3:l0_3.length ≤ c0_3) (hN:szT ⟨a0_0,a0_1,a0_2,l0_3⟩ < k) (hN2:k ≤ 10001),
  Calls Tryz.prog 8 #[.agg #[.int .u8 a0_0,.string a0_1,.int .i64 a0_2,.slice A0_3 l0_3.length c0_3]] w fun e w'=>∃ (ad_:Addr) (c_:Nat),e = .returned (.agg #[.int .u8 a0_0,.string a0_1,.int .i64 a0_2,.slice (some ad_) l0_3.length c_]) ∧ Kd.R (optk km) 24 w' w.heap.size (fun _=>True) (.slice (some ad_) (l0_3.length + 1) c_) (l0_3.map some ++ [none]) ∧ Below w.heap.size w w':=by
 induction k with
 | zero=>exact fun _ _ _ _ _ _ _ _ _ h=>absurd h (Nat.not_lt_zero _)
 | succ k ih =>
 intro a0_0 a0_1 a0_2 A0_3 c0_3 l0_3 w hr0_3 hc0_3 hN hN2
 have hlen:l0_3.length ≤ 10001:=by have h_:=szT_len (⟨a0_0,a0_1,a0_2,l0_3⟩:S24);have h2_:l0_3.length + 1 ≤ szT (⟨a0_0,a0_1,a0_2,l0_3⟩:S24):=h_;omega
 have HL:=Aside0.mk hlen
 have HN:=Aside0.mk hN
 have HN2:=Aside0.mk hN2
 have IH:=Aside0.mk ih
 clear hN hN2 hlen ih
 have hu24:=Tryz.underlying24
 have HR0_3:=Aside0.mk hr0_3
 have HC0_3:=Aside0.mk hc0_3
 clear hr0_3 hc0_3
 have HB:=Aside0.mk (Below.refl w.heap.size w)
 go_enter Tryz.func8,Tryz.ntmps8
 go_wp2_with (first | ((with_reducible refine gate_dst (N:=1) rfl ?_);refine box_event ?hg (N:=1) ?hd (cs:=#[.int .u8 a0_0,.string a0_1,.int .i64 a0_2,.slice A0_3 l0_3.length c0_3]) (t:=24) ?hr ?_;(case hd=>rfl);(case hg=>rfl);(case hr=>first | (go_simp;done) | (go_simp;rfl));intro gb163 hg w2 hbox hb;have n0_:=Aside0.mk (below_step (by repeat (first | (with_reducible first | exact HB.out | apply below_alloc | apply pw_below_drewN | apply below_drew1) | exact HB.out)) hb);have n1_:=Aside0.mk (hbox);have n2_:=Aside0.mk ((by rw [hg];exact (below_size (by repeat (first | (with_reducible first | exact HB.out | apply below_alloc | apply pw_below_drewN | apply below_drew1) | exact HB.out))):w.heap.size ≤ gb163));have n3_:=Aside0.mk ((by rw [hg];exact (below_size (by repeat (first | (with_reducible first | exact HB.out | apply below_alloc | apply pw_below_drewN | apply below_drew1) | exact HB.out))):w.heap.size ≤ gb163));clear HB;have HB:=n0_;have BK163:=n1_;have GW163:=n2_;have GE163:=n3_;clear n0_ n1_ n2_ n3_;clear hb hbox hg) | ((with_reducible refine gate_dst (N:=2) rfl ?_);refine box_event ?hg (N:=2) ?hd (cs:=#[.int .u8 0,.string (⟨#[]⟩:ByteArray),.int .i64 0,.slice none 0 0]) (t:=24) ?hr ?_;(case hd=>rfl);(case hg=>rfl);(case hr=>first | (go_simp;done) | (go_simp;rfl));intro gb164 hg w3 hbox hb;have n0_:=Aside0.mk (blk_below (g:=gb163) (o:=.cells #[.int .u8 a0_0,.string a0_1,.int .i64 a0_2,.slice A0_3 l0_3.length c0_3] 24 (0,0)) (by (with_reducible repeat (first | refine blk_drewN ?_ _ | refine blk_drew ?_ | refine blk_alloc ?_ _));exact BK163.out) hb);have n1_:=Aside0.mk (below_step (by repeat (first | (with_reducible first | exact HB.out | apply below_alloc | apply pw_below_drewN | apply below_drew1 | refine below_set ?_ GE163.out) | exact HB.out)) hb);have n2_:=Aside0.mk (hbox);have n3_:=Aside0.mk ((by rw [hg];exact (below_size (by repeat (first | (with_reducible first | exact HB.out | apply below_alloc | apply pw_below_drewN | apply below_drew1 | refine below_set ?_ GE163.out) | exact HB.out))):w.heap.size ≤ gb164));have n4_:=Aside0.mk ((by rw [hg];exact (below_size (by repeat (first | (with_reducible first | exact HB.out | apply below_alloc | apply pw_below_drewN | apply below_drew1 | refine below_set ?_ GE163.out) | exact HB.out))):w.heap.size ≤ gb164));have n5_:=Aside0.mk ((by rw [hg];exact Nat.ne_of_lt (blk_lt (g:=gb163) (o:=.cells #[.int .u8 a0_0,.string a0_1,.int .i64 a0_2,.slice A0_3 l0_3.length c0_3] 24 (0,0)) (by (with_reducible repeat (first | refine blk_drewN ?_ _ | refine blk_drew ?_ | refine blk_alloc ?_ _));exact BK163.out)):gb163 ≠ gb164));have n6_:=Aside0.mk ((by rw [hg];exact Nat.ne_of_gt (blk_lt (g:=gb163) (o:=.cells #[.int .u8 a0_0,.string a0_1,.int .i64 a0_2,.slice A0_3 l0_3.length c0_3] 24 (0,0)) (by (with_reducible repeat (first | refine blk_drewN ?_ _ | refine blk_drew ?_ | refine blk_alloc ?_ _));exact BK163.out)):gb164 ≠ gb163));clear BK163;clear HB;have BK163:=n0_;have HB:=n1_;have BK164:=n2_;have GW164:=n3_;have GE164:=n4_;have NB163_164:=n5_;have NB164_163:=n6_;clear n0_ n1_ n2_ n3_ n4_ n5_ n6_;clear hb hbox hg;have hnb4:=NB163_164.out;have hnc4:=NB164_163.out;have hcz5_0:w3.cell? ⟨gb163,0,none⟩=some (.int .u8 a0_0):=(blk_cell BK163.out 0).trans rfl;have hcz5_1:w3.cell? ⟨gb163,1,none⟩=some (.string a0_1):=(blk_cell BK163.out 1).trans rfl;have hcz5_2:w3.cell? ⟨gb163,2,none⟩=some (.int .i64 a0_2):=(blk_cell BK163.out 2).trans rfl;have hcz5_3:w3.cell? ⟨gb163,3,none⟩=some (.slice A0_3 l0_3.length c0_3):=(blk_cell BK163.out 3).trans rfl;have hfz5_0:=blk_frozen BK163.out 0;have hfz5_1:=blk_frozen BK163.out 1;have hfz5_2:=blk_frozen BK163.out 2;have hfz5_3:=blk_frozen BK163.out 3) | ((with_reducible refine gate_dst (N:=3) rfl ?_);refine box_event ?hg (N:=3) ?hd (cs:=#[.int .u8 0,.string (⟨#[]⟩:ByteArray),.int .i64 0,.slice none 0 0]) (t:=24) ?hr ?_;(case hd=>rfl);(case hg=>rfl);(case hr=>first | (go_simp;done) | (go_simp;rfl));intro gb165 hg w6 hbox hb;have n0_:=Aside0.mk (blk_below (g:=gb163) (o:=.cells #[.int .u8 a0_0,.string a0_1,.int .i64 a0_2,.slice A0_3 l0_3.length c0_3] 24 (0,0)) (by (with_reducible repeat (first | refine blk_drewN ?_ _ | refine blk_drew ?_ | refine blk_alloc ?_ _));exact BK163.out) hb);have n1_:=Aside0.mk (blk_below (g:=gb164) (o:=.cells #[.int .u8 0,.string (⟨#[]⟩:ByteArray),.int .i64 0,.slice none 0 0] 24 (0,0)) (by (with_reducible repeat (first | refine blk_drewN ?_ _ | refine blk_drew ?_ | refine blk_alloc ?_ _));exact BK164.out) hb);have n2_:=Aside0.mk (below_step (by repeat (first | (with_reducible first | exact HB.out | apply below_alloc | apply pw_below_drewN | apply below_drew1 | refine below_set ?_ GE163.out | refine below_set ?_ GE164.out) | exact HB.out)) hb);have n3_:=Aside0.mk (hbox);have n4_:=Aside0.mk ((by rw [hg];exact (below_size (by repeat (first | (with_reducible first | exact HB.out | apply below_alloc | apply pw_below_drewN | apply below_drew1 | refine below_set ?_ GE163.out | refine below_set ?_ GE164.out) | exact HB.out))):w.heap.size ≤ gb165));have n5_:=Aside0.mk ((by rw [hg];exact (below_size (by repeat (first | (with_reducible first | exact HB.out | apply below_alloc | apply pw_below_drewN | apply below_drew1 | refine below_set ?_ GE163.out | refine below_set ?_ GE164.out) | exact HB.out))):w.heap.size ≤ gb165));have n6_:=Aside0.mk ((by rw [hg];exact Nat.ne_of_lt (blk_lt (g:=gb163) (o:=.cells #[.int .u8 a0_0,.string a0_1,.int .i64 a0_2,.slice A0_3 l0_3.length c0_3] 24 (0,0)) (by (with_reducible repeat (first | refine blk_drewN ?_ _ | refine blk_drew ?_ | refine blk_alloc ?_ _));exact BK163.out)):gb163 ≠ gb165));have n7_:=Aside0.mk ((by rw [hg];exact Nat.ne_of_gt (blk_lt (g:=gb163) (o:=.cells #[.int .u8 a0_0,.string a0_1,.int .i64 a0_2,.slice A0_3 l0_3.length c0_3] 24 (0,0)) (by (with_reducible repeat (first | refine blk_drewN ?_ _ | refine blk_drew ?_ | refine blk_alloc ?_ _));exact BK163.out)):gb165 ≠ gb163));have n8_:=Aside0.mk ((by rw [hg];exact Nat.ne_of_lt (blk_lt (g:=gb164) (o:=.cells #[.int .u8 0,.string (⟨#[]⟩:ByteArray),.int .i64 0,.slice none 0 0] 24 (0,0)) (by (with_reducible repeat (first | refine blk_drewN ?_ _ | refine blk_drew ?_ | refine blk_alloc ?_ _));exact BK164.out)):gb164 ≠ gb165));have n9_:=Aside0.mk ((by rw [hg];exact Nat.ne_of_gt (blk_lt (g:=gb164) (o:=.cells #[.int .u8 0,.string (⟨#[]⟩:ByteArray),.int .i64 0,.slice none 0 0] 24 (0,0)) (by (with_reducible repeat (first | refine blk_drewN ?_ _ | refine blk_drew ?_ | refine blk_alloc ?_ _));exact BK164.out)):gb165 ≠ gb164));clear BK163;clear BK164;clear HB;have BK163:=n0_;have BK164:=n1_;have HB:=n2_;have BK165:=n3_;have GW165:=n4_;have GE165:=n5_;have NB163_165:=n6_;have NB165_163:=n7_;have NB164_165:=n8_;have NB165_164:=n9_;clear n0_ n1_ n2_ n3_ n4_ n5_ n6_ n7_ n8_ n9_;clear hb hbox hg;have hnb7:=NB165_163.out;have hnc7:=NB163_165.out;have hnb8:=NB165_164.out;have hnc8:=NB164_165.out;have hcz9_0:w6.cell? ⟨gb165,0,none⟩=some (.int .u8 0):=(blk_cell BK165.out 0).trans rfl;have hcz9_1:w6.cell? ⟨gb165,1,none⟩=some (.string (⟨#[]⟩:ByteArray)):=(blk_cell BK165.out 1).trans rfl;have hcz9_2:w6.cell? ⟨gb165,2,none⟩=some (.int .i64 0):=(blk_cell BK165.out 2).trans rfl;have hcz9_3:w6.cell? ⟨gb165,3,none⟩=some (.slice none 0 0):=(blk_cell BK165.out 3).trans rfl;have hfz9_0:=blk_frozen BK165.out 0;have hfz9_1:=blk_frozen BK165.out 1;have hfz9_2:=blk_frozen BK165.out 2;have hfz9_3:=blk_frozen BK165.out 3))
 go_loopg [4] (l0_3.length + 1) (fun kq v4 w'=>∃ (j:Nat) (u166003:Value),v4 = .int .i64 ((j:Nat):Int) ∧ Aside0 (j + kq=l0_3.length + 1) ∧ Aside0 (j ≤ l0_3.length) ∧ Aside0 (Kd.R (optk km) 24 w' w.heap.size (fun k_=>k_ ≠ gb163 ∧ k_ ≠ gb164 ∧ k_ ≠ gb165) u166003 ((l0_3.take j).map some)) ∧ Aside0 (w'.heap[gb163]? = some (.cells #[.int .u8 a0_0,.string a0_1,.int .i64 a0_2,(.slice A0_3 l0_3.length c0_3)] 24 (0,0))) ∧ Aside0 (w'.heap[gb164]? = some (.cells #[.int .u8 0,.string (⟨#[]⟩:ByteArray),.int .i64 0,(.slice none 0 0)] 24 (0,0))) ∧ Aside0 (w'.heap[gb165]? = some (.cells #[.int .u8 a0_0,.string a0_1,.int .i64 a0_2,u166003] 24 (0,0))) ∧ Aside0 (Below w.heap.size w w'))
 case atStart=>exact ⟨0,(.slice none 0 0),rfl,⟨Nat.zero_add _⟩,⟨Nat.zero_le _⟩,⟨by first | exact Kd.R_nil _ _ _ _ _ | exact Kd.N_nil _ _ _ _ _ | exact Kd.V_nil _ _ _ _ _ | exact Kd.Q_nil _ _ _ _ _ | exact Kd.S_nil _ _ _ _ _⟩,⟨by (with_reducible repeat (first | refine blk_drewN ?_ _ | refine blk_drew ?_ | refine blk_alloc ?_ _));refine blk_far ?_ NB163_165.out _;(with_reducible repeat (first | refine blk_drewN ?_ _ | refine blk_drew ?_ | refine blk_alloc ?_ _));refine blk_far ?_ NB163_165.out _;(with_reducible repeat (first | refine blk_drewN ?_ _ | refine blk_drew ?_ | refine blk_alloc ?_ _));refine blk_far ?_ NB163_165.out _;(with_reducible repeat (first | refine blk_drewN ?_ _ | refine blk_drew ?_ | refine blk_alloc ?_ _));refine blk_far ?_ NB163_165.out _;(with_reducible repeat (first | refine blk_drewN ?_ _ | refine blk_drew ?_ | refine blk_alloc ?_ _));exact BK163.out⟩,⟨by (with_reducible repeat (first | refine blk_drewN ?_ _ | refine blk_drew ?_ | refine blk_alloc ?_ _));refine blk_far ?_ NB164_165.out _;(with_reducible repeat (first | refine blk_drewN ?_ _ | refine blk_drew ?_ | refine blk_alloc ?_ _));refine blk_far ?_ NB164_165.out _;(with_reducible repeat (first | refine blk_drewN ?_ _ | refine blk_drew ?_ | refine blk_alloc ?_ _));refine blk_far ?_ NB164_165.out _;(with_reducible repeat (first | refine blk_drewN ?_ _ | refine blk_drew ?_ | refine blk_alloc ?_ _));refine blk_far ?_ NB164_165.out _;(with_reducible repeat (first | refine blk_drewN ?_ _ | refine blk_drew ?_ | refine blk_alloc ?_ _));exact BK164.out⟩,⟨by (with_reducible repeat (first | refine blk_drewN ?_ _ | refine blk_drew ?_ | refine blk_alloc ?_ _));refine blk_put (cs:=#[.int .u8 a0_0,.string a0_1,.int .i64 a0_2,.slice none 0 0]) ?_ 3 _ rfl;(with_reducible repeat (first | refine blk_drewN ?_ _ | refine blk_drew ?_ | refine blk_alloc ?_ _));refine blk_put (cs:=#[.int .u8 a0_0,.string a0_1,.int .i64 0,.slice none 0 0]) ?_ 2 _ rfl;(with_reducible repeat (first | refine blk_drewN ?_ _ | refine blk_drew ?_ | refine blk_alloc ?_ _));refine blk_put (cs:=#[.int .u8 a0_0,.string (⟨#[]⟩:ByteArray),.int .i64 0,.slice none 0 0]) ?_ 1 _ rfl;(with_reducible repeat (first | refine blk_drewN ?_ _ | refine blk_drew ?_ | refine blk_alloc ?_ _));refine blk_put (cs:=#[.int .u8 0,.string (⟨#[]⟩:ByteArray),.int .i64 0,.slice none 0 0]) ?_ 0 _ rfl;(with_reducible repeat (first | refine blk_drewN ?_ _ | refine blk_drew ?_ | refine blk_alloc ?_ _));exact BK165.out⟩,⟨by repeat (first | (with_reducible first | exact HB.out | apply below_alloc | apply pw_below_drewN | apply below_drew1 | refine below_set ?_ GE163.out | refine below_set ?_ GE164.out | refine below_set ?_ GE165.out) | exact HB.out)⟩⟩
 case round =>
  try clear p2
  try clear c4
  try clear c6
  try clear c7
  try clear c8
  try clear hcz5_0
  try clear hcz5_1
  try clear hcz5_2
  try clear hcz5_3
  try clear hcz9_0
  try clear hcz9_1
  try clear hcz9_2
  try clear hcz9_3
  try clear hfz5_0
  try clear hfz5_1
  try clear hfz5_2
  try clear hfz5_3
  try clear hfz9_0
  try clear hfz9_1
  try clear hfz9_2
  try clear hfz9_3
  obtain ⟨j,u166003,rfl,HK0,HK1,HO_166003,BK163,BK164,BK165,HB⟩:=hrel
  by_cases c10:j < l0_3.length
  ·have c10b0:decide (((j:Nat):Int) < (l0_3.length:Int))=true:=decide_eq_true (by omega)
   have c11b0:decide (0 ≤ ((j:Nat):Int))=true:=decide_eq_true (by omega)
   have LMc13:Aside0 (((l0_3.take j).map some:List (Option S24)).length < 2513169434916):=⟨by rw [List.length_map,List.length_take];have:=HL.out;omega⟩
   have Hsz:Aside0 (szT (⟨(rd_T24 l0_3 ((j:Nat):Int)).f0,(rd_T24 l0_3 ((j:Nat):Int)).f1,(rd_T24 l0_3 ((j:Nat):Int)).f2,(rd_T24 l0_3 ((j:Nat):Int)).f3⟩:S24) < k):=⟨by
    rw [show (⟨(rd_T24 l0_3 ((j:Nat):Int)).f0,(rd_T24 l0_3 ((j:Nat):Int)).f1,(rd_T24 l0_3 ((j:Nat):Int)).f2,(rd_T24 l0_3 ((j:Nat):Int)).f3⟩:S24)=(rd_T24 l0_3 ((j:Nat):Int)) from by cases (rd_T24 l0_3 ((j:Nat):Int));rfl]
    rw [rd_nat c10]
    have h1:=szT_mem (x:=(⟨a0_0,a0_1,a0_2,l0_3⟩:S24)) (List.getElem_mem c10)
    have h2:=HN.out
    omega⟩
   obtain ⟨y173,hy173⟩:∃ y_:List (Option S24),y_=((l0_3.take j).map some ++ [some (rd_T24 l0_3 ((j:Nat):Int))]):=⟨_,rfl⟩
   have Ny173b:Aside0 (y173=(l0_3.take (j + 1)).map some):=⟨by rw [hy173,rd_nat c10,List.take_succ_eq_append_getElem c10,List.map_append];rfl⟩
   have Ny173:=Aside0.mk hy173
   have Hj:=Aside0.mk c10
   have d2_:(j < l0_3.length)=True:=eq_true c10
   have d3_:(((j:Nat):Int) < (l0_3.length:Int))=True:=eq_true (by omega)
   have d4_:(0 ≤ ((j:Nat):Int))=True:=eq_true (by omega)
   have q5:IntKind.i64.wrap (((j:Nat):Int) + 1)=((j + 1:Nat):Int):=by rw [show ((j + 1:Nat):Int)=((j:Nat):Int) + 1 from rfl];exact IntWalk.i64_in _ (by have:=HL.out;omega)
   clear hy173 c10
   have hnb14:=NB163_164.out
   have hnc14:=NB164_163.out
   have hnb15:=NB163_165.out
   have hnc15:=NB165_163.out
   have hcz16_0:wr.cell? ⟨gb163,0,none⟩=some (.int .u8 a0_0):=(blk_cell BK163.out 0).trans rfl
   have hcz16_1:wr.cell? ⟨gb163,1,none⟩=some (.string a0_1):=(blk_cell BK163.out 1).trans rfl
   have hcz16_2:wr.cell? ⟨gb163,2,none⟩=some (.int .i64 a0_2):=(blk_cell BK163.out 2).trans rfl
   have hcz16_3:wr.cell? ⟨gb163,3,none⟩=some (.slice A0_3 l0_3.length c0_3):=(blk_cell BK163.out 3).trans rfl
   have hfz16_0:=blk_frozen BK163.out 0
   have hfz16_1:=blk_frozen BK163.out 1
   have hfz16_2:=blk_frozen BK163.out 2
   have hfz16_3:=blk_frozen BK163.out 3
   try go_wp2
   have n0_:=Aside0.mk (Kd.R_drew HO_166003.out)
   have n1_:=Aside0.mk (blk_drew BK163.out)
   have n2_:=Aside0.mk (blk_drew BK164.out)
   have n3_:=Aside0.mk (blk_drew BK165.out)
   have n4_:=Aside0.mk (below_drew1 HB.out)
   clear HO_166003
   clear BK163
   clear BK164
   clear BK165
   clear HB
   have HO_166003:=n0_
   have BK163:=n1_
   have BK164:=n2_
   have BK165:=n3_
   have HB:=n4_
   clear n0_ n1_ n2_ n3_ n4_
   have p166:0 ≤ (((j:Nat):Int):Int):=of_decide_eq_true (by first | (with_reducible assumption) | assumption)
   have q166:((j:Nat):Int) < (l0_3.length:Int):=of_decide_eq_true (by first | (with_reducible assumption) | assumption)
   obtain ⟨ad166,A166_3,c166_3,e166,hx166_0,hx166_1,hx166_2,hx166_3,hl166_3,hi166_3⟩:=at_T24 HR0_3.out ((j:Nat):Int) p166 q166
   rw [Int.toNat_natCast] at hx166_0 hx166_1 hx166_2 hx166_3
   have hw166_3:=hx166_3
   have hw166_2:=hx166_2
   have hw166_1:=hx166_1
   have hw166_0:=hx166_0
   cases e166
   replace hx166_0:=(HB.out.cell (World.block_lt_of_cell? w _ hx166_0)).trans hx166_0
   replace hx166_1:=(HB.out.cell (World.block_lt_of_cell? w _ hx166_1)).trans hx166_1
   replace hx166_2:=(HB.out.cell (World.block_lt_of_cell? w _ hx166_2)).trans hx166_2
   replace hx166_3:=(HB.out.cell (World.block_lt_of_cell? w _ hx166_3)).trans hx166_3
   have HR166_3:=Aside0.mk hi166_3
   have HC166_3:=Aside0.mk hl166_3
   clear hi166_3 hl166_3
   replace p166:=eq_true p166
   replace q166:=eq_true q166
   refine start_ (n:=12) (S:=fun w'=>w'.cell? ⟨gb165,0,none⟩=some (.int .u8 a0_0) ∧ w'.cell? ⟨gb165,1,none⟩=some (.string a0_1) ∧ w'.cell? ⟨gb165,2,none⟩=some (.int .i64 a0_2) ∧ w'.cell? ⟨gb165,3,none⟩=some (u166003) ∧ w'.cell? ⟨gb163,0,none⟩=some (.int .u8 a0_0) ∧ w'.cell? ⟨gb163,1,none⟩=some (.string a0_1) ∧ w'.cell? ⟨gb163,2,none⟩=some (.int .i64 a0_2) ∧ w'.cell? ⟨gb163,3,none⟩=some (.slice (some ad166) l0_3.length c0_3) ∧ w'.cell? (ad166.add (j * 4))=some (.int .u8 ((rd_T24 l0_3 ((j:Nat):Int)).f0)) ∧ w'.cell? ⟨(ad166.add (j * 4)).block,(ad166.add (j * 4)).off + 1,none⟩=some (.string ((rd_T24 l0_3 ((j:Nat):Int)).f1)) ∧ w'.cell? ⟨(ad166.add (j * 4)).block,(ad166.add (j * 4)).off + 2,none⟩=some (.int .i64 ((rd_T24 l0_3 ((j:Nat):Int)).f2)) ∧ w'.cell? ⟨(ad166.add (j * 4)).block,(ad166.add (j * 4)).off + 3,none⟩=some (.slice A166_3 ((rd_T24 l0_3 ((j:Nat):Int)).f3).length c166_3)) (ds:=[11]) #[false,false,false,false,false,false,false,false,false,false,false,false] (by kernel_rfl) rfl rfl ⟨(blk_cell BK165.out 0).trans rfl,(blk_cell BK165.out 1).trans rfl,(blk_cell BK165.out 2).trans rfl,(blk_cell BK165.out 3).trans rfl,(blk_cell BK163.out 0).trans rfl,(blk_cell BK163.out 1).trans rfl,(blk_cell BK163.out 2).trans rfl,(blk_cell BK163.out 3).trans rfl,((HB.out.cell (World.block_lt_of_cell? w _ hw166_0)).trans hw166_0),((HB.out.cell (World.block_lt_of_cell? w _ hw166_1)).trans hw166_1),((HB.out.cell (World.block_lt_of_cell? w _ hw166_2)).trans hw166_2),((HB.out.cell (World.block_lt_of_cell? w _ hw166_3)).trans hw166_3)⟩ (fun hHeld=>?_);refine with_tabW vouchkit_LentLic.tab5 vouchkit_LentLic.bits5 (fun HT_ HW_=>?_)
   generalize wr.drew=w17 at HO_166003 BK163 BK164 BK165 HB HR166_3 hx166_0 hx166_1 hx166_2 hx166_3 hHeld ⊢
   refine pure_ (i:=0) (N:=some 19) (v:=?_) (a':=?_) #[true,false,false,false,false,false,false,false,false,false,false,false] rfl rfl (any_of HT_.out (by kernel_rfl)) (fun _ _ _ h=>h) (Or.inl ⟨by rfl,?_⟩) ?_ ?_
   rotate_left
   ·intro w'
    go_simp
    with_reducible rfl
   rotate_left
   ·simp only [Act.put,List.setIfInBounds_toArray,List.set_cons_zero,List.set_cons_succ,i64_w,i32_w]
    rfl
   refine pure_ (i:=2) (N:=some 21) (v:=?_) (a':=?_) #[true,false,true,false,false,false,false,false,false,false,false,false] rfl rfl (any_of HT_.out (by kernel_rfl)) (fun _ _ _ h=>h) (Or.inl ⟨by rfl,?_⟩) ?_ ?_
   rotate_left
   ·intro w'
    go_simp
    with_reducible rfl
   rotate_left
   ·simp only [Act.put,List.setIfInBounds_toArray,List.set_cons_zero,List.set_cons_succ,i64_w,i32_w]
    rfl
   refine pure_ (i:=4) (N:=some 23) (v:=?_) (a':=?_) #[true,false,true,false,true,false,false,false,false,false,false,false] rfl rfl (any_of HT_.out (by kernel_rfl)) (fun _ _ _ h=>h) (Or.inl ⟨by rfl,?_⟩) ?_ ?_
   rotate_left
   ·intro w'
    go_simp
    with_reducible rfl
   rotate_left
   ·simp only [Act.put,List.setIfInBounds_toArray,List.set_cons_zero,List.set_cons_succ,i64_w,i32_w]
    rfl
   refine take_ (i:=1) (N:=some 20) (v:=?_) (a':=?_) #[true,true,true,false,true,false,false,false,false,false,false,false] rfl rfl (take_ofW HT_.out HW_.out (by kernel_rfl)) (fun _ _ _ h=>h) (Or.inl ⟨by rfl,?_⟩) hHeld ?_ ?_
   rotate_left
   ·rintro w' ⟨s0,s1,s2,s3,s4,s5,s6,s7,s8,s9,s10,s11⟩
    go_simp
    with_reducible rfl
   rotate_left
   ·simp only [Act.put,List.setIfInBounds_toArray,List.set_cons_zero,List.set_cons_succ,i64_w,i32_w]
    rfl
   refine take_ (i:=3) (N:=some 22) (v:=?_) (a':=?_) #[true,true,true,true,true,false,false,false,false,false,false,false] rfl rfl (take_ofW HT_.out HW_.out (by kernel_rfl)) (fun _ _ _ h=>h) (Or.inl ⟨by rfl,?_⟩) hHeld ?_ ?_
   rotate_left
   ·rintro w' ⟨s0,s1,s2,s3,s4,s5,s6,s7,s8,s9,s10,s11⟩
    go_simp
    with_reducible rfl
   rotate_left
   ·simp only [Act.put,List.setIfInBounds_toArray,List.set_cons_zero,List.set_cons_succ,i64_w,i32_w]
    rfl
   refine pure_ (i:=5) (N:=some 24) (v:=?_) (a':=?_) #[true,true,true,true,true,true,false,false,false,false,false,false] rfl rfl (any_of HT_.out (by kernel_rfl)) (fun _ _ _ h=>h) (Or.inl ⟨by rfl,?_⟩) ?_ ?_
   rotate_left
   ·intro w'
    go_simp
    with_reducible rfl
   rotate_left
   ·simp only [Act.put,List.setIfInBounds_toArray,List.set_cons_zero,List.set_cons_succ,i64_w,i32_w]
    rfl
   refine take_ (i:=6) (N:=some 25) (v:=?_) (a':=?_) #[true,true,true,true,true,true,true,false,false,false,false,false] rfl rfl (take_ofW HT_.out HW_.out (by kernel_rfl)) (fun _ _ _ h=>h) (Or.inl ⟨by rfl,?_⟩) hHeld ?_ ?_
   rotate_left
   ·rintro w' ⟨s0,s1,s2,s3,s4,s5,s6,s7,s8,s9,s10,s11⟩
    go_simp
    with_reducible rfl
   rotate_left
   ·simp only [Act.put,List.setIfInBounds_toArray,List.set_cons_zero,List.set_cons_succ,i64_w,i32_w]
    rfl
   refine one_ (i:=7) (N:=some 26) #[true,true,true,true,true,true,true,true,false,false,false,false] rfl rfl (one_of HT_.out (by kernel_rfl)) (by decide) (fun K hK=>?_)
   refine goes_ Tryz.func8 (by kernel_rfl) rfl #[.agg #[.int .u8 ((rd_T24 l0_3 ((j:Nat):Int)).f0),.string ((rd_T24 l0_3 ((j:Nat):Int)).f1),.int .i64 ((rd_T24 l0_3 ((j:Nat):Int)).f2),.slice A166_3 ((rd_T24 l0_3 ((j:Nat):Int)).f3).length c166_3]] (by rfl) rfl rfl (by (try simp only [List.map_toArray,List.map_cons,List.map_nil]);first | done | rfl | (simp only [List.length_drop,List.length_take];rfl)) ?_
   with_reducible refine (IH.out ((rd_T24 l0_3 ((j:Nat):Int)).f0) ((rd_T24 l0_3 ((j:Nat):Int)).f1) ((rd_T24 l0_3 ((j:Nat):Int)).f2) _ _ ((rd_T24 l0_3 ((j:Nat):Int)).f3) _ ?side1 ?side2 Hsz.out (by have:=HN2.out;omega)).mono ?_
   (case side1=>repeat (first | exact (Kd.C_below HR166_3.out HB.out) | (with_reducible refine Kd.C_alloc ?_ _) | (with_reducible refine Kd.C_drewN ?_ _) | (with_reducible refine Kd.C_drew ?_)))
   (case side2=>exact HC166_3.out)
   rintro e w18 ⟨Ao20,co20,rfl,ho0,hb⟩
   refine ⟨_,rfl,?_⟩
   have n0_:=Aside0.mk (Kd.R_elder' (by (with_reducible repeat (first | apply Kd.R_alloc | apply Kd.R_drewN | apply Kd.R_drew));exact HO_166003.out) (Kd.R_base ho0) hb)
   have n1_:=Aside0.mk (Kd.R_lower (Kd.R_newB (Kd.R_newB (Kd.R_newB (Kd.R_new' ho0 (Kd.R_lt (by (with_reducible repeat (first | apply Kd.R_alloc | apply Kd.R_drewN | apply Kd.R_drew));exact HO_166003.out))) (g:=gb163) (o:=.cells #[.int .u8 a0_0,.string a0_1,.int .i64 a0_2,.slice (some ad166) l0_3.length c0_3] 24 (0,0)) (by (with_reducible repeat (first | refine blk_drewN ?_ _ | refine blk_drew ?_ | refine blk_alloc ?_ _));exact BK163.out)) (g:=gb164) (o:=.cells #[.int .u8 0,.string (⟨#[]⟩:ByteArray),.int .i64 0,.slice none 0 0] 24 (0,0)) (by (with_reducible repeat (first | refine blk_drewN ?_ _ | refine blk_drew ?_ | refine blk_alloc ?_ _));exact BK164.out)) (g:=gb165) (o:=.cells #[.int .u8 a0_0,.string a0_1,.int .i64 a0_2,u166003] 24 (0,0)) (by (with_reducible repeat (first | refine blk_drewN ?_ _ | refine blk_drew ?_ | refine blk_alloc ?_ _));exact BK165.out)) (below_size (by repeat (first | (with_reducible first | exact HB.out | apply below_alloc | apply pw_below_drewN | apply below_drew1 | refine below_set ?_ GE163.out | refine below_set ?_ GE164.out | refine below_set ?_ GE165.out) | exact HB.out))))
   have n2_:=Aside0.mk (blk_below (g:=gb163) (o:=.cells #[.int .u8 a0_0,.string a0_1,.int .i64 a0_2,.slice (some ad166) l0_3.length c0_3] 24 (0,0)) (by (with_reducible repeat (first | refine blk_drewN ?_ _ | refine blk_drew ?_ | refine blk_alloc ?_ _));exact BK163.out) hb)
   have n3_:=Aside0.mk (blk_below (g:=gb164) (o:=.cells #[.int .u8 0,.string (⟨#[]⟩:ByteArray),.int .i64 0,.slice none 0 0] 24 (0,0)) (by (with_reducible repeat (first | refine blk_drewN ?_ _ | refine blk_drew ?_ | refine blk_alloc ?_ _));exact BK164.out) hb)
   have n4_:=Aside0.mk (blk_below (g:=gb165) (o:=.cells #[.int .u8 a0_0,.string a0_1,.int .i64 a0_2,u166003] 24 (0,0)) (by (with_reducible repeat (first | refine blk_drewN ?_ _ | refine blk_drew ?_ | refine blk_alloc ?_ _));exact BK165.out) hb)
   have n5_:=Aside0.mk (below_step (by repeat (first | (with_reducible first | exact HB.out | apply below_alloc | apply pw_below_drewN | apply below_drew1 | refine below_set ?_ GE163.out | refine below_set ?_ GE164.out | refine below_set ?_ GE165.out) | exact HB.out)) hb)
   clear HO_166003
   clear BK163
   clear BK164
   clear BK165
   clear HB
   have HO_166003:=n0_
   have HO172:=n1_
   have BK163:=n2_
   have BK164:=n3_
   have BK165:=n4_
   have HB:=n5_
   clear n0_ n1_ n2_ n3_ n4_ n5_
   (try clear hb)
   (try clear hb2)
   (try clear hk)
   (try clear hi)
   (try clear ho0)
   refine hK.out _ _ ⟨(blk_cell BK165.out 0).trans rfl,(blk_cell BK165.out 1).trans rfl,(blk_cell BK165.out 2).trans rfl,(blk_cell BK165.out 3).trans rfl,(blk_cell BK163.out 0).trans rfl,(blk_cell BK163.out 1).trans rfl,(blk_cell BK163.out 2).trans rfl,(blk_cell BK163.out 3).trans rfl,((HB.out.cell (World.block_lt_of_cell? w _ hw166_0)).trans hw166_0),((HB.out.cell (World.block_lt_of_cell? w _ hw166_1)).trans hw166_1),((HB.out.cell (World.block_lt_of_cell? w _ hw166_2)).trans hw166_2),((HB.out.cell (World.block_lt_of_cell? w _ hw166_3)).trans hw166_3)⟩ (fun hHeld=>?_)
   clear hK K
   refine norm_ (a':=?_) ?_ ?_
   rotate_left
   ·show Act.put _ (some 26) _=_
    simp only [Act.put,List.setIfInBounds_toArray,List.set_cons_zero,List.set_cons_succ,i64_w,i32_w]
    rfl
   refine one_ (i:=8) (N:=some 27) #[true,true,true,true,true,true,true,true,true,false,false,false] rfl rfl (one_of HT_.out (by kernel_rfl)) (by decide) (fun K hK=>?_)
   refine value_ (w1:=?_) (v:=?_) (by rfl) rfl ?_ ?_
   rotate_left 2
   ·go_simp
    constructor
    ·rfl
    ·rfl
   refine hK.out _ _ ⟨(blk_cell (blk_alloc BK165.out _) 0).trans rfl,(blk_cell (blk_alloc BK165.out _) 1).trans rfl,(blk_cell (blk_alloc BK165.out _) 2).trans rfl,(blk_cell (blk_alloc BK165.out _) 3).trans rfl,(blk_cell (blk_alloc BK163.out _) 0).trans rfl,(blk_cell (blk_alloc BK163.out _) 1).trans rfl,(blk_cell (blk_alloc BK163.out _) 2).trans rfl,(blk_cell (blk_alloc BK163.out _) 3).trans rfl,(World.cell?_alloc_lt _ _ _ (World.block_lt_of_cell? _ _ (((HB.out.cell (World.block_lt_of_cell? w _ hw166_0)).trans hw166_0)))).trans (((HB.out.cell (World.block_lt_of_cell? w _ hw166_0)).trans hw166_0)),(World.cell?_alloc_lt _ _ _ (World.block_lt_of_cell? _ _ (((HB.out.cell (World.block_lt_of_cell? w _ hw166_1)).trans hw166_1)))).trans (((HB.out.cell (World.block_lt_of_cell? w _ hw166_1)).trans hw166_1)),(World.cell?_alloc_lt _ _ _ (World.block_lt_of_cell? _ _ (((HB.out.cell (World.block_lt_of_cell? w _ hw166_2)).trans hw166_2)))).trans (((HB.out.cell (World.block_lt_of_cell? w _ hw166_2)).trans hw166_2)),(World.cell?_alloc_lt _ _ _ (World.block_lt_of_cell? _ _ (((HB.out.cell (World.block_lt_of_cell? w _ hw166_3)).trans hw166_3)))).trans (((HB.out.cell (World.block_lt_of_cell? w _ hw166_3)).trans hw166_3))⟩ (fun hHeld=>?_)
   clear hK K
   refine norm_ (a':=?_) ?_ ?_
   rotate_left
   ·show Act.put _ (some 27) _=_
    simp only [Act.put,List.setIfInBounds_toArray,List.set_cons_zero,List.set_cons_succ,i64_w,i32_w]
    rfl
   refine one_ (i:=9) (N:=some 28) #[true,true,true,true,true,true,true,true,true,true,false,false] rfl rfl (one_of HT_.out (by kernel_rfl)) (by decide) (fun K hK=>?_)
   refine Kd.R_append_step (optk km) (w0:=w) w.heap.size (by rfl) (.tmp 20) (.tmp 27) 22 24 (.agg #[(.int .u8 0),(.string ⟨#[]⟩),(.int .i64 0),(.slice none 0 0)]) 56 rfl Tryz.underlying22 info24 rfl (by decide) (by omega) u166003 ((l0_3.take j).map some) (some (rd_T24 l0_3 ((j:Nat):Int))) [.int .u8 ((rd_T24 l0_3 ((j:Nat):Int)).f0),.string ((rd_T24 l0_3 ((j:Nat):Int)).f1),.int .i64 ((rd_T24 l0_3 ((j:Nat):Int)).f2),.slice (some Ao20) ((rd_T24 l0_3 ((j:Nat):Int)).f3).length co20] (fun k_=>k_ ≠ gb163 ∧ k_ ≠ gb164 ∧ k_ ≠ gb165) (fun k_=>((fun k_=>k_ ≠ gb163 ∧ k_ ≠ gb164 ∧ k_ ≠ gb165)) k_ ∧ some k_ ≠ (u166003:Value).ownBlock) rfl rfl ?aP (fun _ hk=>hk) ?aF ?aO ?aB ?aS ?aL ?_
   (case aP=>exact km_mkM _ _ _ (rd_T24 l0_3 ((j:Nat):Int)) (Kd.R_mono (HO172.out) (fun k_ hk=>⟨⟨hk.1.1.2,⟨hk.1.2,hk.2⟩⟩,hk.1.1.1.2⟩)))
   (case aB=>exact (by repeat (first | (with_reducible first | exact HB.out | apply below_alloc | apply pw_below_drewN | apply below_drew1 | refine below_set ?_ GE163.out | refine below_set ?_ GE164.out | refine below_set ?_ GE165.out) | exact HB.out)))
   (case aF=>exact (fun k_ hk=>⟨Kd.freshB (g:=gb163) (o:=.cells #[.int .u8 a0_0,.string a0_1,.int .i64 a0_2,.slice (some ad166) l0_3.length c0_3] 24 (0,0)) (by (with_reducible repeat (first | refine blk_drewN ?_ _ | refine blk_drew ?_ | refine blk_alloc ?_ _));exact BK163.out) k_ hk,Kd.freshB (g:=gb164) (o:=.cells #[.int .u8 0,.string (⟨#[]⟩:ByteArray),.int .i64 0,.slice none 0 0] 24 (0,0)) (by (with_reducible repeat (first | refine blk_drewN ?_ _ | refine blk_drew ?_ | refine blk_alloc ?_ _));exact BK164.out) k_ hk,Kd.freshB (g:=gb165) (o:=.cells #[.int .u8 a0_0,.string a0_1,.int .i64 a0_2,u166003] 24 (0,0)) (by (with_reducible repeat (first | refine blk_drewN ?_ _ | refine blk_drew ?_ | refine blk_alloc ?_ _));exact BK165.out) k_ hk⟩))
   (case aO=>exact (by (with_reducible repeat (first | apply Kd.R_alloc | apply Kd.R_drewN | apply Kd.R_drew));exact Kd.R_mono HO_166003.out (fun _ hk=>⟨hk.1.1,⟨hk.1.2.1,hk.1.2.2⟩⟩)))
   (case aS=>exact (below_size (by repeat (first | (with_reducible first | exact HB.out | apply below_alloc | apply pw_below_drewN | apply below_drew1 | refine below_set ?_ GE163.out | refine below_set ?_ GE164.out | refine below_set ?_ GE165.out) | exact HB.out))))
   (case aL=>have:=LMc13.out;omega)
   intro v174 w19 ho hb hg hat
   rw [← Ny173.out] at ho
   have n0_:=Aside0.mk (blk_grown (g:=gb163) (o:=.cells #[.int .u8 a0_0,.string a0_1,.int .i64 a0_2,.slice (some ad166) l0_3.length c0_3] 24 (0,0)) (by (with_reducible repeat (first | refine blk_drewN ?_ _ | refine blk_drew ?_ | refine blk_alloc ?_ _));exact BK163.out) hg (Kd.R_away HO_166003.out (fun _ hk=>hk.1.1)))
   have n1_:=Aside0.mk (blk_grown (g:=gb164) (o:=.cells #[.int .u8 0,.string (⟨#[]⟩:ByteArray),.int .i64 0,.slice none 0 0] 24 (0,0)) (by (with_reducible repeat (first | refine blk_drewN ?_ _ | refine blk_drew ?_ | refine blk_alloc ?_ _));exact BK164.out) hg (Kd.R_away HO_166003.out (fun _ hk=>hk.1.2.1)))
   have n2_:=Aside0.mk (blk_grown (g:=gb165) (o:=.cells #[.int .u8 a0_0,.string a0_1,.int .i64 a0_2,u166003] 24 (0,0)) (by (with_reducible repeat (first | refine blk_drewN ?_ _ | refine blk_drew ?_ | refine blk_alloc ?_ _));exact BK165.out) hg (Kd.R_away HO_166003.out (fun _ hk=>hk.1.2.2)))
   have n3_:=Aside0.mk (hb)
   have n4_:=Aside0.mk (ho)
   clear BK163
   clear BK164
   clear BK165
   clear HB
   clear HO_166003
   clear HO172
   have BK163:=n0_
   have BK164:=n1_
   have BK165:=n2_
   have HB:=n3_
   have HO175:=n4_
   clear n0_ n1_ n2_ n3_ n4_
   clear ho hb hg hat
   obtain ⟨Ao21,co21,eo21⟩:=Kd.R_slice HO175.out
   (first | subst eo21 | (injection eo21 with f1_ f2_ f3_;have f4_:=f1_.symm;have f5_:=f3_.symm;clear f1_ f2_ f3_;subst f4_;subst f5_))
   refine hK.out _ _ ⟨(blk_cell BK165.out 0).trans rfl,(blk_cell BK165.out 1).trans rfl,(blk_cell BK165.out 2).trans rfl,(blk_cell BK165.out 3).trans rfl,(blk_cell BK163.out 0).trans rfl,(blk_cell BK163.out 1).trans rfl,(blk_cell BK163.out 2).trans rfl,(blk_cell BK163.out 3).trans rfl,((HB.out.cell (World.block_lt_of_cell? w _ hw166_0)).trans hw166_0),((HB.out.cell (World.block_lt_of_cell? w _ hw166_1)).trans hw166_1),((HB.out.cell (World.block_lt_of_cell? w _ hw166_2)).trans hw166_2),((HB.out.cell (World.block_lt_of_cell? w _ hw166_3)).trans hw166_3)⟩ (fun hHeld=>?_)
   clear hK K
   refine norm_ (a':=?_) ?_ ?_
   rotate_left
   ·show Act.put _ (some 28) _=_
    simp only [Act.put,List.setIfInBounds_toArray,List.set_cons_zero,List.set_cons_succ,i64_w,i32_w]
    rfl
   refine pure_ (i:=10) (N:=some 29) (v:=?_) (a':=?_) #[true,true,true,true,true,true,true,true,true,true,true,false] rfl rfl (any_of HT_.out (by kernel_rfl)) (fun _ _ _ h=>h) (Or.inl ⟨by rfl,?_⟩) ?_ ?_
   rotate_left
   ·intro w'
    go_simp
    with_reducible rfl
   rotate_left
   ·simp only [Act.put,List.setIfInBounds_toArray,List.set_cons_zero,List.set_cons_succ,i64_w,i32_w]
    rfl
   refine last_ (i:=11) (N:=none) #[true,true,true,true,true,true,true,true,true,true,true,true] rfl rfl (one_of HT_.out (by kernel_rfl)) (by decide) (fun K hK=>?_)
   have hs22:w19.cell? ⟨gb165,3,none⟩=some (u166003):=(blk_cell BK165.out 3).trans rfl
   have hfs22:=blk_frozen BK165.out 3
   have hns22_0:=NB163_165.out
   have hns22_1:=NB164_165.out
   have hms22_0:=NB165_163.out
   have hms22_1:=NB165_164.out
   refine skip_ (w1:=?_) (by rfl) rfl ?_ ?_
   rotate_left
   ·go_simp
    rfl
   refine hK.out _ _ ?_
   clear hK K
   refine done_ (done_of HT_.out (by kernel_rfl)) ?_
   try go_wp2
   go_roundg (l0_3.length - j)
   case measure=>have:=HK0.out;have:=Hj.out;omega
   case rel=>exact ⟨j + 1,(.slice Ao21 y173.length co21),(by first | rfl | (congr 1)),⟨by have:=Hj.out;have:=HK0.out;omega⟩,⟨by have:=Hj.out;omega⟩,by rw [← Ny173b.out];exact ⟨by (with_reducible repeat (first | apply Kd.R_alloc | apply Kd.R_drewN | apply Kd.R_drew));exact Kd.R_mono (Kd.R_far (p:=⟨gb165,3,none⟩) (Kd.R_mono HO175.out (fun k_ hk=>(⟨hk,hk.2.2⟩:_ ∧ k_ ≠ gb165))) (fun _ hk=>hk.2) (.slice Ao21 y173.length co21)) (fun _ hk=>⟨hk.1.1,⟨hk.1.2.1,hk.1.2.2⟩⟩)⟩,⟨by (with_reducible repeat (first | refine blk_drewN ?_ _ | refine blk_drew ?_ | refine blk_alloc ?_ _));refine blk_far ?_ NB163_165.out _;(with_reducible repeat (first | refine blk_drewN ?_ _ | refine blk_drew ?_ | refine blk_alloc ?_ _));exact BK163.out⟩,⟨by (with_reducible repeat (first | refine blk_drewN ?_ _ | refine blk_drew ?_ | refine blk_alloc ?_ _));refine blk_far ?_ NB164_165.out _;(with_reducible repeat (first | refine blk_drewN ?_ _ | refine blk_drew ?_ | refine blk_alloc ?_ _));exact BK164.out⟩,⟨by (with_reducible repeat (first | refine blk_drewN ?_ _ | refine blk_drew ?_ | refine blk_alloc ?_ _));refine blk_put (cs:=#[.int .u8 a0_0,.string a0_1,.int .i64 a0_2,u166003]) ?_ 3 _ rfl;(with_reducible repeat (first | refine blk_drewN ?_ _ | refine blk_drew ?_ | refine blk_alloc ?_ _));exact BK165.out⟩,⟨by repeat (first | (with_reducible first | exact HB.out | apply below_alloc | apply pw_below_drewN | apply below_drew1 | refine below_set ?_ GE163.out | refine below_set ?_ GE164.out | refine below_set ?_ GE165.out) | exact HB.out)⟩⟩
  ·have c10b0:decide (((j:Nat):Int) < (l0_3.length:Int))=false:=decide_eq_false (by omega)
   obtain rfl:j=l0_3.length:=by have:=HK1.out;omega
   have d2_:(l0_3.length < l0_3.length)=False:=eq_false c10
   have d3_:((l0_3.length:Int) < (l0_3.length:Int))=False:=eq_false (by omega)
   clear c10
   have LMc23:Aside0 (((l0_3.take l0_3.length).map some:List (Option S24)).length < 2513169434916):=⟨by rw [List.length_map,List.length_take];have:=HL.out;omega⟩
   obtain ⟨y176,hy176⟩:∃ y_:List (Option S24),y_=((l0_3.take l0_3.length).map some ++ [none]):=⟨_,rfl⟩
   have Ny176b:Aside0 (y176=l0_3.map some ++ [none]):=⟨by rw [hy176,List.take_length]⟩
   have Ny176c:Aside0 (y176.length=l0_3.length + 1):=⟨by rw [Ny176b.out,len_some]⟩
   have Ny176:=Aside0.mk hy176
   clear hy176
   have c24b0:(0 ≤ (l0_3.length:Int))=True:=eq_true (by omega)
   have c24b1:decide (0 ≤ (l0_3.length:Int))=true:=decide_eq_true (by omega)
   have c25b0:((l0_3.length:Int) ≤ (y176.length:Int))=True:=eq_true (by have:=Ny176c.out;omega)
   have c25b1:decide ((l0_3.length:Int) ≤ (y176.length:Int))=true:=decide_eq_true (by have:=Ny176c.out;omega)
   have hnb26:=NB163_164.out
   have hnc26:=NB164_163.out
   have hnb27:=NB163_165.out
   have hnc27:=NB165_163.out
   have hcz28_0:wr.cell? ⟨gb163,0,none⟩=some (.int .u8 a0_0):=(blk_cell BK163.out 0).trans rfl
   have hcz28_1:wr.cell? ⟨gb163,1,none⟩=some (.string a0_1):=(blk_cell BK163.out 1).trans rfl
   have hcz28_2:wr.cell? ⟨gb163,2,none⟩=some (.int .i64 a0_2):=(blk_cell BK163.out 2).trans rfl
   have hcz28_3:wr.cell? ⟨gb163,3,none⟩=some (.slice A0_3 l0_3.length c0_3):=(blk_cell BK163.out 3).trans rfl
   have hfz28_0:=blk_frozen BK163.out 0
   have hfz28_1:=blk_frozen BK163.out 1
   have hfz28_2:=blk_frozen BK163.out 2
   have hfz28_3:=blk_frozen BK163.out 3
   have hnb29:=NB165_164.out
   have hnc29:=NB164_165.out
   have hcz30_0:wr.cell? ⟨gb165,0,none⟩=some (.int .u8 a0_0):=(blk_cell BK165.out 0).trans rfl
   have hcz30_1:wr.cell? ⟨gb165,1,none⟩=some (.string a0_1):=(blk_cell BK165.out 1).trans rfl
   have hcz30_2:wr.cell? ⟨gb165,2,none⟩=some (.int .i64 a0_2):=(blk_cell BK165.out 2).trans rfl
   have hcz30_3:wr.cell? ⟨gb165,3,none⟩=some (u166003):=(blk_cell BK165.out 3).trans rfl
   have hfz30_0:=blk_frozen BK165.out 0
   have hfz30_1:=blk_frozen BK165.out 1
   have hfz30_2:=blk_frozen BK165.out 2
   have hfz30_3:=blk_frozen BK165.out 3
   go_wp2_with (first | ((with_reducible refine gate_builtin (b:=.append) (xs:=#[.tmp 31,.tmp 33]) rfl ?_);at_builtin;refine Kd.R_append (optk km) (w0:=w) w.heap.size rfl (.tmp 31) (.tmp 33) 22 24 (.agg #[(.int .u8 0),(.string ⟨#[]⟩),(.int .i64 0),(.slice none 0 0)]) 56 rfl Tryz.underlying22 info24 rfl (by decide) (by omega) u166003 ((l0_3.take l0_3.length).map some) (none:Option S24) [.int .u8 77,.string (⟨#[]⟩:ByteArray),.int .i64 0,.slice none 0 0] (fun k_=>k_ ≠ gb163 ∧ k_ ≠ gb164 ∧ k_ ≠ gb165) (fun k_=>((fun k_=>k_ ≠ gb163 ∧ k_ ≠ gb164 ∧ k_ ≠ gb165)) k_ ∧ some k_ ≠ (u166003:Value).ownBlock) rfl rfl ?aP (fun _ hk=>hk) ?aF ?aO ?aB ?aS ?aL ?_;(case aP=>exact ⟨rfl,rfl⟩);(case aB=>exact (by repeat (first | (with_reducible first | exact HB.out | apply below_alloc | apply pw_below_drewN | apply below_drew1 | refine below_set ?_ GE163.out | refine below_set ?_ GE164.out | refine below_set ?_ GE165.out) | exact HB.out)));(case aF=>exact (fun k_ hk=>⟨Kd.freshB (g:=gb163) (o:=.cells #[.int .u8 a0_0,.string a0_1,.int .i64 a0_2,.slice A0_3 l0_3.length c0_3] 24 (0,0)) (by (with_reducible repeat (first | refine blk_drewN ?_ _ | refine blk_drew ?_ | refine blk_alloc ?_ _));exact BK163.out) k_ hk,Kd.freshB (g:=gb164) (o:=.cells #[.int .u8 0,.string (⟨#[]⟩:ByteArray),.int .i64 0,.slice none 0 0] 24 (0,0)) (by (with_reducible repeat (first | refine blk_drewN ?_ _ | refine blk_drew ?_ | refine blk_alloc ?_ _));exact BK164.out) k_ hk,Kd.freshB (g:=gb165) (o:=.cells #[.int .u8 a0_0,.string a0_1,.int .i64 a0_2,u166003] 24 (0,0)) (by (with_reducible repeat (first | refine blk_drewN ?_ _ | refine blk_drew ?_ | refine blk_alloc ?_ _));exact BK165.out) k_ hk⟩));(case aO=>exact (by (with_reducible repeat (first | apply Kd.R_alloc | apply Kd.R_drewN | apply Kd.R_drew));exact HO_166003.out));(case aS=>exact (below_size (by repeat (first | (with_reducible first | exact HB.out | apply below_alloc | apply pw_below_drewN | apply below_drew1 | refine below_set ?_ GE163.out | refine below_set ?_ GE164.out | refine below_set ?_ GE165.out) | exact HB.out))));(case aL=>have:=LMc23.out;omega);intro v177 w31 ho hb hg hat;rw [← Ny176.out] at ho;have n0_:=Aside0.mk (blk_grown (g:=gb163) (o:=.cells #[.int .u8 a0_0,.string a0_1,.int .i64 a0_2,.slice A0_3 l0_3.length c0_3] 24 (0,0)) (by (with_reducible repeat (first | refine blk_drewN ?_ _ | refine blk_drew ?_ | refine blk_alloc ?_ _));exact BK163.out) hg (Kd.R_away HO_166003.out (fun _ hk=>hk.1)));have n1_:=Aside0.mk (blk_grown (g:=gb164) (o:=.cells #[.int .u8 0,.string (⟨#[]⟩:ByteArray),.int .i64 0,.slice none 0 0] 24 (0,0)) (by (with_reducible repeat (first | refine blk_drewN ?_ _ | refine blk_drew ?_ | refine blk_alloc ?_ _));exact BK164.out) hg (Kd.R_away HO_166003.out (fun _ hk=>hk.2.1)));have n2_:=Aside0.mk (blk_grown (g:=gb165) (o:=.cells #[.int .u8 a0_0,.string a0_1,.int .i64 a0_2,u166003] 24 (0,0)) (by (with_reducible repeat (first | refine blk_drewN ?_ _ | refine blk_drew ?_ | refine blk_alloc ?_ _));exact BK165.out) hg (Kd.R_away HO_166003.out (fun _ hk=>hk.2.2)));have n3_:=Aside0.mk (hb);have n4_:=Aside0.mk (ho);clear BK163;clear BK164;clear BK165;clear HB;clear HO_166003;have BK163:=n0_;have BK164:=n1_;have BK165:=n2_;have HB:=n3_;have HO178:=n4_;clear n0_ n1_ n2_ n3_ n4_;clear ho hb hg hat;obtain ⟨Ao32,co32,eo32⟩:=Kd.R_slice1 HO178.out (by rw [Ny176c.out];omega);subst eo32;have hcz33_0:w31.cell? ⟨gb165,0,none⟩=some (.int .u8 a0_0):=(blk_cell BK165.out 0).trans rfl;have hcz33_1:w31.cell? ⟨gb165,1,none⟩=some (.string a0_1):=(blk_cell BK165.out 1).trans rfl;have hcz33_2:w31.cell? ⟨gb165,2,none⟩=some (.int .i64 a0_2):=(blk_cell BK165.out 2).trans rfl;have hcz33_3:w31.cell? ⟨gb165,3,none⟩=some (u166003):=(blk_cell BK165.out 3).trans rfl;have hfz33_0:=blk_frozen BK165.out 0;have hfz33_1:=blk_frozen BK165.out 1;have hfz33_2:=blk_frozen BK165.out 2;have hfz33_3:=blk_frozen BK165.out 3) | ((with_reducible refine gate_store (t:=22) (p:=35) rfl ?_);refine store_event (t:=22) (p:=35) (v:=?vo_w34) (w1:=(w31.setCell ⟨gb165,3,none⟩ (.slice (some Ao32) y176.length co32))) ?hg ?ho ?hn ?hr ?_;(case ho=>rfl);(case hg=>rfl);(case hn=>rfl);(case hr=>first | (go_simp;done) | (go_simp;rfl));intro w34 hw;have n0_:Aside0 (Kd.R (optk km) 24 w34 w.heap.size (fun k_=>k_ ≠ gb163 ∧ k_ ≠ gb164 ∧ k_ ≠ gb165) (.slice (some Ao32) y176.length co32) y176):=⟨(by rw [hw];exact (by (with_reducible repeat (first | apply Kd.R_alloc | apply Kd.R_drewN | apply Kd.R_drew));exact Kd.R_mono (Kd.R_far (p:=⟨gb165,3,none⟩) (Kd.R_mono HO178.out (fun k_ hk=>(⟨hk,hk.2.2⟩:_ ∧ k_ ≠ gb165))) (fun _ hk=>hk.2) (.slice (some Ao32) y176.length co32)) (fun _ hk=>⟨hk.1.1,⟨hk.1.2.1,hk.1.2.2⟩⟩)))⟩;have n1_:Aside0 (w34.heap[gb163]? = some (.cells #[.int .u8 a0_0,.string a0_1,.int .i64 a0_2,.slice A0_3 l0_3.length c0_3] 24 (0,0))):=⟨(by rw [hw];exact (by (with_reducible repeat (first | refine blk_drewN ?_ _ | refine blk_drew ?_ | refine blk_alloc ?_ _));refine blk_far ?_ NB163_165.out _;(with_reducible repeat (first | refine blk_drewN ?_ _ | refine blk_drew ?_ | refine blk_alloc ?_ _));exact BK163.out))⟩;have n2_:Aside0 (w34.heap[gb164]? = some (.cells #[.int .u8 0,.string (⟨#[]⟩:ByteArray),.int .i64 0,.slice none 0 0] 24 (0,0))):=⟨(by rw [hw];exact (by (with_reducible repeat (first | refine blk_drewN ?_ _ | refine blk_drew ?_ | refine blk_alloc ?_ _));refine blk_far ?_ NB164_165.out _;(with_reducible repeat (first | refine blk_drewN ?_ _ | refine blk_drew ?_ | refine blk_alloc ?_ _));exact BK164.out))⟩;have n3_:Aside0 (w34.heap[gb165]? = some (.cells #[.int .u8 a0_0,.string a0_1,.int .i64 a0_2,.slice (some Ao32) y176.length co32] 24 (0,0))):=⟨(by rw [hw];exact (by (with_reducible repeat (first | refine blk_drewN ?_ _ | refine blk_drew ?_ | refine blk_alloc ?_ _));refine blk_put (cs:=#[.int .u8 a0_0,.string a0_1,.int .i64 a0_2,u166003]) ?_ 3 _ rfl;(with_reducible repeat (first | refine blk_drewN ?_ _ | refine blk_drew ?_ | refine blk_alloc ?_ _));exact BK165.out))⟩;have n4_:Aside0 (Below w.heap.size w w34):=⟨(by rw [hw];exact (by repeat (first | (with_reducible first | exact HB.out | apply below_alloc | apply pw_below_drewN | apply below_drew1 | refine below_set ?_ GE163.out | refine below_set ?_ GE164.out | refine below_set ?_ GE165.out) | exact HB.out)))⟩;clear hw;clear HO178;clear BK163;clear BK164;clear BK165;clear HB;have HO178:=n0_;have BK163:=n1_;have BK164:=n2_;have BK165:=n3_;have HB:=n4_;clear n0_ n1_ n2_ n3_ n4_;have hcz35_0:w34.cell? ⟨gb165,0,none⟩=some (.int .u8 a0_0):=(blk_cell BK165.out 0).trans rfl;have hcz35_1:w34.cell? ⟨gb165,1,none⟩=some (.string a0_1):=(blk_cell BK165.out 1).trans rfl;have hcz35_2:w34.cell? ⟨gb165,2,none⟩=some (.int .i64 a0_2):=(blk_cell BK165.out 2).trans rfl;have hcz35_3:w34.cell? ⟨gb165,3,none⟩=some (.slice (some Ao32) y176.length co32):=(blk_cell BK165.out 3).trans rfl;have hfz35_0:=blk_frozen BK165.out 0;have hfz35_1:=blk_frozen BK165.out 1;have hfz35_2:=blk_frozen BK165.out 2;have hfz35_3:=blk_frozen BK165.out 3;have hcz36_0:w34.cell? ⟨gb163,0,none⟩=some (.int .u8 a0_0):=(blk_cell BK163.out 0).trans rfl;have hcz36_1:w34.cell? ⟨gb163,1,none⟩=some (.string a0_1):=(blk_cell BK163.out 1).trans rfl;have hcz36_2:w34.cell? ⟨gb163,2,none⟩=some (.int .i64 a0_2):=(blk_cell BK163.out 2).trans rfl;have hcz36_3:w34.cell? ⟨gb163,3,none⟩=some (.slice A0_3 l0_3.length c0_3):=(blk_cell BK163.out 3).trans rfl;have hfz36_0:=blk_frozen BK163.out 0;have hfz36_1:=blk_frozen BK163.out 1;have hfz36_2:=blk_frozen BK163.out 2;have hfz36_3:=blk_frozen BK163.out 3;have q37:((l0_3.length:Int):Int) ≤ ((y176.length:Int):Int):=of_decide_eq_true (by first | (with_reducible assumption) | assumption);obtain ⟨i037,hi037,_,hsz37,_⟩:=info_parts info24;have hcut37:=cut_to (P:=Tryz.prog) 22 24 .i64 Tryz.underlying22 hi037 (some Ao32) y176.length co32 (l0_3.length:Int) (of_decide_eq_true (by first | (with_reducible assumption) | assumption)) q37 (Kd.R_reads' HO178.out).2.1;have hy37:l0_3.length=((l0_3.length:Int):Int).toNat:=(Int.toNat_natCast _).symm;rw [← hy37] at hcut37;clear hy37 hi037 hsz37;have HO181:=Aside0.mk HO178.out;clear HO178;replace q37:=eq_true q37;have hcz38_0:w34.cell? ⟨gb164,0,none⟩=some (.int .u8 0):=(blk_cell BK164.out 0).trans rfl;have hcz38_1:w34.cell? ⟨gb164,1,none⟩=some (.string (⟨#[]⟩:ByteArray)):=(blk_cell BK164.out 1).trans rfl;have hcz38_2:w34.cell? ⟨gb164,2,none⟩=some (.int .i64 0):=(blk_cell BK164.out 2).trans rfl;have hcz38_3:w34.cell? ⟨gb164,3,none⟩=some (.slice none 0 0):=(blk_cell BK164.out 3).trans rfl;have hfz38_0:=blk_frozen BK164.out 0;have hfz38_1:=blk_frozen BK164.out 1;have hfz38_2:=blk_frozen BK164.out 2;have hfz38_3:=blk_frozen BK164.out 3))
   refine bodyPost_ret (results_cell_row rfl _ _ gb164 24 #[.int .u8 a0_0,.string a0_1,.int .i64 a0_2,.slice (some Ao32) l0_3.length co32] (0,0) _ rfl (by (with_reducible repeat (first | refine blk_drewN ?_ _ | refine blk_drew ?_ | refine blk_alloc ?_ _));refine blk_put (cs:=#[.int .u8 a0_0,.string a0_1,.int .i64 a0_2,.slice none 0 0]) ?_ 3 _ rfl;(with_reducible repeat (first | refine blk_drewN ?_ _ | refine blk_drew ?_ | refine blk_alloc ?_ _));refine blk_put (cs:=#[.int .u8 a0_0,.string a0_1,.int .i64 0,.slice none 0 0]) ?_ 2 _ rfl;(with_reducible repeat (first | refine blk_drewN ?_ _ | refine blk_drew ?_ | refine blk_alloc ?_ _));refine blk_put (cs:=#[.int .u8 a0_0,.string (⟨#[]⟩:ByteArray),.int .i64 0,.slice none 0 0]) ?_ 1 _ rfl;(with_reducible repeat (first | refine blk_drewN ?_ _ | refine blk_drew ?_ | refine blk_alloc ?_ _));refine blk_put (cs:=#[.int .u8 0,.string (⟨#[]⟩:ByteArray),.int .i64 0,.slice none 0 0]) ?_ 0 _ rfl;(with_reducible repeat (first | refine blk_drewN ?_ _ | refine blk_drew ?_ | refine blk_alloc ?_ _));refine blk_far ?_ NB164_165.out _;(with_reducible repeat (first | refine blk_drewN ?_ _ | refine blk_drew ?_ | refine blk_alloc ?_ _));exact BK164.out) Tryz.underlying24 rfl (by kernel_rfl)) rfl ?_
   exact ⟨Ao32,co32,rfl,by rw [← Ny176b.out,← Ny176c.out];(with_reducible repeat (first | apply Kd.R_alloc | apply Kd.R_drewN | apply Kd.R_drew));exact Kd.R_mono (Kd.R_far (p:=⟨gb164,3,none⟩) (Kd.R_far (p:=⟨gb164,2,none⟩) (Kd.R_far (p:=⟨gb164,1,none⟩) (Kd.R_far (p:=⟨gb164,0,none⟩) (Kd.R_far (p:=⟨gb165,3,none⟩) (Kd.R_mono (Kd.R_mono HO181.out (fun k_ hk=>(⟨hk,hk.2.2⟩:_ ∧ k_ ≠ gb165))) (fun k_ hk=>(⟨hk,hk.1.2.1⟩:_ ∧ k_ ≠ gb164))) (fun _ hk=>hk.1.2) (.slice (some Ao32) l0_3.length co32)) (fun _ hk=>hk.2) (.int .u8 a0_0)) (fun _ hk=>hk.2) (.string a0_1)) (fun _ hk=>hk.2) (.int .i64 a0_2)) (fun _ hk=>hk.2) (.slice (some Ao32) l0_3.length co32)) (fun _ hk=>trivial),by repeat (first | (with_reducible first | exact HB.out | apply below_alloc | apply pw_below_drewN | apply below_drew1 | refine below_set ?_ GE163.out | refine below_set ?_ GE164.out | refine below_set ?_ GE165.out) | exact HB.out)⟩
end Go.Proofs.YtjapfefiaijfcaaGreatDoor.Q
