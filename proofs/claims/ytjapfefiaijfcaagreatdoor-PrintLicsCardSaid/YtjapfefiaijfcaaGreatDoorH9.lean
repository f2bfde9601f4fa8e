/- Go functions as Lean functions, and that each call comes to its Lean function's answer, wherever that is some answer. Written by a program of this session out of the translation. -/
import Derived.Test.YtjapfefiaijfcaaGreatDoorH5
namespace Go.Proofs.YtjapfefiaijfcaaGreatDoor.Q
open Go.RowKit Go.Proofs.YtjapfefiaijfcaaGreatDoorW.PrintWords Go.Proofs.YtjapfefiaijfcaaGreatDoorW.PrintLast Go.Proofs.YtjapfefiaijfcaaGreatDoorW.PrintMore
attribute [local go_sem] max2_int min2_int max_two min_two max_three min_three max_four min_four
set_option linter.unusedVariables false
set_option linter.unusedSimpArgs false
mutual
def vouchref14_Quote.l0:Nat → ByteArray → List Int → Int → Option (ByteArray)
 | 0,_,_,_=>none
 | k + 1,x0,x3,x4=>if x4 < (x0.size:Int) then (if 0 ≤ x4 then (if (bt x0 x4)=34 then (vouchref14_Quote.j1 k x0 x3 x4 (bt x0 x4) true) else (vouchref14_Quote.j1 k x0 x3 x4 (bt x0 x4) ((bt x0 x4) == 92))) else (none)) else (if x3.length < 140737488355328 then (some (strOfNums (x3 ++ [34]))) else (none))
def vouchref14_Quote.j1:Nat → ByteArray → List Int → Int → Int → Bool → Option (ByteArray)
 | 0,_,_,_,_,_=>none
 | k + 1,x0,x3,x4,x5,x29=>if x29=true then ((some (([92,x5]:List Int):List Int)).bind fun y369=>(if x3.length + y369.length < 140737488355328 then (vouchref14_Quote.l0 k x0 (x3 ++ y369) (wrap64 (x4 + 1))) else (none))) else (if x5=10 then ((some (([92,110]:List Int):List Int)).bind fun y375=>(if x3.length + y375.length < 140737488355328 then (vouchref14_Quote.l0 k x0 (x3 ++ y375) (wrap64 (x4 + 1))) else (none))) else (if x5=9 then ((some (([92,116]:List Int):List Int)).bind fun y381=>(if x3.length + y381.length < 140737488355328 then (vouchref14_Quote.l0 k x0 (x3 ++ y381) (wrap64 (x4 + 1))) else (none))) else (if x5=13 then ((some (([92,114]:List Int):List Int)).bind fun y387=>(if x3.length + y387.length < 140737488355328 then (vouchref14_Quote.l0 k x0 (x3 ++ y387) (wrap64 (x4 + 1))) else (none))) else (if x5 ≥ 32 then (if x5 ≤ 126 then (if x3.length < 140737488355328 then (vouchref14_Quote.l0 k x0 (x3 ++ [x5]) (wrap64 (x4 + 1))) else (none)) else ((some (([92,(48 + ((Int.tdiv x5 64) % 256)) % 256,48 + (((Int.tdiv x5 8) % 256) % 8),(48 + (Int.tmod x5 8)) % 256]:List Int):List Int)).bind fun y396=>(if x3.length + y396.length < 140737488355328 then (vouchref14_Quote.l0 k x0 (x3 ++ y396) (wrap64 (x4 + 1))) else (none)))) else ((some (([92,(48 + ((Int.tdiv x5 64) % 256)) % 256,48 + (((Int.tdiv x5 8) % 256) % 8),(48 + (Int.tmod x5 8)) % 256]:List Int):List Int)).bind fun y402=>(if x3.length + y402.length < 140737488355328 then (vouchref14_Quote.l0 k x0 (x3 ++ y402) (wrap64 (x4 + 1))) else (none)))))))
end
def vouchref14_Quote.f (k:Nat) (a0:ByteArray):Option (ByteArray):=vouchref14_Quote.l0 k a0 (([34]:List Int)) 0
set_option maxHeartbeats 8000000 in
set_option maxRecDepth 100000 in
theorem vouchref14_Quote.calls (k:Nat) (a0:ByteArray) (r:ByteArray) (w:World) (h:vouchref14_Quote.f k a0=some r) :
  Calls Tryz.prog 39 #[.string a0] w fun e w'=>e = .returned (.string r) ∧ Below w.heap.size w w':=by
 have HB:=Aside0.mk (Below.refl w.heap.size w)
 have H:(vouchref14_Quote.l0 k a0 (([34]:List Int)) 0)=some r:=h
 clear h
 obtain ⟨y363,hy363⟩:∃ y_:List Int,y_=(([34]:List Int)):=⟨_,rfl⟩
 replace H:(vouchref14_Quote.l0 k a0 y363 0)=some r:=by first | (rw [hy363];with_reducible exact H) | (have H2_:=(Option.bind_some _ _).symm.trans H;rw [hy363];with_reducible exact H2_) | (have H2_:=(Option.bind_some _ _).symm.trans H;with_reducible exact H2_) | with_reducible exact H | (rw [hy363];exact H) | exact H
 have Ny363:=Aside0.mk hy363
 clear hy363
 have H':=Aside0.mk H
 clear H
 go_enter Tryz.func39,Tryz.ntmps39
 go_wp2_with (first | ((with_reducible refine gate_dst (N:=6) rfl ?_);refine Kd.R_lit (Kd.int .u8) _ 5 ?hg (N:=6) ?hd (xs:=([34]:List Int)) (inner:=[.int .u8 34]) (ok:=fun _=>True) (okp:=fun _=>True) ?hr ?hp (fun _ hk=>hk) trivial (Below.refl _ _) (Nat.le_refl _) (by simp) ?_;(case hd=>rfl);(case hg=>rfl);(case hr=>first | (go_simp;done) | (go_simp;rfl));(case hp=>exact (Reps.one (show Kd.M (Kd.int .u8) _ _ _ 34 [.int .u8 34] from rfl) (Reps.none _ _)));intro v364 w2 ho3 hb hg_ hnew_;clear hg_ hnew_;(first | rw [← Ny363.out] at ho3 | (simp only [Int.reduceToNat] at ho3;rw [← Ny363.out] at ho3));have n0_:=Aside0.mk (Kd.R_lower ho3 (below_size (by repeat (first | (with_reducible first | exact HB.out | apply below_alloc | apply pw_below_drewN | apply below_drew1) | exact HB.out))));have n1_:=Aside0.mk (below_step (by repeat (first | (with_reducible first | exact HB.out | apply below_alloc | apply pw_below_drewN | apply below_drew1) | exact HB.out)) hb);clear HB;have HO365:=n0_;have HB:=n1_;clear n0_ n1_;clear hb ho3))
 go_loopg [3,4] k (fun kq v3 v4 w'=>∃ (x3_1:List Int) (x4_1:Int),v4 = .int .i64 x4_1 ∧ Aside0 (vouchref14_Quote.l0 kq a0 x3_1 x4_1=some r) ∧ Aside0 (kq ≤ k) ∧ Aside0 (Kd.R (Kd.int .u8) 5 w' w.heap.size (fun _=>True) v3 x3_1) ∧ Aside0 (Below w.heap.size w w'))
 case atStart=>exact ⟨(y363),(0),(by first | rfl | (simp;done) | (simp [*];done) | (repeat (first | rfl | (unfold wrap64;omega) | congr 1))),H',⟨Nat.le_refl _⟩,⟨by (with_reducible repeat (first | apply Kd.R_alloc | apply Kd.R_drewN | apply Kd.R_drew));exact HO365.out⟩,⟨by repeat (first | (with_reducible first | exact HB.out | apply below_alloc | apply pw_below_drewN | apply below_drew1) | exact HB.out)⟩⟩
 case round =>
  clear H'
  try clear p2
  try clear c3
  obtain ⟨x3_1,x4_1,rfl,HA,HK1,HO_3,HB⟩:=hrel
  cases gk with
  | zero=>exact absurd HA.out (by simp [vouchref14_Quote.l0])
  | succ k1 =>
   have H:=HA.out
   clear HA
   simp only [vouchref14_Quote.l0] at H
   by_cases c4:x4_1 < (a0.size:Int)
   ·rw [if_pos c4] at H
    have c4b0:decide (x4_1 < (a0.size:Int))=true:=decide_eq_true c4
    clear c4
    by_cases c5:0 ≤ x4_1
    ·rw [if_pos c5] at H
     have c5b0:decide (0 ≤ x4_1)=true:=decide_eq_true c5
     clear c5
     have HC7:=Aside0.mk H
     clear H
     have p6:0 ≤ (x4_1:Int):=of_decide_eq_true (by first | (with_reducible assumption) | assumption)
     have q6:x4_1 < (a0.size:Int):=of_decide_eq_true (by first | (with_reducible assumption) | assumption)
     have hx6:=bt_at a0 x4_1
     replace p6:=eq_true p6
     replace q6:=eq_true q6
     go_upto_region 7 with (fail)
     go_cut [29] (fun v29 wc=>∃ (kq:Nat) (x29_6:Bool),v29 = .bool x29_6 ∧ Aside0 (vouchref14_Quote.j1 kq a0 x3_1 x4_1 (bt a0 x4_1) x29_6=some r) ∧ Aside0 (kq ≤ k1) ∧ Aside0 (Kd.R (Kd.int .u8) 5 wc w.heap.size (fun _=>True) u3 x3_1) ∧ Aside0 (Below w.heap.size w wc))
     case first =>
      have H:=HC7.out
      clear HC7
      by_cases c8:(bt a0 x4_1)=34
      ·rw [if_pos c8] at H
       have c8b0:((bt a0 x4_1) == 34)=true:=beq_iff_eq.mpr c8
       have c8b1:((bt a0 x4_1) != 34)=false:=bne_eq_false_iff_eq.mpr c8
       clear c8
       (first | rw [c8b0] | (simp only [i64_w,i32_w];rw [c8b0]) | skip)
       have H':=Aside0.mk H
       clear H
       go_wp2
       go_meet
       case rel=>exact ⟨_,(true),(by first | rfl | (simp;done) | (simp [*];done) | (repeat (first | rfl | (unfold wrap64;omega) | congr 1))),H',⟨by have:=HK1.out;first | omega | exact Nat.le_refl _⟩,⟨by (with_reducible repeat (first | apply Kd.R_alloc | apply Kd.R_drewN | apply Kd.R_drew));exact HO_3.out⟩,⟨by repeat (first | (with_reducible first | exact HB.out | apply below_alloc | apply pw_below_drewN | apply below_drew1) | exact HB.out)⟩⟩
      ·rw [if_neg c8] at H
       have c8b0:((bt a0 x4_1) == 34)=false:=beq_eq_false_iff_ne.mpr c8
       have c8b1:((bt a0 x4_1) != 34)=true:=bne_iff_ne.mpr c8
       (first | rw [c8b0] | (simp only [i64_w,i32_w];rw [c8b0]) | skip)
       have H':=Aside0.mk H
       clear H
       go_wp2
       go_meet
       case rel=>exact ⟨_,(((bt a0 x4_1) == 92)),(by first | rfl | (simp;done) | (simp [*];done) | (repeat (first | rfl | (unfold wrap64;omega) | congr 1))),H',⟨by have:=HK1.out;first | omega | exact Nat.le_refl _⟩,⟨by (with_reducible repeat (first | apply Kd.R_alloc | apply Kd.R_drewN | apply Kd.R_drew));exact HO_3.out⟩,⟨by repeat (first | (with_reducible first | exact HB.out | apply below_alloc | apply pw_below_drewN | apply below_drew1) | exact HB.out)⟩⟩
     case rest =>
      clear HC7
      try clear p2
      try clear c3
      try clear c4
      try clear c4b0
      try clear c5
      try clear c5b0
      try clear p6
      try clear q6
      try clear hx6
      try clear c8
      try clear c8b0
      try clear c8b1
      try clear p2
      try clear p6
      try clear q6
      obtain ⟨kq,x29_6,rfl,HA,HJ6,HO_3,HB⟩:=hcut
      cases kq with
      | zero=>exact absurd HA.out (by simp [vouchref14_Quote.j1])
      | succ kj6 =>
       have H:=HA.out
       clear HA
       simp only [vouchref14_Quote.j1] at H
       by_cases c9:x29_6=true
       ·subst c9
        have H1:((some (([92,(bt a0 x4_1)]:List Int):List Int)).bind fun y369=>(if x3_1.length + y369.length < 140737488355328 then (vouchref14_Quote.l0 kj6 a0 (x3_1 ++ y369) (wrap64 (x4_1 + 1))) else (none)))=some r:=by rw [if_pos rfl] at H;exact H
        clear H
        have H:=H1
        clear H1
        obtain ⟨y369,hy369⟩:∃ y_:List Int,y_=(([92,(bt a0 x4_1)]:List Int)):=⟨_,rfl⟩
        replace H:(if x3_1.length + y369.length < 140737488355328 then (vouchref14_Quote.l0 kj6 a0 (x3_1 ++ y369) (wrap64 (x4_1 + 1))) else (none))=some r:=by first | (rw [hy369];with_reducible exact H) | (have H2_:=(Option.bind_some _ _).symm.trans H;rw [hy369];with_reducible exact H2_) | (have H2_:=(Option.bind_some _ _).symm.trans H;with_reducible exact H2_) | with_reducible exact H | (rw [hy369];exact H) | exact H
        have Ny369:=Aside0.mk hy369
        clear hy369
        by_cases c10:x3_1.length + y369.length < 140737488355328
        ·rw [if_pos c10] at H
         have LMc10:=Aside0.mk c10
         clear c10
         obtain ⟨y372,hy372⟩:∃ y_:List Int,y_=(x3_1 ++ y369):=⟨_,rfl⟩
         replace H:(vouchref14_Quote.l0 kj6 a0 y372 (wrap64 (x4_1 + 1)))=some r:=by first | (rw [hy372];with_reducible exact H) | (have H2_:=(Option.bind_some _ _).symm.trans H;rw [hy372];with_reducible exact H2_) | (have H2_:=(Option.bind_some _ _).symm.trans H;with_reducible exact H2_) | with_reducible exact H | (rw [hy372];exact H) | exact H
         have Ny372:=Aside0.mk hy372
         clear hy372
         have H':=Aside0.mk H
         clear H
         go_wp2_with (first | ((with_reducible refine gate_dst (N:=38) rfl ?_);refine Kd.R_lit (Kd.int .u8) _ 5 ?hg (N:=38) ?hd (xs:=([92,(bt a0 x4_1)]:List Int)) (inner:=[.int .u8 92,.int .u8 (bt a0 x4_1)]) (ok:=fun _=>True) (okp:=fun _=>True) ?hr ?hp (fun _ hk=>hk) trivial (Below.refl _ _) (Nat.le_refl _) (by simp) ?_;(case hd=>rfl);(case hg=>rfl);(case hr=>first | (go_simp;done) | (go_simp;rfl));(case hp=>exact (Reps.one (show Kd.M (Kd.int .u8) _ _ _ 92 [.int .u8 92] from rfl) (Reps.one (show Kd.M (Kd.int .u8) _ _ _ (bt a0 x4_1) [.int .u8 (bt a0 x4_1)] from rfl) (Reps.none _ _))));intro v370 w11 ho12 hb hg_ hnew_;clear hg_ hnew_;(first | rw [← Ny369.out] at ho12 | (simp only [Int.reduceToNat] at ho12;rw [← Ny369.out] at ho12));have n0_:=Aside0.mk (Kd.R_elder' (by (with_reducible repeat (first | apply Kd.R_alloc | apply Kd.R_drewN | apply Kd.R_drew));exact HO_3.out) (Kd.R_base ho12) hb);have n1_:=Aside0.mk (Kd.R_lower (Kd.R_new' ho12 (Kd.R_lt (by (with_reducible repeat (first | apply Kd.R_alloc | apply Kd.R_drewN | apply Kd.R_drew));exact HO_3.out))) (below_size (by repeat (first | (with_reducible first | exact HB.out | apply below_alloc | apply pw_below_drewN | apply below_drew1) | exact HB.out))));have n2_:=Aside0.mk (below_step (by repeat (first | (with_reducible first | exact HB.out | apply below_alloc | apply pw_below_drewN | apply below_drew1) | exact HB.out)) hb);clear HO_3;clear HB;have HO_3:=n0_;have HO371:=n1_;have HB:=n2_;clear n0_ n1_ n2_;clear hb ho12;obtain ⟨Ao14,co14,eo14⟩:=Kd.R_slice HO371.out;subst eo14) | ((with_reducible refine gate_builtin (b:=.append) (xs:=#[.tmp 36,.tmp 38]) rfl ?_);at_builtin;refine Kd.R_append_rows (Kd.int .u8) (w0:=w) w.heap.size rfl (.tmp 36) (.tmp 38) 48 5 (.int .u8 0) 1 rfl Tryz.underlying48 info5 rfl (by decide) (by omega) u3 x3_1 y369 _ _ _ (fun k_=>some k_ ≠ (.slice Ao14 y369.length co14:Value).ownBlock) (fun _=>False) rfl rfl ?aO ?aR (fun _ _ h=>h) (fun _ h=>h.elim) ?aF ?aB ?aS ?aL ?_;(case aR=>repeat (first | exact (Kd.R_reads' HO371.out).2.2 | (with_reducible refine Kd.C_alloc ?_ _) | (with_reducible refine Kd.C_drewN ?_ _) | (with_reducible refine Kd.C_drew ?_)));(case aB=>exact (by repeat (first | (with_reducible first | exact HB.out | apply below_alloc | apply pw_below_drewN | apply below_drew1) | exact HB.out)));(case aF=>exact (fun k_ hk=>Kd.fresh' (Kd.R_lt (by (with_reducible repeat (first | apply Kd.R_alloc | apply Kd.R_drewN | apply Kd.R_drew));exact HO371.out)) k_ hk));(case aO=>exact (by (with_reducible repeat (first | apply Kd.R_alloc | apply Kd.R_drewN | apply Kd.R_drew));exact Kd.R_mono HO_3.out (fun _ hk=>hk.2)));(case aS=>exact (below_size (by repeat (first | (with_reducible first | exact HB.out | apply below_alloc | apply pw_below_drewN | apply below_drew1) | exact HB.out))));(case aL=>have:=LMc10.out;omega);intro v373 w13 ho hb hg hat;rw [← Ny372.out] at ho;have n0_:=Aside0.mk (Kd.R_after (ok:=(fun _=>True)) (by (with_reducible repeat (first | apply Kd.R_alloc | apply Kd.R_drewN | apply Kd.R_drew));exact HO371.out) hg hat);have n1_:=Aside0.mk (hb);have n2_:=Aside0.mk (ho);clear HO371;clear HB;clear HO_3;have HO371:=n0_;have HB:=n1_;have HO374:=n2_;clear n0_ n1_ n2_;clear ho hb hg hat))
         go_roundg kj6
         case measure=>have:=HK1.out;have:=HJ6.out;omega
         case rel=>exact ⟨(y372),(wrap64 (x4_1 + 1)),(by first | rfl | (simp;done) | (simp [*];done) | (repeat (first | rfl | (unfold wrap64;omega) | congr 1))),H',⟨by have:=HK1.out;have:=HJ6.out;omega⟩,⟨by (with_reducible repeat (first | apply Kd.R_alloc | apply Kd.R_drewN | apply Kd.R_drew));exact Kd.R_mono HO374.out (fun _ hk=>trivial)⟩,⟨by repeat (first | (with_reducible first | exact HB.out | apply below_alloc | apply pw_below_drewN | apply below_drew1) | exact HB.out)⟩⟩
        ·rw [if_neg c10] at H
         exact absurd H (by simp)
       ·replace c9:=Bool.eq_false_iff.mpr c9
        subst c9
        have H1:(if (bt a0 x4_1)=10 then ((some (([92,110]:List Int):List Int)).bind fun y375=>(if x3_1.length + y375.length < 140737488355328 then (vouchref14_Quote.l0 kj6 a0 (x3_1 ++ y375) (wrap64 (x4_1 + 1))) else (none))) else (if (bt a0 x4_1)=9 then ((some (([92,116]:List Int):List Int)).bind fun y381=>(if x3_1.length + y381.length < 140737488355328 then (vouchref14_Quote.l0 kj6 a0 (x3_1 ++ y381) (wrap64 (x4_1 + 1))) else (none))) else (if (bt a0 x4_1)=13 then ((some (([92,114]:List Int):List Int)).bind fun y387=>(if x3_1.length + y387.length < 140737488355328 then (vouchref14_Quote.l0 kj6 a0 (x3_1 ++ y387) (wrap64 (x4_1 + 1))) else (none))) else (if (bt a0 x4_1) ≥ 32 then (if (bt a0 x4_1) ≤ 126 then (if x3_1.length < 140737488355328 then (vouchref14_Quote.l0 kj6 a0 (x3_1 ++ [(bt a0 x4_1)]) (wrap64 (x4_1 + 1))) else (none)) else ((some (([92,(48 + ((Int.tdiv (bt a0 x4_1) 64) % 256)) % 256,48 + (((Int.tdiv (bt a0 x4_1) 8) % 256) % 8),(48 + (Int.tmod (bt a0 x4_1) 8)) % 256]:List Int):List Int)).bind fun y396=>(if x3_1.length + y396.length < 140737488355328 then (vouchref14_Quote.l0 kj6 a0 (x3_1 ++ y396) (wrap64 (x4_1 + 1))) else (none)))) else ((some (([92,(48 + ((Int.tdiv (bt a0 x4_1) 64) % 256)) % 256,48 + (((Int.tdiv (bt a0 x4_1) 8) % 256) % 8),(48 + (Int.tmod (bt a0 x4_1) 8)) % 256]:List Int):List Int)).bind fun y402=>(if x3_1.length + y402.length < 140737488355328 then (vouchref14_Quote.l0 kj6 a0 (x3_1 ++ y402) (wrap64 (x4_1 + 1))) else (none)))))))=some r:=by rw [if_neg (show ¬ (false=true) by decide)] at H;exact H
        clear H
        have H:=H1
        clear H1
        by_cases c15:(bt a0 x4_1)=10
        ·rw [if_pos c15] at H
         have c15b0:((bt a0 x4_1) == 10)=true:=beq_iff_eq.mpr c15
         have c15b1:((bt a0 x4_1) != 10)=false:=bne_eq_false_iff_eq.mpr c15
         clear c15
         obtain ⟨y375,hy375⟩:∃ y_:List Int,y_=(([92,110]:List Int)):=⟨_,rfl⟩
         replace H:(if x3_1.length + y375.length < 140737488355328 then (vouchref14_Quote.l0 kj6 a0 (x3_1 ++ y375) (wrap64 (x4_1 + 1))) else (none))=some r:=by first | (rw [hy375];with_reducible exact H) | (have H2_:=(Option.bind_some _ _).symm.trans H;rw [hy375];with_reducible exact H2_) | (have H2_:=(Option.bind_some _ _).symm.trans H;with_reducible exact H2_) | with_reducible exact H | (rw [hy375];exact H) | exact H
         have Ny375:=Aside0.mk hy375
         clear hy375
         by_cases c16:x3_1.length + y375.length < 140737488355328
         ·rw [if_pos c16] at H
          have LMc16:=Aside0.mk c16
          clear c16
          obtain ⟨y378,hy378⟩:∃ y_:List Int,y_=(x3_1 ++ y375):=⟨_,rfl⟩
          replace H:(vouchref14_Quote.l0 kj6 a0 y378 (wrap64 (x4_1 + 1)))=some r:=by first | (rw [hy378];with_reducible exact H) | (have H2_:=(Option.bind_some _ _).symm.trans H;rw [hy378];with_reducible exact H2_) | (have H2_:=(Option.bind_some _ _).symm.trans H;with_reducible exact H2_) | with_reducible exact H | (rw [hy378];exact H) | exact H
          have Ny378:=Aside0.mk hy378
          clear hy378
          have H':=Aside0.mk H
          clear H
          go_wp2_with (first | ((with_reducible refine gate_dst (N:=44) rfl ?_);refine Kd.R_lit (Kd.int .u8) _ 5 ?hg (N:=44) ?hd (xs:=([92,110]:List Int)) (inner:=[.int .u8 92,.int .u8 110]) (ok:=fun _=>True) (okp:=fun _=>True) ?hr ?hp (fun _ hk=>hk) trivial (Below.refl _ _) (Nat.le_refl _) (by simp) ?_;(case hd=>rfl);(case hg=>rfl);(case hr=>first | (go_simp;done) | (go_simp;rfl));(case hp=>exact (Reps.one (show Kd.M (Kd.int .u8) _ _ _ 92 [.int .u8 92] from rfl) (Reps.one (show Kd.M (Kd.int .u8) _ _ _ 110 [.int .u8 110] from rfl) (Reps.none _ _))));intro v376 w17 ho18 hb hg_ hnew_;clear hg_ hnew_;(first | rw [← Ny375.out] at ho18 | (simp only [Int.reduceToNat] at ho18;rw [← Ny375.out] at ho18));have n0_:=Aside0.mk (Kd.R_elder' (by (with_reducible repeat (first | apply Kd.R_alloc | apply Kd.R_drewN | apply Kd.R_drew));exact HO_3.out) (Kd.R_base ho18) hb);have n1_:=Aside0.mk (Kd.R_lower (Kd.R_new' ho18 (Kd.R_lt (by (with_reducible repeat (first | apply Kd.R_alloc | apply Kd.R_drewN | apply Kd.R_drew));exact HO_3.out))) (below_size (by repeat (first | (with_reducible first | exact HB.out | apply below_alloc | apply pw_below_drewN | apply below_drew1) | exact HB.out))));have n2_:=Aside0.mk (below_step (by repeat (first | (with_reducible first | exact HB.out | apply below_alloc | apply pw_below_drewN | apply below_drew1) | exact HB.out)) hb);clear HO_3;clear HB;have HO_3:=n0_;have HO377:=n1_;have HB:=n2_;clear n0_ n1_ n2_;clear hb ho18;obtain ⟨Ao20,co20,eo20⟩:=Kd.R_slice HO377.out;subst eo20) | ((with_reducible refine gate_builtin (b:=.append) (xs:=#[.tmp 43,.tmp 44]) rfl ?_);at_builtin;refine Kd.R_append_rows (Kd.int .u8) (w0:=w) w.heap.size rfl (.tmp 43) (.tmp 44) 48 5 (.int .u8 0) 1 rfl Tryz.underlying48 info5 rfl (by decide) (by omega) u3 x3_1 y375 _ _ _ (fun k_=>some k_ ≠ (.slice Ao20 y375.length co20:Value).ownBlock) (fun _=>False) rfl rfl ?aO ?aR (fun _ _ h=>h) (fun _ h=>h.elim) ?aF ?aB ?aS ?aL ?_;(case aR=>repeat (first | exact (Kd.R_reads' HO377.out).2.2 | (with_reducible refine Kd.C_alloc ?_ _) | (with_reducible refine Kd.C_drewN ?_ _) | (with_reducible refine Kd.C_drew ?_)));(case aB=>exact (by repeat (first | (with_reducible first | exact HB.out | apply below_alloc | apply pw_below_drewN | apply below_drew1) | exact HB.out)));(case aF=>exact (fun k_ hk=>Kd.fresh' (Kd.R_lt (by (with_reducible repeat (first | apply Kd.R_alloc | apply Kd.R_drewN | apply Kd.R_drew));exact HO377.out)) k_ hk));(case aO=>exact (by (with_reducible repeat (first | apply Kd.R_alloc | apply Kd.R_drewN | apply Kd.R_drew));exact Kd.R_mono HO_3.out (fun _ hk=>hk.2)));(case aS=>exact (below_size (by repeat (first | (with_reducible first | exact HB.out | apply below_alloc | apply pw_below_drewN | apply below_drew1) | exact HB.out))));(case aL=>have:=LMc16.out;omega);intro v379 w19 ho hb hg hat;rw [← Ny378.out] at ho;have n0_:=Aside0.mk (Kd.R_after (ok:=(fun _=>True)) (by (with_reducible repeat (first | apply Kd.R_alloc | apply Kd.R_drewN | apply Kd.R_drew));exact HO377.out) hg hat);have n1_:=Aside0.mk (hb);have n2_:=Aside0.mk (ho);clear HO377;clear HB;clear HO_3;have HO377:=n0_;have HB:=n1_;have HO380:=n2_;clear n0_ n1_ n2_;clear ho hb hg hat))
          go_roundg kj6
          case measure=>have:=HK1.out;have:=HJ6.out;omega
          case rel=>exact ⟨(y378),(wrap64 (x4_1 + 1)),(by first | rfl | (simp;done) | (simp [*];done) | (repeat (first | rfl | (unfold wrap64;omega) | congr 1))),H',⟨by have:=HK1.out;have:=HJ6.out;omega⟩,⟨by (with_reducible repeat (first | apply Kd.R_alloc | apply Kd.R_drewN | apply Kd.R_drew));exact Kd.R_mono HO380.out (fun _ hk=>trivial)⟩,⟨by repeat (first | (with_reducible first | exact HB.out | apply below_alloc | apply pw_below_drewN | apply below_drew1) | exact HB.out)⟩⟩
         ·rw [if_neg c16] at H
          exact absurd H (by simp)
        ·rw [if_neg c15] at H
         have c15b0:((bt a0 x4_1) == 10)=false:=beq_eq_false_iff_ne.mpr c15
         have c15b1:((bt a0 x4_1) != 10)=true:=bne_iff_ne.mpr c15
         by_cases c21:(bt a0 x4_1)=9
         ·rw [if_pos c21] at H
          have c21b0:((bt a0 x4_1) == 9)=true:=beq_iff_eq.mpr c21
          have c21b1:((bt a0 x4_1) != 9)=false:=bne_eq_false_iff_eq.mpr c21
          clear c21
          obtain ⟨y381,hy381⟩:∃ y_:List Int,y_=(([92,116]:List Int)):=⟨_,rfl⟩
          replace H:(if x3_1.length + y381.length < 140737488355328 then (vouchref14_Quote.l0 kj6 a0 (x3_1 ++ y381) (wrap64 (x4_1 + 1))) else (none))=some r:=by first | (rw [hy381];with_reducible exact H) | (have H2_:=(Option.bind_some _ _).symm.trans H;rw [hy381];with_reducible exact H2_) | (have H2_:=(Option.bind_some _ _).symm.trans H;with_reducible exact H2_) | with_reducible exact H | (rw [hy381];exact H) | exact H
          have Ny381:=Aside0.mk hy381
          clear hy381
          by_cases c22:x3_1.length + y381.length < 140737488355328
          ·rw [if_pos c22] at H
           have LMc22:=Aside0.mk c22
           clear c22
           obtain ⟨y384,hy384⟩:∃ y_:List Int,y_=(x3_1 ++ y381):=⟨_,rfl⟩
           replace H:(vouchref14_Quote.l0 kj6 a0 y384 (wrap64 (x4_1 + 1)))=some r:=by first | (rw [hy384];with_reducible exact H) | (have H2_:=(Option.bind_some _ _).symm.trans H;rw [hy384];with_reducible exact H2_) | (have H2_:=(Option.bind_some _ _).symm.trans H;with_reducible exact H2_) | with_reducible exact H | (rw [hy384];exact H) | exact H
           have Ny384:=Aside0.mk hy384
           clear hy384
           have H':=Aside0.mk H
           clear H
           go_wp2_with (first | ((with_reducible refine gate_dst (N:=50) rfl ?_);refine Kd.R_lit (Kd.int .u8) _ 5 ?hg (N:=50) ?hd (xs:=([92,116]:List Int)) (inner:=[.int .u8 92,.int .u8 116]) (ok:=fun _=>True) (okp:=fun _=>True) ?hr ?hp (fun _ hk=>hk) trivial (Below.refl _ _) (Nat.le_refl _) (by simp) ?_;(case hd=>rfl);(case hg=>rfl);(case hr=>first | (go_simp;done) | (go_simp;rfl));(case hp=>exact (Reps.one (show Kd.M (Kd.int .u8) _ _ _ 92 [.int .u8 92] from rfl) (Reps.one (show Kd.M (Kd.int .u8) _ _ _ 116 [.int .u8 116] from rfl) (Reps.none _ _))));intro v382 w23 ho24 hb hg_ hnew_;clear hg_ hnew_;(first | rw [← Ny381.out] at ho24 | (simp only [Int.reduceToNat] at ho24;rw [← Ny381.out] at ho24));have n0_:=Aside0.mk (Kd.R_elder' (by (with_reducible repeat (first | apply Kd.R_alloc | apply Kd.R_drewN | apply Kd.R_drew));exact HO_3.out) (Kd.R_base ho24) hb);have n1_:=Aside0.mk (Kd.R_lower (Kd.R_new' ho24 (Kd.R_lt (by (with_reducible repeat (first | apply Kd.R_alloc | apply Kd.R_drewN | apply Kd.R_drew));exact HO_3.out))) (below_size (by repeat (first | (with_reducible first | exact HB.out | apply below_alloc | apply pw_below_drewN | apply below_drew1) | exact HB.out))));have n2_:=Aside0.mk (below_step (by repeat (first | (with_reducible first | exact HB.out | apply below_alloc | apply pw_below_drewN | apply below_drew1) | exact HB.out)) hb);clear HO_3;clear HB;have HO_3:=n0_;have HO383:=n1_;have HB:=n2_;clear n0_ n1_ n2_;clear hb ho24;obtain ⟨Ao26,co26,eo26⟩:=Kd.R_slice HO383.out;subst eo26) | ((with_reducible refine gate_builtin (b:=.append) (xs:=#[.tmp 49,.tmp 50]) rfl ?_);at_builtin;refine Kd.R_append_rows (Kd.int .u8) (w0:=w) w.heap.size rfl (.tmp 49) (.tmp 50) 48 5 (.int .u8 0) 1 rfl Tryz.underlying48 info5 rfl (by decide) (by omega) u3 x3_1 y381 _ _ _ (fun k_=>some k_ ≠ (.slice Ao26 y381.length co26:Value).ownBlock) (fun _=>False) rfl rfl ?aO ?aR (fun _ _ h=>h) (fun _ h=>h.elim) ?aF ?aB ?aS ?aL ?_;(case aR=>repeat (first | exact (Kd.R_reads' HO383.out).2.2 | (with_reducible refine Kd.C_alloc ?_ _) | (with_reducible refine Kd.C_drewN ?_ _) | (with_reducible refine Kd.C_drew ?_)));(case aB=>exact (by repeat (first | (with_reducible first | exact HB.out | apply below_alloc | apply pw_below_drewN | apply below_drew1) | exact HB.out)));(case aF=>exact (fun k_ hk=>Kd.fresh' (Kd.R_lt (by (with_reducible repeat (first | apply Kd.R_alloc | apply Kd.R_drewN | apply Kd.R_drew));exact HO383.out)) k_ hk));(case aO=>exact (by (with_reducible repeat (first | apply Kd.R_alloc | apply Kd.R_drewN | apply Kd.R_drew));exact Kd.R_mono HO_3.out (fun _ hk=>hk.2)));(case aS=>exact (below_size (by repeat (first | (with_reducible first | exact HB.out | apply below_alloc | apply pw_below_drewN | apply below_drew1) | exact HB.out))));(case aL=>have:=LMc22.out;omega);intro v385 w25 ho hb hg hat;rw [← Ny384.out] at ho;have n0_:=Aside0.mk (Kd.R_after (ok:=(fun _=>True)) (by (with_reducible repeat (first | apply Kd.R_alloc | apply Kd.R_drewN | apply Kd.R_drew));exact HO383.out) hg hat);have n1_:=Aside0.mk (hb);have n2_:=Aside0.mk (ho);clear HO383;clear HB;clear HO_3;have HO383:=n0_;have HB:=n1_;have HO386:=n2_;clear n0_ n1_ n2_;clear ho hb hg hat))
           go_roundg kj6
           case measure=>have:=HK1.out;have:=HJ6.out;omega
           case rel=>exact ⟨(y384),(wrap64 (x4_1 + 1)),(by first | rfl | (simp;done) | (simp [*];done) | (repeat (first | rfl | (unfold wrap64;omega) | congr 1))),H',⟨by have:=HK1.out;have:=HJ6.out;omega⟩,⟨by (with_reducible repeat (first | apply Kd.R_alloc | apply Kd.R_drewN | apply Kd.R_drew));exact Kd.R_mono HO386.out (fun _ hk=>trivial)⟩,⟨by repeat (first | (with_reducible first | exact HB.out | apply below_alloc | apply pw_below_drewN | apply below_drew1) | exact HB.out)⟩⟩
          ·rw [if_neg c22] at H
           exact absurd H (by simp)
         ·rw [if_neg c21] at H
          have c21b0:((bt a0 x4_1) == 9)=false:=beq_eq_false_iff_ne.mpr c21
          have c21b1:((bt a0 x4_1) != 9)=true:=bne_iff_ne.mpr c21
          by_cases c27:(bt a0 x4_1)=13
          ·rw [if_pos c27] at H
           have c27b0:((bt a0 x4_1) == 13)=true:=beq_iff_eq.mpr c27
           have c27b1:((bt a0 x4_1) != 13)=false:=bne_eq_false_iff_eq.mpr c27
           clear c27
           obtain ⟨y387,hy387⟩:∃ y_:List Int,y_=(([92,114]:List Int)):=⟨_,rfl⟩
           replace H:(if x3_1.length + y387.length < 140737488355328 then (vouchref14_Quote.l0 kj6 a0 (x3_1 ++ y387) (wrap64 (x4_1 + 1))) else (none))=some r:=by first | (rw [hy387];with_reducible exact H) | (have H2_:=(Option.bind_some _ _).symm.trans H;rw [hy387];with_reducible exact H2_) | (have H2_:=(Option.bind_some _ _).symm.trans H;with_reducible exact H2_) | with_reducible exact H | (rw [hy387];exact H) | exact H
           have Ny387:=Aside0.mk hy387
           clear hy387
           by_cases c28:x3_1.length + y387.length < 140737488355328
           ·rw [if_pos c28] at H
            have LMc28:=Aside0.mk c28
            clear c28
            obtain ⟨y390,hy390⟩:∃ y_:List Int,y_=(x3_1 ++ y387):=⟨_,rfl⟩
            replace H:(vouchref14_Quote.l0 kj6 a0 y390 (wrap64 (x4_1 + 1)))=some r:=by first | (rw [hy390];with_reducible exact H) | (have H2_:=(Option.bind_some _ _).symm.trans H;rw [hy390];with_reducible exact H2_) | (have H2_:=(Option.bind_some _ _).symm.trans H;with_reducible exact H2_) | with_reducible exact H | (rw [hy390];exact H) | exact H
            have Ny390:=Aside0.mk hy390
            clear hy390
            have H':=Aside0.mk H
            clear H
            go_wp2_with (first | ((with_reducible refine gate_dst (N:=56) rfl ?_);refine Kd.R_lit (Kd.int .u8) _ 5 ?hg (N:=56) ?hd (xs:=([92,114]:List Int)) (inner:=[.int .u8 92,.int .u8 114]) (ok:=fun _=>True) (okp:=fun _=>True) ?hr ?hp (fun _ hk=>hk) trivial (Below.refl _ _) (Nat.le_refl _) (by simp) ?_;(case hd=>rfl);(case hg=>rfl);(case hr=>first | (go_simp;done) | (go_simp;rfl));(case hp=>exact (Reps.one (show Kd.M (Kd.int .u8) _ _ _ 92 [.int .u8 92] from rfl) (Reps.one (show Kd.M (Kd.int .u8) _ _ _ 114 [.int .u8 114] from rfl) (Reps.none _ _))));intro v388 w29 ho30 hb hg_ hnew_;clear hg_ hnew_;(first | rw [← Ny387.out] at ho30 | (simp only [Int.reduceToNat] at ho30;rw [← Ny387.out] at ho30));have n0_:=Aside0.mk (Kd.R_elder' (by (with_reducible repeat (first | apply Kd.R_alloc | apply Kd.R_drewN | apply Kd.R_drew));exact HO_3.out) (Kd.R_base ho30) hb);have n1_:=Aside0.mk (Kd.R_lower (Kd.R_new' ho30 (Kd.R_lt (by (with_reducible repeat (first | apply Kd.R_alloc | apply Kd.R_drewN | apply Kd.R_drew));exact HO_3.out))) (below_size (by repeat (first | (with_reducible first | exact HB.out | apply below_alloc | apply pw_below_drewN | apply below_drew1) | exact HB.out))));have n2_:=Aside0.mk (below_step (by repeat (first | (with_reducible first | exact HB.out | apply below_alloc | apply pw_below_drewN | apply below_drew1) | exact HB.out)) hb);clear HO_3;clear HB;have HO_3:=n0_;have HO389:=n1_;have HB:=n2_;clear n0_ n1_ n2_;clear hb ho30;obtain ⟨Ao32,co32,eo32⟩:=Kd.R_slice HO389.out;subst eo32) | ((with_reducible refine gate_builtin (b:=.append) (xs:=#[.tmp 55,.tmp 56]) rfl ?_);at_builtin;refine Kd.R_append_rows (Kd.int .u8) (w0:=w) w.heap.size rfl (.tmp 55) (.tmp 56) 48 5 (.int .u8 0) 1 rfl Tryz.underlying48 info5 rfl (by decide) (by omega) u3 x3_1 y387 _ _ _ (fun k_=>some k_ ≠ (.slice Ao32 y387.length co32:Value).ownBlock) (fun _=>False) rfl rfl ?aO ?aR (fun _ _ h=>h) (fun _ h=>h.elim) ?aF ?aB ?aS ?aL ?_;(case aR=>repeat (first | exact (Kd.R_reads' HO389.out).2.2 | (with_reducible refine Kd.C_alloc ?_ _) | (with_reducible refine Kd.C_drewN ?_ _) | (with_reducible refine Kd.C_drew ?_)));(case aB=>exact (by repeat (first | (with_reducible first | exact HB.out | apply below_alloc | apply pw_below_drewN | apply below_drew1) | exact HB.out)));(case aF=>exact (fun k_ hk=>Kd.fresh' (Kd.R_lt (by (with_reducible repeat (first | apply Kd.R_alloc | apply Kd.R_drewN | apply Kd.R_drew));exact HO389.out)) k_ hk));(case aO=>exact (by (with_reducible repeat (first | apply Kd.R_alloc | apply Kd.R_drewN | apply Kd.R_drew));exact Kd.R_mono HO_3.out (fun _ hk=>hk.2)));(case aS=>exact (below_size (by repeat (first | (with_reducible first | exact HB.out | apply below_alloc | apply pw_below_drewN | apply below_drew1) | exact HB.out))));(case aL=>have:=LMc28.out;omega);intro v391 w31 ho hb hg hat;rw [← Ny390.out] at ho;have n0_:=Aside0.mk (Kd.R_after (ok:=(fun _=>True)) (by (with_reducible repeat (first | apply Kd.R_alloc | apply Kd.R_drewN | apply Kd.R_drew));exact HO389.out) hg hat);have n1_:=Aside0.mk (hb);have n2_:=Aside0.mk (ho);clear HO389;clear HB;clear HO_3;have HO389:=n0_;have HB:=n1_;have HO392:=n2_;clear n0_ n1_ n2_;clear ho hb hg hat))
            go_roundg kj6
            case measure=>have:=HK1.out;have:=HJ6.out;omega
            case rel=>exact ⟨(y390),(wrap64 (x4_1 + 1)),(by first | rfl | (simp;done) | (simp [*];done) | (repeat (first | rfl | (unfold wrap64;omega) | congr 1))),H',⟨by have:=HK1.out;have:=HJ6.out;omega⟩,⟨by (with_reducible repeat (first | apply Kd.R_alloc | apply Kd.R_drewN | apply Kd.R_drew));exact Kd.R_mono HO392.out (fun _ hk=>trivial)⟩,⟨by repeat (first | (with_reducible first | exact HB.out | apply below_alloc | apply pw_below_drewN | apply below_drew1) | exact HB.out)⟩⟩
           ·rw [if_neg c28] at H
            exact absurd H (by simp)
          ·rw [if_neg c27] at H
           have c27b0:((bt a0 x4_1) == 13)=false:=beq_eq_false_iff_ne.mpr c27
           have c27b1:((bt a0 x4_1) != 13)=true:=bne_iff_ne.mpr c27
           by_cases c33:(bt a0 x4_1) ≥ 32
           ·rw [if_pos c33] at H
            have c33b0:decide (32 ≤ (bt a0 x4_1))=true:=decide_eq_true c33
            clear c33
            by_cases c34:(bt a0 x4_1) ≤ 126
            ·rw [if_pos c34] at H
             have c34b0:decide ((bt a0 x4_1) ≤ 126)=true:=decide_eq_true c34
             clear c34
             by_cases c35:x3_1.length < 140737488355328
             ·rw [if_pos c35] at H
              have LMc35:=Aside0.mk c35
              clear c35
              obtain ⟨y393,hy393⟩:∃ y_:List Int,y_=(x3_1 ++ [(bt a0 x4_1)]):=⟨_,rfl⟩
              replace H:(vouchref14_Quote.l0 kj6 a0 y393 (wrap64 (x4_1 + 1)))=some r:=by first | (rw [hy393];with_reducible exact H) | (have H2_:=(Option.bind_some _ _).symm.trans H;rw [hy393];with_reducible exact H2_) | (have H2_:=(Option.bind_some _ _).symm.trans H;with_reducible exact H2_) | with_reducible exact H | (rw [hy393];exact H) | exact H
              have Ny393:=Aside0.mk hy393
              clear hy393
              have H':=Aside0.mk H
              clear H
              go_wp2_with (first | ((with_reducible refine gate_builtin (b:=.append) (xs:=#[.tmp 65,.tmp 67]) rfl ?_);at_builtin;refine Kd.R_append (Kd.int .u8) (w0:=w) w.heap.size rfl (.tmp 65) (.tmp 67) 48 5 (.int .u8 0) 1 rfl Tryz.underlying48 info5 rfl (by decide) (by omega) u3 x3_1 (bt a0 x4_1) [.int .u8 (bt a0 x4_1)] (fun _=>True) (fun _=>False) rfl rfl ?aP (fun _ hk=>hk.elim) ?aF ?aO ?aB ?aS ?aL ?_;(case aP=>exact rfl);(case aB=>exact (by repeat (first | (with_reducible first | exact HB.out | apply below_alloc | apply pw_below_drewN | apply below_drew1) | exact HB.out)));(case aF=>exact (fun _ _=>trivial));(case aO=>exact (by (with_reducible repeat (first | apply Kd.R_alloc | apply Kd.R_drewN | apply Kd.R_drew));exact HO_3.out));(case aS=>exact (below_size (by repeat (first | (with_reducible first | exact HB.out | apply below_alloc | apply pw_below_drewN | apply below_drew1) | exact HB.out))));(case aL=>have:=LMc35.out;omega);intro v394 w36 ho hb hg hat;rw [← Ny393.out] at ho;have n0_:=Aside0.mk (hb);have n1_:=Aside0.mk (ho);clear HB;clear HO_3;have HB:=n0_;have HO395:=n1_;clear n0_ n1_;clear ho hb hg hat))
              go_roundg kj6
              case measure=>have:=HK1.out;have:=HJ6.out;omega
              case rel=>exact ⟨(y393),(wrap64 (x4_1 + 1)),(by first | rfl | (simp;done) | (simp [*];done) | (repeat (first | rfl | (unfold wrap64;omega) | congr 1))),H',⟨by have:=HK1.out;have:=HJ6.out;omega⟩,⟨by (with_reducible repeat (first | apply Kd.R_alloc | apply Kd.R_drewN | apply Kd.R_drew));exact HO395.out⟩,⟨by repeat (first | (with_reducible first | exact HB.out | apply below_alloc | apply pw_below_drewN | apply below_drew1) | exact HB.out)⟩⟩
             ·rw [if_neg c35] at H
              exact absurd H (by simp)
            ·rw [if_neg c34] at H
             have c34b0:decide ((bt a0 x4_1) ≤ 126)=false:=decide_eq_false c34
             clear c34
             obtain ⟨y396,hy396⟩:∃ y_:List Int,y_=(([92,(48 + ((Int.tdiv (bt a0 x4_1) 64) % 256)) % 256,48 + (((Int.tdiv (bt a0 x4_1) 8) % 256) % 8),(48 + (Int.tmod (bt a0 x4_1) 8)) % 256]:List Int)):=⟨_,rfl⟩
             replace H:(if x3_1.length + y396.length < 140737488355328 then (vouchref14_Quote.l0 kj6 a0 (x3_1 ++ y396) (wrap64 (x4_1 + 1))) else (none))=some r:=by first | (rw [hy396];with_reducible exact H) | (have H2_:=(Option.bind_some _ _).symm.trans H;rw [hy396];with_reducible exact H2_) | (have H2_:=(Option.bind_some _ _).symm.trans H;with_reducible exact H2_) | with_reducible exact H | (rw [hy396];exact H) | exact H
             have Ny396:=Aside0.mk hy396
             clear hy396
             by_cases c37:x3_1.length + y396.length < 140737488355328
             ·rw [if_pos c37] at H
              have LMc37:=Aside0.mk c37
              clear c37
              obtain ⟨y399,hy399⟩:∃ y_:List Int,y_=(x3_1 ++ y396):=⟨_,rfl⟩
              replace H:(vouchref14_Quote.l0 kj6 a0 y399 (wrap64 (x4_1 + 1)))=some r:=by first | (rw [hy399];with_reducible exact H) | (have H2_:=(Option.bind_some _ _).symm.trans H;rw [hy399];with_reducible exact H2_) | (have H2_:=(Option.bind_some _ _).symm.trans H;with_reducible exact H2_) | with_reducible exact H | (rw [hy399];exact H) | exact H
              have Ny399:=Aside0.mk hy399
              clear hy399
              have H':=Aside0.mk H
              clear H
              go_wp2_with (first | ((with_reducible refine gate_dst (N:=27) rfl ?_);refine Kd.R_lit (Kd.int .u8) _ 5 ?hg (N:=27) ?hd (xs:=([92,(48 + ((Int.tdiv (bt a0 x4_1) 64) % 256)) % 256,48 + (((Int.tdiv (bt a0 x4_1) 8) % 256) % 8),(48 + (Int.tmod (bt a0 x4_1) 8)) % 256]:List Int)) (inner:=[.int .u8 92,.int .u8 ((48 + ((Int.tdiv (bt a0 x4_1) 64) % 256)) % 256),.int .u8 (48 + (((Int.tdiv (bt a0 x4_1) 8) % 256) % 8)),.int .u8 ((48 + (Int.tmod (bt a0 x4_1) 8)) % 256)]) (ok:=fun _=>True) (okp:=fun _=>True) ?hr ?hp (fun _ hk=>hk) trivial (Below.refl _ _) (Nat.le_refl _) (by simp) ?_;(case hd=>rfl);(case hg=>rfl);(case hr=>first | (go_simp;done) | (go_simp;rfl));(case hp=>exact (Reps.one (show Kd.M (Kd.int .u8) _ _ _ 92 [.int .u8 92] from rfl) (Reps.one (show Kd.M (Kd.int .u8) _ _ _ ((48 + ((Int.tdiv (bt a0 x4_1) 64) % 256)) % 256) [.int .u8 ((48 + ((Int.tdiv (bt a0 x4_1) 64) % 256)) % 256)] from rfl) (Reps.one (show Kd.M (Kd.int .u8) _ _ _ (48 + (((Int.tdiv (bt a0 x4_1) 8) % 256) % 8)) [.int .u8 (48 + (((Int.tdiv (bt a0 x4_1) 8) % 256) % 8))] from rfl) (Reps.one (show Kd.M (Kd.int .u8) _ _ _ ((48 + (Int.tmod (bt a0 x4_1) 8)) % 256) [.int .u8 ((48 + (Int.tmod (bt a0 x4_1) 8)) % 256)] from rfl) (Reps.none _ _))))));intro v397 w38 ho39 hb hg_ hnew_;clear hg_ hnew_;(first | rw [← Ny396.out] at ho39 | (simp only [Int.reduceToNat] at ho39;rw [← Ny396.out] at ho39));have n0_:=Aside0.mk (Kd.R_elder' (by (with_reducible repeat (first | apply Kd.R_alloc | apply Kd.R_drewN | apply Kd.R_drew));exact HO_3.out) (Kd.R_base ho39) hb);have n1_:=Aside0.mk (Kd.R_lower (Kd.R_new' ho39 (Kd.R_lt (by (with_reducible repeat (first | apply Kd.R_alloc | apply Kd.R_drewN | apply Kd.R_drew));exact HO_3.out))) (below_size (by repeat (first | (with_reducible first | exact HB.out | apply below_alloc | apply pw_below_drewN | apply below_drew1) | exact HB.out))));have n2_:=Aside0.mk (below_step (by repeat (first | (with_reducible first | exact HB.out | apply below_alloc | apply pw_below_drewN | apply below_drew1) | exact HB.out)) hb);clear HO_3;clear HB;have HO_3:=n0_;have HO398:=n1_;have HB:=n2_;clear n0_ n1_ n2_;clear hb ho39;obtain ⟨Ao41,co41,eo41⟩:=Kd.R_slice HO398.out;subst eo41) | ((with_reducible refine gate_builtin (b:=.append) (xs:=#[.tmp 16,.tmp 27]) rfl ?_);at_builtin;refine Kd.R_append_rows (Kd.int .u8) (w0:=w) w.heap.size rfl (.tmp 16) (.tmp 27) 48 5 (.int .u8 0) 1 rfl Tryz.underlying48 info5 rfl (by decide) (by omega) u3 x3_1 y396 _ _ _ (fun k_=>some k_ ≠ (.slice Ao41 y396.length co41:Value).ownBlock) (fun _=>False) rfl rfl ?aO ?aR (fun _ _ h=>h) (fun _ h=>h.elim) ?aF ?aB ?aS ?aL ?_;(case aR=>repeat (first | exact (Kd.R_reads' HO398.out).2.2 | (with_reducible refine Kd.C_alloc ?_ _) | (with_reducible refine Kd.C_drewN ?_ _) | (with_reducible refine Kd.C_drew ?_)));(case aB=>exact (by repeat (first | (with_reducible first | exact HB.out | apply below_alloc | apply pw_below_drewN | apply below_drew1) | exact HB.out)));(case aF=>exact (fun k_ hk=>Kd.fresh' (Kd.R_lt (by (with_reducible repeat (first | apply Kd.R_alloc | apply Kd.R_drewN | apply Kd.R_drew));exact HO398.out)) k_ hk));(case aO=>exact (by (with_reducible repeat (first | apply Kd.R_alloc | apply Kd.R_drewN | apply Kd.R_drew));exact Kd.R_mono HO_3.out (fun _ hk=>hk.2)));(case aS=>exact (below_size (by repeat (first | (with_reducible first | exact HB.out | apply below_alloc | apply pw_below_drewN | apply below_drew1) | exact HB.out))));(case aL=>have:=LMc37.out;omega);intro v400 w40 ho hb hg hat;rw [← Ny399.out] at ho;have n0_:=Aside0.mk (Kd.R_after (ok:=(fun _=>True)) (by (with_reducible repeat (first | apply Kd.R_alloc | apply Kd.R_drewN | apply Kd.R_drew));exact HO398.out) hg hat);have n1_:=Aside0.mk (hb);have n2_:=Aside0.mk (ho);clear HO398;clear HB;clear HO_3;have HO398:=n0_;have HB:=n1_;have HO401:=n2_;clear n0_ n1_ n2_;clear ho hb hg hat))
              go_roundg kj6
              case measure=>have:=HK1.out;have:=HJ6.out;omega
              case rel=>exact ⟨(y399),(wrap64 (x4_1 + 1)),(by first | rfl | (simp;done) | (simp [*];done) | (repeat (first | rfl | (unfold wrap64;omega) | congr 1))),H',⟨by have:=HK1.out;have:=HJ6.out;omega⟩,⟨by (with_reducible repeat (first | apply Kd.R_alloc | apply Kd.R_drewN | apply Kd.R_drew));exact Kd.R_mono HO401.out (fun _ hk=>trivial)⟩,⟨by repeat (first | (with_reducible first | exact HB.out | apply below_alloc | apply pw_below_drewN | apply below_drew1) | exact HB.out)⟩⟩
             ·rw [if_neg c37] at H
              exact absurd H (by simp)
           ·rw [if_neg c33] at H
            have c33b0:decide (32 ≤ (bt a0 x4_1))=false:=decide_eq_false c33
            clear c33
            obtain ⟨y402,hy402⟩:∃ y_:List Int,y_=(([92,(48 + ((Int.tdiv (bt a0 x4_1) 64) % 256)) % 256,48 + (((Int.tdiv (bt a0 x4_1) 8) % 256) % 8),(48 + (Int.tmod (bt a0 x4_1) 8)) % 256]:List Int)):=⟨_,rfl⟩
            replace H:(if x3_1.length + y402.length < 140737488355328 then (vouchref14_Quote.l0 kj6 a0 (x3_1 ++ y402) (wrap64 (x4_1 + 1))) else (none))=some r:=by first | (rw [hy402];with_reducible exact H) | (have H2_:=(Option.bind_some _ _).symm.trans H;rw [hy402];with_reducible exact H2_) | (have H2_:=(Option.bind_some _ _).symm.trans H;with_reducible exact H2_) | with_reducible exact H | (rw [hy402];exact H) | exact H
            have Ny402:=Aside0.mk hy402
            clear hy402
            by_cases c42:x3_1.length + y402.length < 140737488355328
            ·rw [if_pos c42] at H
             have LMc42:=Aside0.mk c42
             clear c42
             obtain ⟨y405,hy405⟩:∃ y_:List Int,y_=(x3_1 ++ y402):=⟨_,rfl⟩
             replace H:(vouchref14_Quote.l0 kj6 a0 y405 (wrap64 (x4_1 + 1)))=some r:=by first | (rw [hy405];with_reducible exact H) | (have H2_:=(Option.bind_some _ _).symm.trans H;rw [hy405];with_reducible exact H2_) | (have H2_:=(Option.bind_some _ _).symm.trans H;with_reducible exact H2_) | with_reducible exact H | (rw [hy405];exact H) | exact H
             have Ny405:=Aside0.mk hy405
             clear hy405
             have H':=Aside0.mk H
             clear H
             go_wp2_with (first | ((with_reducible refine gate_dst (N:=27) rfl ?_);refine Kd.R_lit (Kd.int .u8) _ 5 ?hg (N:=27) ?hd (xs:=([92,(48 + ((Int.tdiv (bt a0 x4_1) 64) % 256)) % 256,48 + (((Int.tdiv (bt a0 x4_1) 8) % 256) % 8),(48 + (Int.tmod (bt a0 x4_1) 8)) % 256]:List Int)) (inner:=[.int .u8 92,.int .u8 ((48 + ((Int.tdiv (bt a0 x4_1) 64) % 256)) % 256),.int .u8 (48 + (((Int.tdiv (bt a0 x4_1) 8) % 256) % 8)),.int .u8 ((48 + (Int.tmod (bt a0 x4_1) 8)) % 256)]) (ok:=fun _=>True) (okp:=fun _=>True) ?hr ?hp (fun _ hk=>hk) trivial (Below.refl _ _) (Nat.le_refl _) (by simp) ?_;(case hd=>rfl);(case hg=>rfl);(case hr=>first | (go_simp;done) | (go_simp;rfl));(case hp=>exact (Reps.one (show Kd.M (Kd.int .u8) _ _ _ 92 [.int .u8 92] from rfl) (Reps.one (show Kd.M (Kd.int .u8) _ _ _ ((48 + ((Int.tdiv (bt a0 x4_1) 64) % 256)) % 256) [.int .u8 ((48 + ((Int.tdiv (bt a0 x4_1) 64) % 256)) % 256)] from rfl) (Reps.one (show Kd.M (Kd.int .u8) _ _ _ (48 + (((Int.tdiv (bt a0 x4_1) 8) % 256) % 8)) [.int .u8 (48 + (((Int.tdiv (bt a0 x4_1) 8) % 256) % 8))] from rfl) (Reps.one (show Kd.M (Kd.int .u8) _ _ _ ((48 + (Int.tmod (bt a0 x4_1) 8)) % 256) [.int .u8 ((48 + (Int.tmod (bt a0 x4_1) 8)) % 256)] from rfl) (Reps.none _ _))))));intro v403 w43 ho44 hb hg_ hnew_;clear hg_ hnew_;(first | rw [← Ny402.out] at ho44 | (simp only [Int.reduceToNat] at ho44;rw [← Ny402.out] at ho44));have n0_:=Aside0.mk (Kd.R_elder' (by (with_reducible repeat (first | apply Kd.R_alloc | apply Kd.R_drewN | apply Kd.R_drew));exact HO_3.out) (Kd.R_base ho44) hb);have n1_:=Aside0.mk (Kd.R_lower (Kd.R_new' ho44 (Kd.R_lt (by (with_reducible repeat (first | apply Kd.R_alloc | apply Kd.R_drewN | apply Kd.R_drew));exact HO_3.out))) (below_size (by repeat (first | (with_reducible first | exact HB.out | apply below_alloc | apply pw_below_drewN | apply below_drew1) | exact HB.out))));have n2_:=Aside0.mk (below_step (by repeat (first | (with_reducible first | exact HB.out | apply below_alloc | apply pw_below_drewN | apply below_drew1) | exact HB.out)) hb);clear HO_3;clear HB;have HO_3:=n0_;have HO404:=n1_;have HB:=n2_;clear n0_ n1_ n2_;clear hb ho44;obtain ⟨Ao46,co46,eo46⟩:=Kd.R_slice HO404.out;subst eo46) | ((with_reducible refine gate_builtin (b:=.append) (xs:=#[.tmp 16,.tmp 27]) rfl ?_);at_builtin;refine Kd.R_append_rows (Kd.int .u8) (w0:=w) w.heap.size rfl (.tmp 16) (.tmp 27) 48 5 (.int .u8 0) 1 rfl Tryz.underlying48 info5 rfl (by decide) (by omega) u3 x3_1 y402 _ _ _ (fun k_=>some k_ ≠ (.slice Ao46 y402.length co46:Value).ownBlock) (fun _=>False) rfl rfl ?aO ?aR (fun _ _ h=>h) (fun _ h=>h.elim) ?aF ?aB ?aS ?aL ?_;(case aR=>repeat (first | exact (Kd.R_reads' HO404.out).2.2 | (with_reducible refine Kd.C_alloc ?_ _) | (with_reducible refine Kd.C_drewN ?_ _) | (with_reducible refine Kd.C_drew ?_)));(case aB=>exact (by repeat (first | (with_reducible first | exact HB.out | apply below_alloc | apply pw_below_drewN | apply below_drew1) | exact HB.out)));(case aF=>exact (fun k_ hk=>Kd.fresh' (Kd.R_lt (by (with_reducible repeat (first | apply Kd.R_alloc | apply Kd.R_drewN | apply Kd.R_drew));exact HO404.out)) k_ hk));(case aO=>exact (by (with_reducible repeat (first | apply Kd.R_alloc | apply Kd.R_drewN | apply Kd.R_drew));exact Kd.R_mono HO_3.out (fun _ hk=>hk.2)));(case aS=>exact (below_size (by repeat (first | (with_reducible first | exact HB.out | apply below_alloc | apply pw_below_drewN | apply below_drew1) | exact HB.out))));(case aL=>have:=LMc42.out;omega);intro v406 w45 ho hb hg hat;rw [← Ny405.out] at ho;have n0_:=Aside0.mk (Kd.R_after (ok:=(fun _=>True)) (by (with_reducible repeat (first | apply Kd.R_alloc | apply Kd.R_drewN | apply Kd.R_drew));exact HO404.out) hg hat);have n1_:=Aside0.mk (hb);have n2_:=Aside0.mk (ho);clear HO404;clear HB;clear HO_3;have HO404:=n0_;have HB:=n1_;have HO407:=n2_;clear n0_ n1_ n2_;clear ho hb hg hat))
             go_roundg kj6
             case measure=>have:=HK1.out;have:=HJ6.out;omega
             case rel=>exact ⟨(y405),(wrap64 (x4_1 + 1)),(by first | rfl | (simp;done) | (simp [*];done) | (repeat (first | rfl | (unfold wrap64;omega) | congr 1))),H',⟨by have:=HK1.out;have:=HJ6.out;omega⟩,⟨by (with_reducible repeat (first | apply Kd.R_alloc | apply Kd.R_drewN | apply Kd.R_drew));exact Kd.R_mono HO407.out (fun _ hk=>trivial)⟩,⟨by repeat (first | (with_reducible first | exact HB.out | apply below_alloc | apply pw_below_drewN | apply below_drew1) | exact HB.out)⟩⟩
            ·rw [if_neg c42] at H
             exact absurd H (by simp)
    ·rw [if_neg c5] at H
     exact absurd H (by simp)
   ·rw [if_neg c4] at H
    have c4b0:decide (x4_1 < (a0.size:Int))=false:=decide_eq_false c4
    clear c4
    by_cases c47:x3_1.length < 140737488355328
    ·rw [if_pos c47] at H
     have LMc47:=Aside0.mk c47
     clear c47
     obtain ⟨y366,hy366⟩:∃ y_:List Int,y_=(x3_1 ++ [34]):=⟨_,rfl⟩
     replace H:(some (strOfNums y366))=some r:=by first | (rw [hy366];with_reducible exact H) | (have H2_:=(Option.bind_some _ _).symm.trans H;rw [hy366];with_reducible exact H2_) | (have H2_:=(Option.bind_some _ _).symm.trans H;with_reducible exact H2_) | with_reducible exact H | (rw [hy366];exact H) | exact H
     have Ny366:=Aside0.mk hy366
     clear hy366
     obtain rfl:=Option.some.inj H
     go_wp2_with (first | ((with_reducible refine gate_builtin (b:=.append) (xs:=#[.tmp 69,.tmp 70]) rfl ?_);at_builtin;refine Kd.R_append (Kd.int .u8) (w0:=w) w.heap.size rfl (.tmp 69) (.tmp 70) 48 5 (.int .u8 0) 1 rfl Tryz.underlying48 info5 rfl (by decide) (by omega) u3 x3_1 34 [.int .u8 34] (fun _=>True) (fun _=>False) rfl rfl ?aP (fun _ hk=>hk.elim) ?aF ?aO ?aB ?aS ?aL ?_;(case aP=>exact rfl);(case aB=>exact (by repeat (first | (with_reducible first | exact HB.out | apply below_alloc | apply pw_below_drewN | apply below_drew1) | exact HB.out)));(case aF=>exact (fun _ _=>trivial));(case aO=>exact (by (with_reducible repeat (first | apply Kd.R_alloc | apply Kd.R_drewN | apply Kd.R_drew));exact HO_3.out));(case aS=>exact (below_size (by repeat (first | (with_reducible first | exact HB.out | apply below_alloc | apply pw_below_drewN | apply below_drew1) | exact HB.out))));(case aL=>have:=LMc47.out;omega);intro v367 w48 ho hb hg hat;rw [← Ny366.out] at ho;have n0_:=Aside0.mk (hb);have n1_:=Aside0.mk (ho);clear HB;clear HO_3;have HB:=n0_;have HO368:=n1_;clear n0_ n1_;clear ho hb hg hat;have hcv49:=own_string (P:=Tryz.prog) Tryz.underlying48 Tryz.underlying5 Tryz.underlying9 (Kd.own_of_R HO368.out)))
     go_ret
     exact ⟨by first | rfl | (simp [errW_none,errW_some] <;> rfl) | (simp [*,errW_none,errW_some] <;> rfl),by repeat (first | (with_reducible first | exact HB.out | apply below_alloc | apply pw_below_drewN | apply below_drew1) | exact HB.out)⟩
    ·rw [if_neg c47] at H
     exact absurd H (by simp)
end Go.Proofs.YtjapfefiaijfcaaGreatDoor.Q
namespace Go.Proofs.YtjapfefiaijfcaaGreatDoor.Q
open Go.RowKit Go.Proofs.YtjapfefiaijfcaaGreatDoorW.PrintWords Go.Proofs.YtjapfefiaijfcaaGreatDoorW.PrintLast Go.Proofs.YtjapfefiaijfcaaGreatDoorW.PrintMore
attribute [local go_sem] max2_int min2_int max_two min_two max_three min_three max_four min_four
set_option linter.unusedVariables false
set_option linter.unusedSimpArgs false
mutual
def vouchref14_blanks.l0:Nat → ByteArray → Int → Option (Int)
 | 0,_,_=>none
 | k + 1,x0,x1=>if x1 < (x0.size:Int) then (if 0 ≤ x1 then (if (bt x0 x1)=35 then (vouchref14_blanks.l1 k x0 x1) else (if (bt x0 x1)=9 then (vouchref14_blanks.l0 k x0 (wrap64 (x1 + 1))) else (if (bt x0 x1)=10 then (vouchref14_blanks.l0 k x0 (wrap64 (x1 + 1))) else (if (bt x0 x1)=13 then (vouchref14_blanks.l0 k x0 (wrap64 (x1 + 1))) else (if (bt x0 x1)=32 then (vouchref14_blanks.l0 k x0 (wrap64 (x1 + 1))) else (some x1)))))) else (none)) else (some x1)
def vouchref14_blanks.l1:Nat → ByteArray → Int → Option (Int)
 | 0,_,_=>none
 | k + 1,x0,x1=>if x1 < (x0.size:Int) then (if 0 ≤ x1 then (if (bt x0 x1)=10 then (vouchref14_blanks.l0 k x0 x1) else (vouchref14_blanks.l1 k x0 (wrap64 (x1 + 1)))) else (none)) else (vouchref14_blanks.l0 k x0 x1)
end
def vouchref14_blanks.f (k:Nat) (a0:ByteArray) (a1:Int):Option (Int):=vouchref14_blanks.l0 k a0 a1
set_option maxHeartbeats 8000000 in
set_option maxRecDepth 100000 in
theorem vouchref14_blanks.calls (k:Nat) (a0:ByteArray) (a1:Int) (r:Int) (w:World) (h:vouchref14_blanks.f k a0 a1=some r) :
  Calls Tryz.prog 60 #[.string a0,.int .i64 a1] w fun e w'=>e = .returned (.int .i64 r) ∧ Drawn0 w w':=by
 have H:(vouchref14_blanks.l0 k a0 a1)=some r:=h
 clear h
 have H':=Aside0.mk H
 clear H
 go_enter Tryz.func60,Tryz.ntmps60
 go_wp2
 go_loopg [1] k (fun kq v1 w'=>∃ (x1_1:Int),v1 = .int .i64 x1_1 ∧ Aside0 (vouchref14_blanks.l0 kq a0 x1_1=some r) ∧ Aside0 (kq ≤ k) ∧ Drawn0 w w')
 case atStart=>exact ⟨(a1),(by first | rfl | (simp;done) | (simp [*];done) | (repeat (first | rfl | (unfold wrap64;omega) | congr 1))),H',⟨Nat.le_refl _⟩,by repeat (first | exact Drawn0.refl _ | apply Drawn0.step)⟩
 case round =>
  clear H'
  try clear p2
  obtain ⟨x1_1,rfl,HA,HK1,⟨m1,rfl⟩⟩:=hrel
  cases gk with
  | zero=>exact absurd HA.out (by simp [vouchref14_blanks.l0])
  | succ k1 =>
   have H:=HA.out
   clear HA
   simp only [vouchref14_blanks.l0] at H
   by_cases c3:x1_1 < (a0.size:Int)
   ·rw [if_pos c3] at H
    have c3b0:decide (x1_1 < (a0.size:Int))=true:=decide_eq_true c3
    clear c3
    by_cases c4:0 ≤ x1_1
    ·rw [if_pos c4] at H
     have c4b0:decide (0 ≤ x1_1)=true:=decide_eq_true c4
     clear c4
     by_cases c6:(bt a0 x1_1)=35
     ·rw [if_pos c6] at H
      have c6b0:((bt a0 x1_1) == 35)=true:=beq_iff_eq.mpr c6
      have c6b1:((bt a0 x1_1) != 35)=false:=bne_eq_false_iff_eq.mpr c6
      clear c6
      have H':=Aside0.mk H
      clear H
      have p5:0 ≤ (x1_1:Int):=of_decide_eq_true (by first | (with_reducible assumption) | assumption)
      have q5:x1_1 < (a0.size:Int):=of_decide_eq_true (by first | (with_reducible assumption) | assumption)
      have hx5:=bt_at a0 x1_1
      replace p5:=eq_true p5
      replace q5:=eq_true q5
      go_wp2
      go_loopg [1] k1 (fun kq v1 w'=>∃ (x1_2:Int),v1 = .int .i64 x1_2 ∧ Aside0 (vouchref14_blanks.l1 kq a0 x1_2=some r) ∧ Aside0 (kq ≤ k1) ∧ Drawn0 w w')
      case atStart=>exact ⟨(x1_1),(by first | rfl | (simp;done) | (simp [*];done) | (repeat (first | rfl | (unfold wrap64;omega) | congr 1))),H',⟨Nat.le_refl _⟩,by repeat (first | exact Drawn0.refl _ | apply Drawn0.step)⟩
      case round =>
       clear H'
       try clear p2
       try clear c3
       try clear c3b0
       try clear c4
       try clear c4b0
       try clear p5
       try clear q5
       try clear hx5
       try clear c6
       try clear c6b0
       try clear c6b1
       try clear p2
       try clear p5
       try clear q5
       obtain ⟨x1_2,rfl,HA,HK2,⟨m2,rfl⟩⟩:=hrel
       cases gk with
       | zero=>exact absurd HA.out (by simp [vouchref14_blanks.l1])
       | succ k2 =>
        have H:=HA.out
        clear HA
        simp only [vouchref14_blanks.l1] at H
        by_cases c7:x1_2 < (a0.size:Int)
        ·rw [if_pos c7] at H
         have c7b0:decide (x1_2 < (a0.size:Int))=true:=decide_eq_true c7
         clear c7
         by_cases c8:0 ≤ x1_2
         ·rw [if_pos c8] at H
          have c8b0:decide (0 ≤ x1_2)=true:=decide_eq_true c8
          clear c8
          by_cases c10:(bt a0 x1_2)=10
          ·rw [if_pos c10] at H
           have c10b0:((bt a0 x1_2) == 10)=true:=beq_iff_eq.mpr c10
           have c10b1:((bt a0 x1_2) != 10)=false:=bne_eq_false_iff_eq.mpr c10
           clear c10
           have H':=Aside0.mk H
           clear H
           have p9:0 ≤ (x1_2:Int):=of_decide_eq_true (by first | (with_reducible assumption) | assumption)
           have q9:x1_2 < (a0.size:Int):=of_decide_eq_true (by first | (with_reducible assumption) | assumption)
           have hx9:=bt_at a0 x1_2
           replace p9:=eq_true p9
           replace q9:=eq_true q9
           go_wp2
           go_roundg k2
           case measure=>have:=HK1.out;have:=HK2.out;omega
           case rel=>exact ⟨(x1_2),(by first | rfl | (simp;done) | (simp [*];done) | (repeat (first | rfl | (unfold wrap64;omega) | congr 1))),H',⟨by have:=HK1.out;have:=HK2.out;omega⟩,by repeat (first | exact Drawn0.refl _ | apply Drawn0.step)⟩
          ·rw [if_neg c10] at H
           have c10b0:((bt a0 x1_2) == 10)=false:=beq_eq_false_iff_ne.mpr c10
           have c10b1:((bt a0 x1_2) != 10)=true:=bne_iff_ne.mpr c10
           have H':=Aside0.mk H
           clear H
           have p9:0 ≤ (x1_2:Int):=of_decide_eq_true (by first | (with_reducible assumption) | assumption)
           have q9:x1_2 < (a0.size:Int):=of_decide_eq_true (by first | (with_reducible assumption) | assumption)
           have hx9:=bt_at a0 x1_2
           replace p9:=eq_true p9
           replace q9:=eq_true q9
           go_wp2
           go_roundg k2
           case measure=>have:=HK1.out;have:=HK2.out;omega
           case rel=>exact ⟨(wrap64 (x1_2 + 1)),(by first | rfl | (simp;done) | (simp [*];done) | (repeat (first | rfl | (unfold wrap64;omega) | congr 1))),H',⟨by have:=HK1.out;have:=HK2.out;omega⟩,by repeat (first | exact Drawn0.refl _ | apply Drawn0.step)⟩
         ·rw [if_neg c8] at H
          exact absurd H (by simp)
        ·rw [if_neg c7] at H
         have c7b0:decide (x1_2 < (a0.size:Int))=false:=decide_eq_false c7
         clear c7
         have H':=Aside0.mk H
         clear H
         go_wp2
         go_roundg k2
         case measure=>have:=HK1.out;have:=HK2.out;omega
         case rel=>exact ⟨(x1_2),(by first | rfl | (simp;done) | (simp [*];done) | (repeat (first | rfl | (unfold wrap64;omega) | congr 1))),H',⟨by have:=HK1.out;have:=HK2.out;omega⟩,by repeat (first | exact Drawn0.refl _ | apply Drawn0.step)⟩
     ·rw [if_neg c6] at H
      have c6b0:((bt a0 x1_1) == 35)=false:=beq_eq_false_iff_ne.mpr c6
      have c6b1:((bt a0 x1_1) != 35)=true:=bne_iff_ne.mpr c6
      by_cases c11:(bt a0 x1_1)=9
      ·rw [if_pos c11] at H
       have c11b0:((bt a0 x1_1) == 9)=true:=beq_iff_eq.mpr c11
       have c11b1:((bt a0 x1_1) != 9)=false:=bne_eq_false_iff_eq.mpr c11
       clear c11
       have H':=Aside0.mk H
       clear H
       have p5:0 ≤ (x1_1:Int):=of_decide_eq_true (by first | (with_reducible assumption) | assumption)
       have q5:x1_1 < (a0.size:Int):=of_decide_eq_true (by first | (with_reducible assumption) | assumption)
       have hx5:=bt_at a0 x1_1
       replace p5:=eq_true p5
       replace q5:=eq_true q5
       go_wp2
       go_roundg k1
       case measure=>have:=HK1.out;omega
       case rel=>exact ⟨(wrap64 (x1_1 + 1)),(by first | rfl | (simp;done) | (simp [*];done) | (repeat (first | rfl | (unfold wrap64;omega) | congr 1))),H',⟨by have:=HK1.out;omega⟩,by repeat (first | exact Drawn0.refl _ | apply Drawn0.step)⟩
      ·rw [if_neg c11] at H
       have c11b0:((bt a0 x1_1) == 9)=false:=beq_eq_false_iff_ne.mpr c11
       have c11b1:((bt a0 x1_1) != 9)=true:=bne_iff_ne.mpr c11
       by_cases c12:(bt a0 x1_1)=10
       ·rw [if_pos c12] at H
        have c12b0:((bt a0 x1_1) == 10)=true:=beq_iff_eq.mpr c12
        have c12b1:((bt a0 x1_1) != 10)=false:=bne_eq_false_iff_eq.mpr c12
        clear c12
        have H':=Aside0.mk H
        clear H
        have p5:0 ≤ (x1_1:Int):=of_decide_eq_true (by first | (with_reducible assumption) | assumption)
        have q5:x1_1 < (a0.size:Int):=of_decide_eq_true (by first | (with_reducible assumption) | assumption)
        have hx5:=bt_at a0 x1_1
        replace p5:=eq_true p5
        replace q5:=eq_true q5
        go_wp2
        go_roundg k1
        case measure=>have:=HK1.out;omega
        case rel=>exact ⟨(wrap64 (x1_1 + 1)),(by first | rfl | (simp;done) | (simp [*];done) | (repeat (first | rfl | (unfold wrap64;omega) | congr 1))),H',⟨by have:=HK1.out;omega⟩,by repeat (first | exact Drawn0.refl _ | apply Drawn0.step)⟩
       ·rw [if_neg c12] at H
        have c12b0:((bt a0 x1_1) == 10)=false:=beq_eq_false_iff_ne.mpr c12
        have c12b1:((bt a0 x1_1) != 10)=true:=bne_iff_ne.mpr c12
        by_cases c13:(bt a0 x1_1)=13
        ·rw [if_pos c13] at H
         have c13b0:((bt a0 x1_1) == 13)=true:=beq_iff_eq.mpr c13
         have c13b1:((bt a0 x1_1) != 13)=false:=bne_eq_false_iff_eq.mpr c13
         clear c13
         have H':=Aside0.mk H
         clear H
         have p5:0 ≤ (x1_1:Int):=of_decide_eq_true (by first | (with_reducible assumption) | assumption)
         have q5:x1_1 < (a0.size:Int):=of_decide_eq_true (by first | (with_reducible assumption) | assumption)
         have hx5:=bt_at a0 x1_1
         replace p5:=eq_true p5
         replace q5:=eq_true q5
         go_wp2
         go_roundg k1
         case measure=>have:=HK1.out;omega
         case rel=>exact ⟨(wrap64 (x1_1 + 1)),(by first | rfl | (simp;done) | (simp [*];done) | (repeat (first | rfl | (unfold wrap64;omega) | congr 1))),H',⟨by have:=HK1.out;omega⟩,by repeat (first | exact Drawn0.refl _ | apply Drawn0.step)⟩
        ·rw [if_neg c13] at H
         have c13b0:((bt a0 x1_1) == 13)=false:=beq_eq_false_iff_ne.mpr c13
         have c13b1:((bt a0 x1_1) != 13)=true:=bne_iff_ne.mpr c13
         by_cases c14:(bt a0 x1_1)=32
         ·rw [if_pos c14] at H
          have c14b0:((bt a0 x1_1) == 32)=true:=beq_iff_eq.mpr c14
          have c14b1:((bt a0 x1_1) != 32)=false:=bne_eq_false_iff_eq.mpr c14
          clear c14
          have H':=Aside0.mk H
          clear H
          have p5:0 ≤ (x1_1:Int):=of_decide_eq_true (by first | (with_reducible assumption) | assumption)
          have q5:x1_1 < (a0.size:Int):=of_decide_eq_true (by first | (with_reducible assumption) | assumption)
          have hx5:=bt_at a0 x1_1
          replace p5:=eq_true p5
          replace q5:=eq_true q5
          go_wp2
          go_roundg k1
          case measure=>have:=HK1.out;omega
          case rel=>exact ⟨(wrap64 (x1_1 + 1)),(by first | rfl | (simp;done) | (simp [*];done) | (repeat (first | rfl | (unfold wrap64;omega) | congr 1))),H',⟨by have:=HK1.out;omega⟩,by repeat (first | exact Drawn0.refl _ | apply Drawn0.step)⟩
         ·rw [if_neg c14] at H
          have c14b0:((bt a0 x1_1) == 32)=false:=beq_eq_false_iff_ne.mpr c14
          have c14b1:((bt a0 x1_1) != 32)=true:=bne_iff_ne.mpr c14
          obtain rfl:=Option.some.inj H
          have p5:0 ≤ (x1_1:Int):=of_decide_eq_true (by first | (with_reducible assumption) | assumption)
          have q5:x1_1 < (a0.size:Int):=of_decide_eq_true (by first | (with_reducible assumption) | assumption)
          have hx5:=bt_at a0 x1_1
          replace p5:=eq_true p5
          replace q5:=eq_true q5
          go_wp2
          go_ret
          exact ⟨by first | rfl | (simp;done) | (simp [*];done),by repeat (first | exact Drawn0.refl _ | apply Drawn0.step)⟩
    ·rw [if_neg c4] at H
     exact absurd H (by simp)
   ·rw [if_neg c3] at H
    have c3b0:decide (x1_1 < (a0.size:Int))=false:=decide_eq_false c3
    clear c3
    obtain rfl:=Option.some.inj H
    go_wp2
    go_ret
    exact ⟨by first | rfl | (simp;done) | (simp [*];done),by repeat (first | exact Drawn0.refl _ | apply Drawn0.step)⟩
def vouchref14_letter.f (a0:Int):Option (Bool):=if a0 ≥ 97 then (if a0 ≤ 122 then (some true) else (if a0 ≥ 65 then (if a0 ≤ 90 then (some true) else (some (a0 == 95))) else (some (a0 == 95)))) else (if a0 ≥ 65 then (if a0 ≤ 90 then (some true) else (some (a0 == 95))) else (some (a0 == 95)))
set_option maxHeartbeats 8000000 in
set_option maxRecDepth 100000 in
theorem vouchref14_letter.calls (a0:Int) (r:Bool) (w:World) (h:vouchref14_letter.f a0=some r) :
  Calls Tryz.prog 82 #[.int .u8 a0] w fun e w'=>e = .returned (.bool r) ∧ Drawn0 w w':=by
 have H:(if a0 ≥ 97 then (if a0 ≤ 122 then (some true) else (if a0 ≥ 65 then (if a0 ≤ 90 then (some true) else (some (a0 == 95))) else (some (a0 == 95)))) else (if a0 ≥ 65 then (if a0 ≤ 90 then (some true) else (some (a0 == 95))) else (some (a0 == 95))))=some r:=h
 clear h
 by_cases c2:a0 ≥ 97
 ·rw [if_pos c2] at H
  have c2b0:decide (97 ≤ a0)=true:=decide_eq_true c2
  clear c2
  by_cases c3:a0 ≤ 122
  ·rw [if_pos c3] at H
   have c3b0:decide (a0 ≤ 122)=true:=decide_eq_true c3
   clear c3
   obtain rfl:=Option.some.inj H
   go_enter Tryz.func82,Tryz.ntmps82
   go_wp2
   go_ret
   exact ⟨by first | rfl | (simp;done) | (simp [*];done),by repeat (first | exact Drawn0.refl _ | apply Drawn0.step)⟩
  ·rw [if_neg c3] at H
   have c3b0:decide (a0 ≤ 122)=false:=decide_eq_false c3
   clear c3
   by_cases c4:a0 ≥ 65
   ·rw [if_pos c4] at H
    have c4b0:decide (65 ≤ a0)=true:=decide_eq_true c4
    clear c4
    by_cases c5:a0 ≤ 90
    ·rw [if_pos c5] at H
     have c5b0:decide (a0 ≤ 90)=true:=decide_eq_true c5
     clear c5
     obtain rfl:=Option.some.inj H
     go_enter Tryz.func82,Tryz.ntmps82
     go_wp2
     go_ret
     exact ⟨by first | rfl | (simp;done) | (simp [*];done),by repeat (first | exact Drawn0.refl _ | apply Drawn0.step)⟩
    ·rw [if_neg c5] at H
     have c5b0:decide (a0 ≤ 90)=false:=decide_eq_false c5
     clear c5
     obtain rfl:=Option.some.inj H
     go_enter Tryz.func82,Tryz.ntmps82
     go_wp2
     go_ret
     exact ⟨by first | rfl | (simp;done) | (simp [*];done),by repeat (first | exact Drawn0.refl _ | apply Drawn0.step)⟩
   ·rw [if_neg c4] at H
    have c4b0:decide (65 ≤ a0)=false:=decide_eq_false c4
    clear c4
    obtain rfl:=Option.some.inj H
    go_enter Tryz.func82,Tryz.ntmps82
    go_wp2
    go_ret
    exact ⟨by first | rfl | (simp;done) | (simp [*];done),by repeat (first | exact Drawn0.refl _ | apply Drawn0.step)⟩
 ·rw [if_neg c2] at H
  have c2b0:decide (97 ≤ a0)=false:=decide_eq_false c2
  clear c2
  by_cases c6:a0 ≥ 65
  ·rw [if_pos c6] at H
   have c6b0:decide (65 ≤ a0)=true:=decide_eq_true c6
   clear c6
   by_cases c7:a0 ≤ 90
   ·rw [if_pos c7] at H
    have c7b0:decide (a0 ≤ 90)=true:=decide_eq_true c7
    clear c7
    obtain rfl:=Option.some.inj H
    go_enter Tryz.func82,Tryz.ntmps82
    go_wp2
    go_ret
    exact ⟨by first | rfl | (simp;done) | (simp [*];done),by repeat (first | exact Drawn0.refl _ | apply Drawn0.step)⟩
   ·rw [if_neg c7] at H
    have c7b0:decide (a0 ≤ 90)=false:=decide_eq_false c7
    clear c7
    obtain rfl:=Option.some.inj H
    go_enter Tryz.func82,Tryz.ntmps82
    go_wp2
    go_ret
    exact ⟨by first | rfl | (simp;done) | (simp [*];done),by repeat (first | exact Drawn0.refl _ | apply Drawn0.step)⟩
  ·rw [if_neg c6] at H
   have c6b0:decide (65 ≤ a0)=false:=decide_eq_false c6
   clear c6
   obtain rfl:=Option.some.inj H
   go_enter Tryz.func82,Tryz.ntmps82
   go_wp2
   go_ret
   exact ⟨by first | rfl | (simp;done) | (simp [*];done),by repeat (first | exact Drawn0.refl _ | apply Drawn0.step)⟩
def vouchref14_digit.f (a0:Int):Option (Bool):=if a0 ≥ 48 then (some (decide (a0 ≤ 57))) else (some false)
set_option maxHeartbeats 8000000 in
set_option maxRecDepth 100000 in
theorem vouchref14_digit.calls (a0:Int) (r:Bool) (w:World) (h:vouchref14_digit.f a0=some r) :
  Calls Tryz.prog 83 #[.int .u8 a0] w fun e w'=>e = .returned (.bool r) ∧ Drawn0 w w':=by
 have H:(if a0 ≥ 48 then (some (decide (a0 ≤ 57))) else (some false))=some r:=h
 clear h
 by_cases c2:a0 ≥ 48
 ·rw [if_pos c2] at H
  have c2b0:decide (48 ≤ a0)=true:=decide_eq_true c2
  clear c2
  obtain rfl:=Option.some.inj H
  go_enter Tryz.func83,Tryz.ntmps83
  go_wp2
  go_ret
  exact ⟨by first | rfl | (simp;done) | (simp [*];done),by repeat (first | exact Drawn0.refl _ | apply Drawn0.step)⟩
 ·rw [if_neg c2] at H
  have c2b0:decide (48 ≤ a0)=false:=decide_eq_false c2
  clear c2
  obtain rfl:=Option.some.inj H
  go_enter Tryz.func83,Tryz.ntmps83
  go_wp2
  go_ret
  exact ⟨by first | rfl | (simp;done) | (simp [*];done),by repeat (first | exact Drawn0.refl _ | apply Drawn0.step)⟩
def vouchref14_digits.l0:Nat → ByteArray → Int → Option (Int)
 | 0,_,_=>none
 | k + 1,x0,x1=>if x1 < (x0.size:Int) then (if 0 ≤ x1 then ((vouchref14_digit.f (bt x0 x1)).bind fun t430=>(if t430=true then (vouchref14_digits.l0 k x0 (wrap64 (x1 + 1))) else (some x1))) else (none)) else (some x1)
def vouchref14_digits.f (k:Nat) (a0:ByteArray) (a1:Int):Option (Int):=vouchref14_digits.l0 k a0 a1
set_option maxHeartbeats 8000000 in
set_option maxRecDepth 100000 in
theorem vouchref14_digits.calls (k:Nat) (a0:ByteArray) (a1:Int) (r:Int) (w:World) (h:vouchref14_digits.f k a0 a1=some r) :
  Calls Tryz.prog 109 #[.string a0,.int .i64 a1] w fun e w'=>e = .returned (.int .i64 r) ∧ Drawn0 w w':=by
 have H:(vouchref14_digits.l0 k a0 a1)=some r:=h
 clear h
 have H':=Aside0.mk H
 clear H
 go_enter Tryz.func109,Tryz.ntmps109
 go_wp2
 go_loopg [1] k (fun kq v1 w'=>∃ (x1_1:Int),v1 = .int .i64 x1_1 ∧ Aside0 (vouchref14_digits.l0 kq a0 x1_1=some r) ∧ Aside0 (kq ≤ k) ∧ Drawn0 w w')
 case atStart=>exact ⟨(a1),(by first | rfl | (simp;done) | (simp [*];done) | (repeat (first | rfl | (unfold wrap64;omega) | congr 1))),H',⟨Nat.le_refl _⟩,by repeat (first | exact Drawn0.refl _ | apply Drawn0.step)⟩
 case round =>
  clear H'
  try clear c1
  try clear p2
  obtain ⟨x1_1,rfl,HA,HK1,⟨m1,rfl⟩⟩:=hrel
  cases gk with
  | zero=>exact absurd HA.out (by simp [vouchref14_digits.l0])
  | succ k1 =>
   have H:=HA.out
   clear HA
   simp only [vouchref14_digits.l0] at H
   by_cases c3:x1_1 < (a0.size:Int)
   ·rw [if_pos c3] at H
    have c3b0:decide (x1_1 < (a0.size:Int))=true:=decide_eq_true c3
    clear c3
    by_cases c4:0 ≤ x1_1
    ·rw [if_pos c4] at H
     have c4b0:decide (0 ≤ x1_1)=true:=decide_eq_true c4
     clear c4
     replace H:=Option.bind_eq_some_iff.mp H
     obtain ⟨t430,A60,H⟩:=H
     replace H:(if t430=true then (vouchref14_digits.l0 k1 a0 (wrap64 (x1_1 + 1))) else (some x1_1))=some r:=H
     have A6:=Aside0.mk A60
     clear A60
     by_cases c7:t430=true
     ·subst c7
      have H1:(vouchref14_digits.l0 k1 a0 (wrap64 (x1_1 + 1)))=some r:=by rw [if_pos rfl] at H;exact H
      clear H
      have H:=H1
      clear H1
      have H':=Aside0.mk H
      clear H
      have p5:0 ≤ (x1_1:Int):=of_decide_eq_true (by first | (with_reducible assumption) | assumption)
      have q5:x1_1 < (a0.size:Int):=of_decide_eq_true (by first | (with_reducible assumption) | assumption)
      have hx5:=bt_at a0 x1_1
      replace p5:=eq_true p5
      replace q5:=eq_true q5
      go_wp2_with (first | (go_at_call 83;(with_reducible refine (vouchref14_digit.calls (bt a0 x1_1) true _ A6.out).mono ?_);rintro e w' ⟨rfl,⟨nd,rfl⟩⟩))
      go_roundg k1
      case measure=>have:=HK1.out;omega
      case rel=>exact ⟨(wrap64 (x1_1 + 1)),(by first | rfl | (simp;done) | (simp [*];done) | (repeat (first | rfl | (unfold wrap64;omega) | congr 1))),H',⟨by have:=HK1.out;omega⟩,by repeat (first | exact Drawn0.refl _ | apply Drawn0.step)⟩
     ·replace c7:=Bool.eq_false_iff.mpr c7
      subst c7
      have H1:(some x1_1)=some r:=by rw [if_neg (show ¬ (false=true) by decide)] at H;exact H
      clear H
      have H:=H1
      clear H1
      obtain rfl:=Option.some.inj H
      have p5:0 ≤ (x1_1:Int):=of_decide_eq_true (by first | (with_reducible assumption) | assumption)
      have q5:x1_1 < (a0.size:Int):=of_decide_eq_true (by first | (with_reducible assumption) | assumption)
      have hx5:=bt_at a0 x1_1
      replace p5:=eq_true p5
      replace q5:=eq_true q5
      go_wp2_with (first | (go_at_call 83;(with_reducible refine (vouchref14_digit.calls (bt a0 x1_1) false _ A6.out).mono ?_);rintro e w' ⟨rfl,⟨nd,rfl⟩⟩))
      go_ret
      exact ⟨by first | rfl | (simp;done) | (simp [*];done),by repeat (first | exact Drawn0.refl _ | apply Drawn0.step)⟩
    ·rw [if_neg c4] at H
     exact absurd H (by simp)
   ·rw [if_neg c3] at H
    have c3b0:decide (x1_1 < (a0.size:Int))=false:=decide_eq_false c3
    clear c3
    obtain rfl:=Option.some.inj H
    go_wp2
    go_ret
    exact ⟨by first | rfl | (simp;done) | (simp [*];done),by repeat (first | exact Drawn0.refl _ | apply Drawn0.step)⟩
end Go.Proofs.YtjapfefiaijfcaaGreatDoor.Q
namespace Go.Proofs.YtjapfefiaijfcaaGreatDoor.Q
open Go.RowKit Go.Proofs.YtjapfefiaijfcaaGreatDoorW.PrintWords Go.Proofs.YtjapfefiaijfcaaGreatDoorW.PrintLast Go.Proofs.YtjapfefiaijfcaaGreatDoorW.PrintMore
attribute [local go_sem] max2_int min2_int max_two min_two max_three min_three max_four min_four
set_option linter.unusedVariables false
set_option linter.unusedSimpArgs false
mutual
def vouchref14_sign.l0:Nat → ByteArray → Int → List ByteArray → Int → Option (Int)
 | 0,_,_,_,_=>none
 | k + 1,x0,x1,x5,x6=>if x6 < (x5.length:Int) then (if (wrap64 (x1 + 2)) ≤ (x0.size:Int) then (if 0 ≤ x1 then (if x1 ≤ (wrap64 (x1 + 2)) then (if 0 ≤ x6 then (if (x0.extract (x1:Int).toNat ((wrap64 (x1 + 2)):Int).toNat).toList=(rdOf ByteArray.empty x5 x6).toList then (some 2) else (vouchref14_sign.l0 k x0 x1 x5 (wrap64 (x6 + 1)))) else (none)) else (none)) else (none)) else (vouchref14_sign.l0 k x0 x1 x5 (wrap64 (x6 + 1)))) else (vouchref14_sign.l1 k x0 x1 (⟨#[40,41,123,125,59,33,60,62,43,45,42,47,37,94,46,36,64,38,44,61]⟩:ByteArray) 0)
def vouchref14_sign.l1:Nat → ByteArray → Int → ByteArray → Int → Option (Int)
 | 0,_,_,_,_=>none
 | k + 1,x0,x1,x7,x8=>if x8 < (x7.size:Int) then (if 0 ≤ x1 then (if x1 < (x0.size:Int) then (if 0 ≤ x8 then (if (bt x0 x1)=(bt x7 x8) then (some 1) else (vouchref14_sign.l1 k x0 x1 x7 (wrap64 (x8 + 1)))) else (none)) else (none)) else (none)) else (some 0)
end
def vouchref14_sign.f (k:Nat) (a0:ByteArray) (a1:Int):Option (Int):=vouchref14_sign.l0 k a0 a1 (([(⟨#[45,62]⟩:ByteArray),(⟨#[38,38]⟩:ByteArray),(⟨#[124,124]⟩:ByteArray),(⟨#[61,61]⟩:ByteArray),(⟨#[33,61]⟩:ByteArray),(⟨#[60,61]⟩:ByteArray),(⟨#[62,61]⟩:ByteArray),(⟨#[126,61]⟩:ByteArray)]:List ByteArray)) 0
set_option maxHeartbeats 8000000 in
set_option maxRecDepth 100000 in
theorem vouchref14_sign.calls (k:Nat) (a0:ByteArray) (a1:Int) (r:Int) (w:World) (h:vouchref14_sign.f k a0 a1=some r) :
  Calls Tryz.prog 86 #[.string a0,.int .i64 a1] w fun e w'=>e = .returned (.int .i64 r) ∧ Below w.heap.size w w':=by
 have HB:=Aside0.mk (Below.refl w.heap.size w)
 have H:(vouchref14_sign.l0 k a0 a1 (([(⟨#[45,62]⟩:ByteArray),(⟨#[38,38]⟩:ByteArray),(⟨#[124,124]⟩:ByteArray),(⟨#[61,61]⟩:ByteArray),(⟨#[33,61]⟩:ByteArray),(⟨#[60,61]⟩:ByteArray),(⟨#[62,61]⟩:ByteArray),(⟨#[126,61]⟩:ByteArray)]:List ByteArray)) 0)=some r:=h
 clear h
 obtain ⟨y465,hy465⟩:∃ y_:List ByteArray,y_=(([(⟨#[45,62]⟩:ByteArray),(⟨#[38,38]⟩:ByteArray),(⟨#[124,124]⟩:ByteArray),(⟨#[61,61]⟩:ByteArray),(⟨#[33,61]⟩:ByteArray),(⟨#[60,61]⟩:ByteArray),(⟨#[62,61]⟩:ByteArray),(⟨#[126,61]⟩:ByteArray)]:List ByteArray)):=⟨_,rfl⟩
 replace H:(vouchref14_sign.l0 k a0 a1 y465 0)=some r:=by first | (rw [hy465];with_reducible exact H) | (have H2_:=(Option.bind_some _ _).symm.trans H;rw [hy465];with_reducible exact H2_) | (have H2_:=(Option.bind_some _ _).symm.trans H;with_reducible exact H2_) | with_reducible exact H | (rw [hy465];exact H) | exact H
 have Ny465:=Aside0.mk hy465
 clear hy465
 have H':=Aside0.mk H
 clear H
 go_enter Tryz.func86,Tryz.ntmps86
 go_wp2_with (first | ((with_reducible refine gate_dst (N:=9) rfl ?_);refine Kd.R_lit Kd.string _ 9 ?hg (N:=9) ?hd (xs:=([(⟨#[45,62]⟩:ByteArray),(⟨#[38,38]⟩:ByteArray),(⟨#[124,124]⟩:ByteArray),(⟨#[61,61]⟩:ByteArray),(⟨#[33,61]⟩:ByteArray),(⟨#[60,61]⟩:ByteArray),(⟨#[62,61]⟩:ByteArray),(⟨#[126,61]⟩:ByteArray)]:List ByteArray)) (inner:=[.string (⟨#[45,62]⟩:ByteArray),.string (⟨#[38,38]⟩:ByteArray),.string (⟨#[124,124]⟩:ByteArray),.string (⟨#[61,61]⟩:ByteArray),.string (⟨#[33,61]⟩:ByteArray),.string (⟨#[60,61]⟩:ByteArray),.string (⟨#[62,61]⟩:ByteArray),.string (⟨#[126,61]⟩:ByteArray)]) (ok:=fun _=>True) (okp:=fun _=>True) ?hr ?hp (fun _ hk=>hk) trivial (Below.refl _ _) (Nat.le_refl _) (by simp) ?_;(case hd=>rfl);(case hg=>rfl);(case hr=>first | (go_simp;done) | (go_simp;rfl));(case hp=>exact (Reps.one (show Kd.M Kd.string _ _ _ (⟨#[45,62]⟩:ByteArray) [.string (⟨#[45,62]⟩:ByteArray)] from rfl) (Reps.one (show Kd.M Kd.string _ _ _ (⟨#[38,38]⟩:ByteArray) [.string (⟨#[38,38]⟩:ByteArray)] from rfl) (Reps.one (show Kd.M Kd.string _ _ _ (⟨#[124,124]⟩:ByteArray) [.string (⟨#[124,124]⟩:ByteArray)] from rfl) (Reps.one (show Kd.M Kd.string _ _ _ (⟨#[61,61]⟩:ByteArray) [.string (⟨#[61,61]⟩:ByteArray)] from rfl) (Reps.one (show Kd.M Kd.string _ _ _ (⟨#[33,61]⟩:ByteArray) [.string (⟨#[33,61]⟩:ByteArray)] from rfl) (Reps.one (show Kd.M Kd.string _ _ _ (⟨#[60,61]⟩:ByteArray) [.string (⟨#[60,61]⟩:ByteArray)] from rfl) (Reps.one (show Kd.M Kd.string _ _ _ (⟨#[62,61]⟩:ByteArray) [.string (⟨#[62,61]⟩:ByteArray)] from rfl) (Reps.one (show Kd.M Kd.string _ _ _ (⟨#[126,61]⟩:ByteArray) [.string (⟨#[126,61]⟩:ByteArray)] from rfl) (Reps.none _ _))))))))));intro v466 w3 ho4 hb hg_ hnew_;clear hg_ hnew_;(first | rw [← Ny465.out] at ho4 | (simp only [Int.reduceToNat] at ho4;rw [← Ny465.out] at ho4));have n0_:=Aside0.mk (Kd.R_lower ho4 (below_size (by repeat (first | (with_reducible first | exact HB.out | apply below_alloc | apply pw_below_drewN | apply below_drew1) | exact HB.out))));have n1_:=Aside0.mk (below_step (by repeat (first | (with_reducible first | exact HB.out | apply below_alloc | apply pw_below_drewN | apply below_drew1) | exact HB.out)) hb);clear HB;have HO467:=n0_;have HB:=n1_;clear n0_ n1_;clear hb ho4))
 repeat (go_quiet (first | ((with_reducible refine gate_dst (N:=9) rfl ?_);refine Kd.R_lit Kd.string _ 9 ?hg (N:=9) ?hd (xs:=([(⟨#[45,62]⟩:ByteArray),(⟨#[38,38]⟩:ByteArray),(⟨#[124,124]⟩:ByteArray),(⟨#[61,61]⟩:ByteArray),(⟨#[33,61]⟩:ByteArray),(⟨#[60,61]⟩:ByteArray),(⟨#[62,61]⟩:ByteArray),(⟨#[126,61]⟩:ByteArray)]:List ByteArray)) (inner:=[.string (⟨#[45,62]⟩:ByteArray),.string (⟨#[38,38]⟩:ByteArray),.string (⟨#[124,124]⟩:ByteArray),.string (⟨#[61,61]⟩:ByteArray),.string (⟨#[33,61]⟩:ByteArray),.string (⟨#[60,61]⟩:ByteArray),.string (⟨#[62,61]⟩:ByteArray),.string (⟨#[126,61]⟩:ByteArray)]) (ok:=fun _=>True) (okp:=fun _=>True) ?hr ?hp (fun _ hk=>hk) trivial (Below.refl _ _) (Nat.le_refl _) (by simp) ?_;(case hd=>rfl);(case hg=>rfl);(case hr=>first | (go_simp;done) | (go_simp;rfl));(case hp=>exact (Reps.one (show Kd.M Kd.string _ _ _ (⟨#[45,62]⟩:ByteArray) [.string (⟨#[45,62]⟩:ByteArray)] from rfl) (Reps.one (show Kd.M Kd.string _ _ _ (⟨#[38,38]⟩:ByteArray) [.string (⟨#[38,38]⟩:ByteArray)] from rfl) (Reps.one (show Kd.M Kd.string _ _ _ (⟨#[124,124]⟩:ByteArray) [.string (⟨#[124,124]⟩:ByteArray)] from rfl) (Reps.one (show Kd.M Kd.string _ _ _ (⟨#[61,61]⟩:ByteArray) [.string (⟨#[61,61]⟩:ByteArray)] from rfl) (Reps.one (show Kd.M Kd.string _ _ _ (⟨#[33,61]⟩:ByteArray) [.string (⟨#[33,61]⟩:ByteArray)] from rfl) (Reps.one (show Kd.M Kd.string _ _ _ (⟨#[60,61]⟩:ByteArray) [.string (⟨#[60,61]⟩:ByteArray)] from rfl) (Reps.one (show Kd.M Kd.string _ _ _ (⟨#[62,61]⟩:ByteArray) [.string (⟨#[62,61]⟩:ByteArray)] from rfl) (Reps.one (show Kd.M Kd.string _ _ _ (⟨#[126,61]⟩:ByteArray) [.string (⟨#[126,61]⟩:ByteArray)] from rfl) (Reps.none _ _))))))))));intro v466 w3 ho4 hb hg_ hnew_;clear hg_ hnew_;(first | rw [← Ny465.out] at ho4 | (simp only [Int.reduceToNat] at ho4;rw [← Ny465.out] at ho4));have n0_:=Aside0.mk (Kd.R_lower ho4 (below_size (by repeat (first | (with_reducible first | exact HB.out | apply below_alloc | apply pw_below_drewN | apply below_drew1) | exact HB.out))));have n1_:=Aside0.mk (below_step (by repeat (first | (with_reducible first | exact HB.out | apply below_alloc | apply pw_below_drewN | apply below_drew1) | exact HB.out)) hb);clear HB;have HO467:=n0_;have HB:=n1_;clear n0_ n1_;clear hb ho4));try go_wp2_with (first | ((with_reducible refine gate_dst (N:=9) rfl ?_);refine Kd.R_lit Kd.string _ 9 ?hg (N:=9) ?hd (xs:=([(⟨#[45,62]⟩:ByteArray),(⟨#[38,38]⟩:ByteArray),(⟨#[124,124]⟩:ByteArray),(⟨#[61,61]⟩:ByteArray),(⟨#[33,61]⟩:ByteArray),(⟨#[60,61]⟩:ByteArray),(⟨#[62,61]⟩:ByteArray),(⟨#[126,61]⟩:ByteArray)]:List ByteArray)) (inner:=[.string (⟨#[45,62]⟩:ByteArray),.string (⟨#[38,38]⟩:ByteArray),.string (⟨#[124,124]⟩:ByteArray),.string (⟨#[61,61]⟩:ByteArray),.string (⟨#[33,61]⟩:ByteArray),.string (⟨#[60,61]⟩:ByteArray),.string (⟨#[62,61]⟩:ByteArray),.string (⟨#[126,61]⟩:ByteArray)]) (ok:=fun _=>True) (okp:=fun _=>True) ?hr ?hp (fun _ hk=>hk) trivial (Below.refl _ _) (Nat.le_refl _) (by simp) ?_;(case hd=>rfl);(case hg=>rfl);(case hr=>first | (go_simp;done) | (go_simp;rfl));(case hp=>exact (Reps.one (show Kd.M Kd.string _ _ _ (⟨#[45,62]⟩:ByteArray) [.string (⟨#[45,62]⟩:ByteArray)] from rfl) (Reps.one (show Kd.M Kd.string _ _ _ (⟨#[38,38]⟩:ByteArray) [.string (⟨#[38,38]⟩:ByteArray)] from rfl) (Reps.one (show Kd.M Kd.string _ _ _ (⟨#[124,124]⟩:ByteArray) [.string (⟨#[124,124]⟩:ByteArray)] from rfl) (Reps.one (show Kd.M Kd.string _ _ _ (⟨#[61,61]⟩:ByteArray) [.string (⟨#[61,61]⟩:ByteArray)] from rfl) (Reps.one (show Kd.M Kd.string _ _ _ (⟨#[33,61]⟩:ByteArray) [.string (⟨#[33,61]⟩:ByteArray)] from rfl) (Reps.one (show Kd.M Kd.string _ _ _ (⟨#[60,61]⟩:ByteArray) [.string (⟨#[60,61]⟩:ByteArray)] from rfl) (Reps.one (show Kd.M Kd.string _ _ _ (⟨#[62,61]⟩:ByteArray) [.string (⟨#[62,61]⟩:ByteArray)] from rfl) (Reps.one (show Kd.M Kd.string _ _ _ (⟨#[126,61]⟩:ByteArray) [.string (⟨#[126,61]⟩:ByteArray)] from rfl) (Reps.none _ _))))))))));intro v466 w3 ho4 hb hg_ hnew_;clear hg_ hnew_;(first | rw [← Ny465.out] at ho4 | (simp only [Int.reduceToNat] at ho4;rw [← Ny465.out] at ho4));have n0_:=Aside0.mk (Kd.R_lower ho4 (below_size (by repeat (first | (with_reducible first | exact HB.out | apply below_alloc | apply pw_below_drewN | apply below_drew1) | exact HB.out))));have n1_:=Aside0.mk (below_step (by repeat (first | (with_reducible first | exact HB.out | apply below_alloc | apply pw_below_drewN | apply below_drew1) | exact HB.out)) hb);clear HB;have HO467:=n0_;have HB:=n1_;clear n0_ n1_;clear hb ho4)))
 go_loopg [6] k (fun kq v6 w'=>∃ (x6_1:Int),v6 = .int .i64 x6_1 ∧ Aside0 (vouchref14_sign.l0 kq a0 a1 y465 x6_1=some r) ∧ Aside0 (kq ≤ k) ∧ Aside0 (Kd.R Kd.string 9 w' w.heap.size (fun _=>True) v466 y465) ∧ Aside0 (Below w.heap.size w w'))
 case atStart=>exact ⟨(0),(by first | rfl | (simp;done) | (simp [*];done) | (repeat (first | rfl | (unfold wrap64;omega) | congr 1))),H',⟨Nat.le_refl _⟩,⟨by (with_reducible repeat (first | apply Kd.R_alloc | apply Kd.R_drewN | apply Kd.R_drew));exact HO467.out⟩,⟨by repeat (first | (with_reducible first | exact HB.out | apply below_alloc | apply pw_below_drewN | apply below_drew1) | exact HB.out)⟩⟩
 case round =>
  clear H'
  try clear p2
  obtain ⟨x6_1,rfl,HA,HK1,HO_5,HB⟩:=hrel
  cases gk with
  | zero=>exact absurd HA.out (by simp [vouchref14_sign.l0])
  | succ k1 =>
   have H:=HA.out
   clear HA
   simp only [vouchref14_sign.l0] at H
   by_cases c5:x6_1 < (y465.length:Int)
   ·rw [if_pos c5] at H
    have c5b0:decide (x6_1 < (y465.length:Int))=true:=decide_eq_true c5
    clear c5
    by_cases c6:(wrap64 (a1 + 2)) ≤ (a0.size:Int)
    ·rw [if_pos c6] at H
     have c6b0:decide ((wrap64 (a1 + 2)) ≤ (a0.size:Int))=true:=decide_eq_true c6
     clear c6
     by_cases c7:0 ≤ a1
     ·rw [if_pos c7] at H
      have c7b0:=eq_true c7
      have c7b1:decide (0 ≤ a1)=true:=decide_eq_true c7
      clear c7
      by_cases c8:a1 ≤ (wrap64 (a1 + 2))
      ·rw [if_pos c8] at H
       have c8b0:=eq_true c8
       have c8b1:decide (a1 ≤ (wrap64 (a1 + 2)))=true:=decide_eq_true c8
       have c9b0:=eq_true (of_decide_eq_true (by first | (with_reducible assumption) | assumption):(wrap64 (a1 + 2)) ≤ (a0.size:Int))
       by_cases c10:0 ≤ x6_1
       ·rw [if_pos c10] at H
        have c10b0:decide (0 ≤ x6_1)=true:=decide_eq_true c10
        clear c10
        by_cases c11:(a0.extract (a1:Int).toNat ((wrap64 (a1 + 2)):Int).toNat).toList=(rdOf ByteArray.empty y465 x6_1).toList
        ·rw [if_pos c11] at H
         have c11b0:((a0.extract (a1:Int).toNat ((wrap64 (a1 + 2)):Int).toNat).toList == (rdOf ByteArray.empty y465 x6_1).toList)=true:=beq_iff_eq.mpr c11
         have c11b1:((a0.extract (a1:Int).toNat ((wrap64 (a1 + 2)):Int).toNat).toList != (rdOf ByteArray.empty y465 x6_1).toList)=false:=bne_eq_false_iff_eq.mpr c11
         clear c11
         obtain rfl:=Option.some.inj H
         obtain ⟨Ao12,co12,eo12⟩:=Kd.R_slice HO_5.out
         subst eo12
         have p468:0 ≤ (x6_1:Int):=of_decide_eq_true (by first | (with_reducible assumption) | assumption)
         have q468:x6_1 < (y465.length:Int):=of_decide_eq_true (by first | (with_reducible assumption) | assumption)
         obtain ⟨ad468,e468,hx468_0⟩:=Kd.at_string (Kd.R_reads' HO_5.out).2.2 x6_1 p468 q468
         cases e468
         replace p468:=eq_true p468
         replace q468:=eq_true q468
         go_wp2
         repeat (go_quiet (fail);try go_wp2)
         go_ret
         exact ⟨by first | rfl | (simp [errW_none,errW_some] <;> rfl) | (simp [*,errW_none,errW_some] <;> rfl),by repeat (first | (with_reducible first | exact HB.out | apply below_alloc | apply pw_below_drewN | apply below_drew1) | exact HB.out)⟩
        ·rw [if_neg c11] at H
         have c11b0:((a0.extract (a1:Int).toNat ((wrap64 (a1 + 2)):Int).toNat).toList == (rdOf ByteArray.empty y465 x6_1).toList)=false:=beq_eq_false_iff_ne.mpr c11
         have c11b1:((a0.extract (a1:Int).toNat ((wrap64 (a1 + 2)):Int).toNat).toList != (rdOf ByteArray.empty y465 x6_1).toList)=true:=bne_iff_ne.mpr c11
         have H':=Aside0.mk H
         clear H
         obtain ⟨Ao13,co13,eo13⟩:=Kd.R_slice HO_5.out
         subst eo13
         have p468:0 ≤ (x6_1:Int):=of_decide_eq_true (by first | (with_reducible assumption) | assumption)
         have q468:x6_1 < (y465.length:Int):=of_decide_eq_true (by first | (with_reducible assumption) | assumption)
         obtain ⟨ad468,e468,hx468_0⟩:=Kd.at_string (Kd.R_reads' HO_5.out).2.2 x6_1 p468 q468
         cases e468
         replace p468:=eq_true p468
         replace q468:=eq_true q468
         go_wp2
         repeat (go_quiet (fail);try go_wp2)
         go_roundg k1
         case measure=>have:=HK1.out;omega
         case rel=>exact ⟨(wrap64 (x6_1 + 1)),(by first | rfl | (simp;done) | (simp [*];done) | (repeat (first | rfl | (unfold wrap64;omega) | congr 1))),H',⟨by have:=HK1.out;omega⟩,⟨by (with_reducible repeat (first | apply Kd.R_alloc | apply Kd.R_drewN | apply Kd.R_drew));exact HO_5.out⟩,⟨by repeat (first | (with_reducible first | exact HB.out | apply below_alloc | apply pw_below_drewN | apply below_drew1) | exact HB.out)⟩⟩
       ·rw [if_neg c10] at H
        exact absurd H (by simp)
      ·rw [if_neg c8] at H
       exact absurd H (by simp)
     ·rw [if_neg c7] at H
      exact absurd H (by simp)
    ·rw [if_neg c6] at H
     have c6b0:decide ((wrap64 (a1 + 2)) ≤ (a0.size:Int))=false:=decide_eq_false c6
     clear c6
     have H':=Aside0.mk H
     clear H
     obtain ⟨Ao14,co14,eo14⟩:=Kd.R_slice HO_5.out
     subst eo14
     go_wp2
     repeat (go_quiet (fail);try go_wp2)
     go_roundg k1
     case measure=>have:=HK1.out;omega
     case rel=>exact ⟨(wrap64 (x6_1 + 1)),(by first | rfl | (simp;done) | (simp [*];done) | (repeat (first | rfl | (unfold wrap64;omega) | congr 1))),H',⟨by have:=HK1.out;omega⟩,⟨by (with_reducible repeat (first | apply Kd.R_alloc | apply Kd.R_drewN | apply Kd.R_drew));exact HO_5.out⟩,⟨by repeat (first | (with_reducible first | exact HB.out | apply below_alloc | apply pw_below_drewN | apply below_drew1) | exact HB.out)⟩⟩
   ·rw [if_neg c5] at H
    have c5b0:decide (x6_1 < (y465.length:Int))=false:=decide_eq_false c5
    clear c5
    have H':=Aside0.mk H
    clear H
    obtain ⟨Ao15,co15,eo15⟩:=Kd.R_slice HO_5.out
    subst eo15
    go_wp2
    repeat (go_quiet (fail);try go_wp2)
    go_loopg [8] k1 (fun kq v8 w'=>∃ (x8_2:Int),v8 = .int .i64 x8_2 ∧ Aside0 (vouchref14_sign.l1 kq a0 a1 (⟨#[40,41,123,125,59,33,60,62,43,45,42,47,37,94,46,36,64,38,44,61]⟩:ByteArray) x8_2=some r) ∧ Aside0 (kq ≤ k1) ∧ Aside0 (Below w.heap.size w w'))
    case atStart=>exact ⟨(0),(by first | rfl | (simp;done) | (simp [*];done) | (repeat (first | rfl | (unfold wrap64;omega) | congr 1))),H',⟨Nat.le_refl _⟩,⟨by repeat (first | (with_reducible first | exact HB.out | apply below_alloc | apply pw_below_drewN | apply below_drew1) | exact HB.out)⟩⟩
    case round =>
     clear H'
     try clear c1
     try clear p2
     try clear p4
     try clear q4
     try clear hx4
     try clear c5
     try clear c5b0
     try clear c6
     try clear c6b0
     try clear p6
     try clear c7
     try clear c7b0
     try clear c7b1
     try clear c8
     try clear c8b0
     try clear c8b1
     try clear c9
     try clear c9b0
     try clear c10
     try clear c10b0
     try clear c11
     try clear c11b0
     try clear c11b1
     try clear hx468_0
     try clear p2
     try clear p468
     try clear q468
     obtain ⟨x8_2,rfl,HA,HK2,HB⟩:=hrel
     cases gk with
     | zero=>exact absurd HA.out (by simp [vouchref14_sign.l1])
     | succ k2 =>
      have H:=HA.out
      clear HA
      simp only [vouchref14_sign.l1] at H
      by_cases c16:x8_2 < ((⟨#[40,41,123,125,59,33,60,62,43,45,42,47,37,94,46,36,64,38,44,61]⟩:ByteArray).size:Int)
      ·rw [if_pos c16] at H
       have c16b0:decide (x8_2 < ((⟨#[40,41,123,125,59,33,60,62,43,45,42,47,37,94,46,36,64,38,44,61]⟩:ByteArray).size:Int))=true:=decide_eq_true c16
       have c16b1:decide (x8_2 < 20)=true:=c16b0
       clear c16
       by_cases c17:0 ≤ a1
       ·rw [if_pos c17] at H
        have c17b0:decide (0 ≤ a1)=true:=decide_eq_true c17
        clear c17
        by_cases c18:a1 < (a0.size:Int)
        ·rw [if_pos c18] at H
         have c18b0:decide (a1 < (a0.size:Int))=true:=decide_eq_true c18
         clear c18
         by_cases c20:0 ≤ x8_2
         ·rw [if_pos c20] at H
          have c20b0:decide (0 ≤ x8_2)=true:=decide_eq_true c20
          clear c20
          by_cases c22:(bt a0 a1)=(bt (⟨#[40,41,123,125,59,33,60,62,43,45,42,47,37,94,46,36,64,38,44,61]⟩:ByteArray) x8_2)
          ·rw [if_pos c22] at H
           have c22b0:((bt a0 a1) == (bt (⟨#[40,41,123,125,59,33,60,62,43,45,42,47,37,94,46,36,64,38,44,61]⟩:ByteArray) x8_2))=true:=beq_iff_eq.mpr c22
           have c22b1:((bt a0 a1) != (bt (⟨#[40,41,123,125,59,33,60,62,43,45,42,47,37,94,46,36,64,38,44,61]⟩:ByteArray) x8_2))=false:=bne_eq_false_iff_eq.mpr c22
           clear c22
           obtain rfl:=Option.some.inj H
           have p19:0 ≤ (a1:Int):=of_decide_eq_true (by first | (with_reducible assumption) | assumption)
           have q19:a1 < (a0.size:Int):=of_decide_eq_true (by first | (with_reducible assumption) | assumption)
           have hx19:=bt_at a0 a1
           replace p19:=eq_true p19
           replace q19:=eq_true q19
           have p21:0 ≤ (x8_2:Int):=of_decide_eq_true (by first | (with_reducible assumption) | assumption)
           have q21:x8_2 < (20:Int):=of_decide_eq_true (by first | (with_reducible assumption) | assumption)
           have hx21:=bt_at (⟨#[40,41,123,125,59,33,60,62,43,45,42,47,37,94,46,36,64,38,44,61]⟩:ByteArray) x8_2
           replace p21:=eq_true p21
           replace q21:=eq_true q21
           go_wp2
           repeat (go_quiet (fail);try go_wp2)
           go_ret
           exact ⟨by first | rfl | (simp [errW_none,errW_some] <;> rfl) | (simp [*,errW_none,errW_some] <;> rfl),by repeat (first | (with_reducible first | exact HB.out | apply below_alloc | apply pw_below_drewN | apply below_drew1) | exact HB.out)⟩
          ·rw [if_neg c22] at H
           have c22b0:((bt a0 a1) == (bt (⟨#[40,41,123,125,59,33,60,62,43,45,42,47,37,94,46,36,64,38,44,61]⟩:ByteArray) x8_2))=false:=beq_eq_false_iff_ne.mpr c22
           have c22b1:((bt a0 a1) != (bt (⟨#[40,41,123,125,59,33,60,62,43,45,42,47,37,94,46,36,64,38,44,61]⟩:ByteArray) x8_2))=true:=bne_iff_ne.mpr c22
           have H':=Aside0.mk H
           clear H
           have p19:0 ≤ (a1:Int):=of_decide_eq_true (by first | (with_reducible assumption) | assumption)
           have q19:a1 < (a0.size:Int):=of_decide_eq_true (by first | (with_reducible assumption) | assumption)
           have hx19:=bt_at a0 a1
           replace p19:=eq_true p19
           replace q19:=eq_true q19
           have p21:0 ≤ (x8_2:Int):=of_decide_eq_true (by first | (with_reducible assumption) | assumption)
           have q21:x8_2 < (20:Int):=of_decide_eq_true (by first | (with_reducible assumption) | assumption)
           have hx21:=bt_at (⟨#[40,41,123,125,59,33,60,62,43,45,42,47,37,94,46,36,64,38,44,61]⟩:ByteArray) x8_2
           replace p21:=eq_true p21
           replace q21:=eq_true q21
           go_wp2
           repeat (go_quiet (fail);try go_wp2)
           go_roundg k2
           case measure=>have:=HK1.out;have:=HK2.out;omega
           case rel=>exact ⟨(wrap64 (x8_2 + 1)),(by first | rfl | (simp;done) | (simp [*];done) | (repeat (first | rfl | (unfold wrap64;omega) | congr 1))),H',⟨by have:=HK1.out;have:=HK2.out;omega⟩,⟨by repeat (first | (with_reducible first | exact HB.out | apply below_alloc | apply pw_below_drewN | apply below_drew1) | exact HB.out)⟩⟩
         ·rw [if_neg c20] at H
          exact absurd H (by simp)
        ·rw [if_neg c18] at H
         exact absurd H (by simp)
       ·rw [if_neg c17] at H
        exact absurd H (by simp)
      ·rw [if_neg c16] at H
       have c16b0:decide (x8_2 < ((⟨#[40,41,123,125,59,33,60,62,43,45,42,47,37,94,46,36,64,38,44,61]⟩:ByteArray).size:Int))=false:=decide_eq_false c16
       have c16b1:decide (x8_2 < 20)=false:=c16b0
       clear c16
       obtain rfl:=Option.some.inj H
       go_wp2
       repeat (go_quiet (fail);try go_wp2)
       go_ret
       exact ⟨by first | rfl | (simp [errW_none,errW_some] <;> rfl) | (simp [*,errW_none,errW_some] <;> rfl),by repeat (first | (with_reducible first | exact HB.out | apply below_alloc | apply pw_below_drewN | apply below_drew1) | exact HB.out)⟩
end Go.Proofs.YtjapfefiaijfcaaGreatDoor.Q
