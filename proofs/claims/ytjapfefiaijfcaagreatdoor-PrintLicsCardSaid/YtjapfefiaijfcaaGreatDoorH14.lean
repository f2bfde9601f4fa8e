/- The contract of the scanner's next: a number, a string, a sign. -/
import Derived.IntWalk
import Derived.Test.YtjapfefiaijfcaaGreatDoorH5
import Derived.Test.YtjapfefiaijfcaaGreatDoorH7
import Derived.Test.YtjapfefiaijfcaaGreatDoorH11
namespace Go.Proofs.YtjapfefiaijfcaaGreatDoor.Q
open Go.RowKit Go.Proofs.YtjapfefiaijfcaaGreatDoorW.PrintWords Go.Proofs.YtjapfefiaijfcaaGreatDoorW.PrintLast Go.Proofs.YtjapfefiaijfcaaGreatDoorW.PrintMore
set_option linter.unusedVariables false
theorem after_new {w w1:World} {o:Obj} {n:Nat} (hb:Below ((w.alloc o).drewN n).heap.size ((w.alloc o).drewN n) w1):w1.heap[w.heap.size]? = some o ∧ Below w.heap.size w w1:=by
 have hz:((w.alloc o).drewN n).heap.size=w.heap.size + 1:=by simp
 rw [hz] at hb
 exact ⟨(hb.block _ (by omega)).trans (blk_new w o),(pw_below_drewN ((Below.refl _ _).alloc (Nat.le_refl _) o) n).trans (hb.mono (by omega))⟩
theorem four_set {w1:World} {b:Nat} {t:TypeId} (h:w1.heap[b]? = some (.cells #[.int .u8 0,.string ⟨#[]⟩,.int .i64 0,.int .i64 0] t (0,0))) (v0 v1 v2 v3:Value) :
  ((((w1.setCell ⟨b,0,none⟩ v0).setCell ⟨b,1,none⟩ v1).setCell ⟨b,2,none⟩ v2).setCell ⟨b,3,none⟩ v3).heap[b]? = some (.cells #[v0,v1,v2,v3] t (0,0)):=by
 have R:=blk_set (blk_set (blk_set (blk_set h 0 v0) 1 v1) 2 v2) 3 v3
 simpa using R
set_option maxHeartbeats 8000000 in
set_option maxRecDepth 100000 in
theorem tokens_next_number.calls (g:Nat) (s:ByteArray) (i:Nat) (w:World) (hS:Scan w g s i) (hs:s.size ≤ 65536) (hi:i < s.size) (hd:isDigit (bt s i)=true) :
  Calls Tryz.prog 79 #[.pointer (some ⟨g,0,none⟩)] w fun e w'=>e = .returned (.tuple #[.agg #[.int .u8 (numberS s i).f0,.string (numberS s i).f1,.int .i64 (numberS s i).f2,.int .i64 (numberS s i).f3],.int .i64 0,.int .i64 0]) ∧ Below w.heap.size w w':=by
 have HS:=Aside0.mk hS
 have hB:∀ o:Obj,Below w.heap.size w (w.alloc o):=fun o=>(Below.refl _ _).alloc (Nat.le_refl _) o
 have f0:∀ o:Obj,(w.alloc o).cell? ⟨g,0,none⟩=some (.string s):=fun o=>(hS.keep (hB o)).c0
 have f1:∀ o:Obj,(w.alloc o).cell? ⟨g,1,none⟩=some (.int .i64 i):=fun o=>(hS.keep (hB o)).c1
 have HB:=Aside0.mk hB
 have hbt:=bt_atN' s i
 obtain ⟨c,hc⟩:∃ c,c=bt s (i:Int):=⟨_,rfl⟩
 rw [← hc] at hbt hd
 have hl:isLetter c=false:=by
  unfold isDigit at hd
  simp only [Bool.and_eq_true,decide_eq_true_eq] at hd
  unfold isLetter
  rw [decide_eq_false (by omega:¬ 97 ≤ c),decide_eq_false (by omega:¬ 65 ≤ c),beq_eq_false_iff_ne.mpr (by omega:c ≠ 95)];rfl
 have L:=letter_same c
 have D:=digit_same c
 rw [hl] at L
 rw [hd] at D
 have HL:=Aside0.mk L
 have HD:=Aside0.mk D
 have z1:(i < s.size)=True:=eq_true hi
 clear hB hS hc hl hd L D
 go_enter Tryz.func79,Tryz.ntmps79
 go_wp2_with (fail)
 go_quiet (fail)
 go_wp2_with (first | (go_at_call 97;(with_reducible refine (HL.out _).mono ?_);rintro e_ w_ ⟨rfl,rfl⟩) | (go_at_call 100;(with_reducible refine (HD.out _).mono ?_);rintro e_ w_ ⟨rfl,rfl⟩) | (go_at_call 101;(with_reducible refine (tokens_number.calls g s i _ ?side hs (by omega)).mono ?_);(case side=>exact ⟨(HS.out.keep (HB.out _)).blk⟩);rintro e_ w1 ⟨rfl,hb⟩;obtain ⟨hk,hb2⟩:=after_new hb;have HB1:=Aside0.mk hb2;have q0:=blk_cell hk 0;have q1:=blk_cell hk 1;have q2:=blk_cell hk 2;have q3:=blk_cell hk 3;have k0:=blk_frozen hk 0;have k1:=blk_frozen hk 1;have k2:=blk_frozen hk 2;have k3:=blk_frozen hk 3;have HK:=Aside0.mk hk;clear hb hb2 hk))
 have R:=four_set HK.out (.int .u8 (numberS s i).f0) (.string (numberS s i).f1) (.int .i64 (numberS s i).f2) (.int .i64 (numberS s i).f3)
 have e0:=blk_cell R 0
 have e1:=blk_cell R 1
 have e2:=blk_cell R 2
 have e3:=blk_cell R 3
 refine bodyPost_ret (v:=.tuple #[.agg #[.int .u8 (numberS s i).f0,.string (numberS s i).f1,.int .i64 (numberS s i).f2,.int .i64 (numberS s i).f3],.int .i64 0,.int .i64 0]) ?_ rfl ⟨rfl,?_⟩
 ·simp [results,Tryz.results79,go_sem,e0,e1,e2,e3]
 ·repeat (first | apply below_set' | exact pw_below_drewN HB1.out _ | apply below_drew1 | exact HB1.out)
set_option maxHeartbeats 8000000 in
set_option maxRecDepth 100000 in
theorem tokens_next_sign.calls (g:Nat) (s:ByteArray) (i:Nat) (w:World) (hS:Scan w g s i) (hs:s.size ≤ 65536) (hi:i < s.size) (hl:isLetter (bt s i)=false) (hd:isDigit (bt s i)=false) (hq:bt s i ≠ 34) (n:Nat) (hn:signS s i=n) (hp:0 < n) (hin:i + n ≤ s.size) :
  Calls Tryz.prog 79 #[.pointer (some ⟨g,0,none⟩)] w fun e w'=>e = .returned (.tuple #[.agg #[.int .u8 6,.string (s.extract i (i + n)),.int .i64 i,.int .i64 ((i:Int) + n)],.int .i64 0,.int .i64 0]) ∧ Below w.heap.size w w':=by
 have HS:=Aside0.mk hS
 have hB:∀ o:Obj,Below w.heap.size w (w.alloc o):=fun o=>(Below.refl _ _).alloc (Nat.le_refl _) o
 have f0:∀ o:Obj,(w.alloc o).cell? ⟨g,0,none⟩=some (.string s):=fun o=>(hS.keep (hB o)).c0
 have f1:∀ o:Obj,(w.alloc o).cell? ⟨g,1,none⟩=some (.int .i64 i):=fun o=>(hS.keep (hB o)).c1
 have HB:=Aside0.mk hB
 have hbt:=bt_atN' s i
 obtain ⟨c,hc⟩:∃ c,c=bt s (i:Int):=⟨_,rfl⟩
 rw [← hc] at hbt hl hd hq
 have d34:(c == 34)=false:=beq_eq_false_iff_ne.mpr hq
 have dn:decide (0 < (n:Int))=true:=decide_eq_true (by omega)
 have dn2:decide (0 < n)=true:=decide_eq_true hp
 have L:=letter_same c
 have D:=digit_same c
 rw [hl] at L
 rw [hd] at D
 have HL:=Aside0.mk L
 have HD:=Aside0.mk D
 have SG:∀ w',Scan w' g s i → Calls Tryz.prog 103 #[.pointer (some ⟨g,0,none⟩)] w' fun e w2=>e = .returned (.int .i64 (n:Int)) ∧ Below w'.heap.size w' w2:=fun w' h=>by
  have q:=tokens_sign.calls g s i w' h hs hi
  rw [hn] at q;exact q
 have HSG:=Aside0.mk SG
 have y1:(i ≤ i + n)=True:=eq_true (by omega)
 have y2:(i + n ≤ s.size)=True:=eq_true hin
 have y3:((i:Int) ≤ (i:Int) + (n:Int))=True:=eq_true (by omega)
 have y4:((i:Int) + (n:Int) ≤ (s.size:Int))=True:=eq_true (by omega)
 have y5:(0 ≤ (i:Int) + (n:Int))=True:=eq_true (by omega)
 have y6:((i:Int) + (n:Int)).toNat=i + n:=by omega
 have y7:IntKind.i64.wrap ((i:Int) + (n:Int))=(i:Int) + (n:Int):=IntWalk.i64_in _ (by omega)
 have z1:(i < s.size)=True:=eq_true hi
 clear hB hS hc hl hd L D SG hn hq
 go_enter Tryz.func79,Tryz.ntmps79
 go_wp2_with (fail)
 go_quiet (fail)
 go_wp2_with (first | (go_at_call 97;(with_reducible refine (HL.out _).mono ?_);rintro e_ w_ ⟨rfl,rfl⟩) | (go_at_call 100;(with_reducible refine (HD.out _).mono ?_);rintro e_ w_ ⟨rfl,rfl⟩) | (go_at_call 103;(with_reducible refine (HSG.out _ ?side).mono ?_);(case side=>exact ⟨(HS.out.keep (HB.out _)).blk⟩);rintro e_ w1 ⟨rfl,hb⟩;obtain ⟨hk,hb2⟩:=after_new hb;have HB1:=Aside0.mk hb2;have q0:=blk_cell hk 0;have q1:=blk_cell hk 1;have q2:=blk_cell hk 2;have q3:=blk_cell hk 3;have k0:=blk_frozen hk 0;have k1:=blk_frozen hk 1;have k2:=blk_frozen hk 2;have k3:=blk_frozen hk 3;have HK:=Aside0.mk hk;have p0:=(HS.out.keep hb2).c0;have p1:=(HS.out.keep hb2).c1;clear hb hb2 hk))
 refine still_tail 26 (by kernel_rfl) (by kernel_rfl) ?_
 simp only [List.take_succ_cons,List.take_zero,List.drop_succ_cons,List.drop_zero]
 repeat still_step
 try refine wpStill_nil ?_
 go_wp2
 have R:=four_set HK.out (.int .u8 6) (.string (s.extract i (i + n))) (.int .i64 i) (.int .i64 ((i:Int) + n))
 have e0:=blk_cell R 0
 have e1:=blk_cell R 1
 have e2:=blk_cell R 2
 have e3:=blk_cell R 3
 refine bodyPost_ret (v:=.tuple #[.agg #[.int .u8 6,.string (s.extract i (i + n)),.int .i64 i,.int .i64 ((i:Int) + n)],.int .i64 0,.int .i64 0]) ?_ rfl ⟨rfl,?_⟩
 ·simp [results,Tryz.results79,go_sem,e0,e1,e2,e3]
 ·repeat (first | apply below_set' | exact pw_below_drewN HB1.out _ | apply below_drew1 | exact HB1.out)
end Go.Proofs.YtjapfefiaijfcaaGreatDoor.Q
