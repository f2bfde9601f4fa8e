/- The scanner's next, at every text and place. -/
import Derived.StillTailTactics
import Derived.IntWalk
import Derived.RegionTactic
import Derived.Test.YtjapfefiaijfcaaGreatDoorH12
import Derived.Test.YtjapfefiaijfcaaGreatDoorH14
namespace Go.Proofs.YtjapfefiaijfcaaGreatDoor.Q
open Go.RowKit Go.Proofs.YtjapfefiaijfcaaGreatDoorW.PrintWords Go.Proofs.YtjapfefiaijfcaaGreatDoorW.PrintLast Go.Proofs.YtjapfefiaijfcaaGreatDoorW.PrintMore
set_option linter.unusedVariables false
set_option maxHeartbeats 8000000 in
set_option maxRecDepth 100000 in
theorem tokens_next_text.calls (g:Nat) (s:ByteArray) (i:Nat) (w:World) (hS:Scan w g s i) (hs:s.size ≤ 65536) (hi:i < s.size) (hq:bt s i=34) (r:StrR) (N:Nat) (hr:strRun s i N (.plain (i + 1) [])=some r) :
  Calls Tryz.prog 79 #[.pointer (some ⟨g,0,none⟩)] w (StrPost w r):=by
 obtain ⟨⟨r0,r1,r2,r3⟩,rp,re⟩:=r
 show Calls Tryz.prog 79 #[.pointer (some ⟨g,0,none⟩)] w (fun e w_=>e = .returned (.tuple #[.agg #[.int .u8 r0,.string r1,.int .i64 r2,.int .i64 r3],.int .i64 rp,.int .i64 re]) ∧ Below w.heap.size w w_)
 have HS:=Aside0.mk hS
 have hB:∀ o:Obj,Below w.heap.size w (w.alloc o):=fun o=>(Below.refl _ _).alloc (Nat.le_refl _) o
 have f0:∀ o:Obj,(w.alloc o).cell? ⟨g,0,none⟩=some (.string s):=fun o=>(hS.keep (hB o)).c0
 have f1:∀ o:Obj,(w.alloc o).cell? ⟨g,1,none⟩=some (.int .i64 i):=fun o=>(hS.keep (hB o)).c1
 have HB:=Aside0.mk hB
 have hbt:=bt_atN' s i
 obtain ⟨c,hc⟩:∃ c,c=bt s (i:Int):=⟨_,rfl⟩
 rw [← hc] at hbt
 have e34:c=34:=by rw [hc];exact hq
 subst e34
 have L:=letter_same 34
 have D:=digit_same 34
 rw [show isLetter 34=false from rfl] at L
 rw [show isDigit 34=false from rfl] at D
 have HL:=Aside0.mk L
 have HD:=Aside0.mk D
 have ST:∀ w',Scan w' g s i → Calls Tryz.prog 102 #[.pointer (some ⟨g,0,none⟩)] w' (fun e w'_=>e = .returned (.tuple #[.agg #[.int .u8 r0,.string r1,.int .i64 r2,.int .i64 r3],.int .i64 rp,.int .i64 re]) ∧ Below w'.heap.size w' w'_):=fun w' h=>tokens_str_all.calls g s i _ N w' h hs hi hr
 have HST:=Aside0.mk ST
 have z1:(i < s.size)=True:=eq_true hi
 clear hB hS hc L D ST hq hr
 go_enter Tryz.func79,Tryz.ntmps79
 go_wp2_with (fail)
 go_quiet (fail)
 go_wp2_with (first | (go_at_call 97;(with_reducible refine (HL.out _).mono ?_);rintro e_ w_ ⟨rfl,rfl⟩) | (go_at_call 100;(with_reducible refine (HD.out _).mono ?_);rintro e_ w_ ⟨rfl,rfl⟩) | (go_at_call 102;(with_reducible refine (HST.out _ ?side).mono ?_);(case side=>exact ⟨(HS.out.keep (HB.out _)).blk⟩);rintro e_ w1 ⟨rfl,hb⟩;obtain ⟨hk,hb2⟩:=after_new hb;have HB1:=Aside0.mk hb2;have q0:=blk_cell hk 0;have q1:=blk_cell hk 1;have q2:=blk_cell hk 2;have q3:=blk_cell hk 3;have k0:=blk_frozen hk 0;have k1:=blk_frozen hk 1;have k2:=blk_frozen hk 2;have k3:=blk_frozen hk 3;have HK:=Aside0.mk hk;clear hb hb2 hk))
 have R:=four_set HK.out (.int .u8 r0) (.string r1) (.int .i64 r2) (.int .i64 r3)
 have e0:=blk_cell R 0
 have e1:=blk_cell R 1
 have e2:=blk_cell R 2
 have e3:=blk_cell R 3
 refine bodyPost_ret (v:=.tuple #[.agg #[.int .u8 r0,.string r1,.int .i64 r2,.int .i64 r3],.int .i64 rp,.int .i64 re]) ?_ rfl ⟨rfl,?_⟩
 ·simp [results,Tryz.results79,go_sem,e0,e1,e2,e3]
 ·repeat (first | apply below_set' | exact pw_below_drewN HB1.out _ | apply below_drew1 | exact HB1.out)
set_option maxHeartbeats 8000000 in
set_option maxRecDepth 100000 in
theorem tokens_next_name.calls (g:Nat) (s:ByteArray) (i:Nat) (w:World) (hS:Scan w g s i) (hs:s.size ≤ 65536) (hi:i < s.size) (hl:isLetter (bt s i)=true) :
  Calls Tryz.prog 79 #[.pointer (some ⟨g,0,none⟩)] w (StrPost w (⟨1,s.extract i (whileS isName s i),i,(whileS isName s i:Nat)⟩,0,0)):=by
 have HS:=Aside0.mk hS
 have hB:∀ o:Obj,Below w.heap.size w (w.alloc o):=fun o=>(Below.refl _ _).alloc (Nat.le_refl _) o
 have f0:∀ o:Obj,(w.alloc o).cell? ⟨g,0,none⟩=some (.string s):=fun o=>(hS.keep (hB o)).c0
 have f1:∀ o:Obj,(w.alloc o).cell? ⟨g,1,none⟩=some (.int .i64 i):=fun o=>(hS.keep (hB o)).c1
 have HB:=Aside0.mk hB
 have hbt:=bt_atN' s i
 obtain ⟨c,hc⟩:∃ c,c=bt s (i:Int):=⟨_,rfl⟩
 rw [← hc] at hbt hl
 have L:=letter_same c
 rw [hl] at L
 have HL:=Aside0.mk L
 have NA:∀ w',Scan w' g s i → Calls Tryz.prog 98 #[.pointer (some ⟨g,0,none⟩),.int .i64 i,.func (.func 99) #[] #[]] w' fun e w2=>e = .returned (.int .i64 (whileS isName s i:Nat)) ∧ w' = w2:=fun w' h=>tokens_while_name.calls g s i i w' h (by omega) (by omega)
 have hle:=whileS_le isName s i (by omega)
 obtain ⟨n,hn⟩:∃ n,n=whileS isName s i:=⟨_,rfl⟩
 rw [← hn] at NA hle
 rw [← hn]
 have HNA:=Aside0.mk NA
 have y1:(i ≤ n)=True:=eq_true hle.1
 have y2:(n ≤ s.size)=True:=eq_true hle.2
 have y3:((i:Int) ≤ (n:Int))=True:=eq_true (by omega)
 have y4:((n:Int) ≤ (s.size:Int))=True:=eq_true (by omega)
 have z1:(i < s.size)=True:=eq_true hi
 have HNE:=Aside0.mk (show g ≠ w.heap.size from fun h=>by have:=hS.lt;omega)
 clear hB hS hc hl L NA hn hle
 show Calls Tryz.prog 79 #[.pointer (some ⟨g,0,none⟩)] w (fun e w_=>e = .returned (.tuple #[.agg #[.int .u8 1,.string (s.extract i n),.int .i64 i,.int .i64 (n:Int)],.int .i64 0,.int .i64 0]) ∧ Below w.heap.size w w_)
 go_enter Tryz.func79,Tryz.ntmps79
 go_wp2_with (fail)
 go_quiet (fail)
 go_wp2_with (first | (go_at_call 97;(with_reducible refine (HL.out _).mono ?_);rintro e_ w_ ⟨rfl,rfl⟩) | (go_at_call 98;(with_reducible refine (HNA.out _ ?side).mono ?_);(case side=>exact ⟨(HS.out.keep (HB.out _)).blk⟩);rintro e_ w1 ⟨rfl,rfl⟩))
 refine still_tail 16 (by kernel_rfl) (by kernel_rfl) ?_
 simp only [List.take_succ_cons,List.take_zero,List.drop_succ_cons,List.drop_zero]
 repeat still_step
 try refine wpStill_nil ?_
 go_wp2
 have HK:=Aside0.mk (blk_new w (.cells #[.int .u8 0,.string ⟨#[]⟩,.int .i64 0,.int .i64 0] 70 (0,0)))
 have HB1:=Aside0.mk (HB.out (.cells #[.int .u8 0,.string ⟨#[]⟩,.int .i64 0,.int .i64 0] 70 (0,0)))
 have R:=four_set HK.out (.int .u8 1) (.string (s.extract i n)) (.int .i64 i) (.int .i64 (n:Int))
 have e0:=blk_cell R 0
 have e1:=blk_cell R 1
 have e2:=blk_cell R 2
 have e3:=blk_cell R 3
 refine bodyPost_ret (v:=.tuple #[.agg #[.int .u8 1,.string (s.extract i n),.int .i64 i,.int .i64 (n:Int)],.int .i64 0,.int .i64 0]) ?_ rfl ⟨rfl,?_⟩
 ·simp [results,Tryz.results79,go_sem]
 ·repeat (first | apply below_set' | exact pw_below_drewN HB1.out _ | apply below_drew1 | exact HB1.out)
set_option maxHeartbeats 8000000 in
set_option maxRecDepth 100000 in
theorem tokens_next_none.calls (g:Nat) (s:ByteArray) (i:Nat) (w:World) (hS:Scan w g s i) (hs:s.size ≤ 65536) (hi:i < s.size) (hl:isLetter (bt s i)=false) (hd:isDigit (bt s i)=false) (hq:bt s i ≠ 34) (hn:signS s i=0) :
  Calls Tryz.prog 79 #[.pointer (some ⟨g,0,none⟩)] w (StrPost w (strErr i 140)):=by
 have HS:=Aside0.mk hS
 have hB:∀ o:Obj,Below w.heap.size w (w.alloc o):=fun o=>(Below.refl _ _).alloc (Nat.le_refl _) o
 have f0:∀ o:Obj,(w.alloc o).cell? ⟨g,0,none⟩=some (.string s):=fun o=>(hS.keep (hB o)).c0
 have f1:∀ o:Obj,(w.alloc o).cell? ⟨g,1,none⟩=some (.int .i64 i):=fun o=>(hS.keep (hB o)).c1
 have HB:=Aside0.mk hB
 have hbt:=bt_atN' s i
 obtain ⟨c,hc⟩:∃ c,c=bt s (i:Int):=⟨_,rfl⟩
 rw [← hc] at hbt hl hd hq
 have d34:(c == 34)=false:=beq_eq_false_iff_ne.mpr hq
 have L:=letter_same c
 have D:=digit_same c
 rw [hl] at L
 rw [hd] at D
 have HL:=Aside0.mk L
 have HD:=Aside0.mk D
 have SG:∀ w',Scan w' g s i → Calls Tryz.prog 103 #[.pointer (some ⟨g,0,none⟩)] w' fun e w2=>e = .returned (.int .i64 0) ∧ Below w'.heap.size w' w2:=fun w' h=>by
  have q:=tokens_sign.calls g s i w' h hs hi
  rw [hn] at q;exact q
 have HSG:=Aside0.mk SG
 have z1:(i < s.size)=True:=eq_true hi
 have HNE:=Aside0.mk (show g ≠ w.heap.size from fun h=>by have:=hS.lt;omega)
 clear hB hS hc hl hd L D SG hn hq
 show Calls Tryz.prog 79 #[.pointer (some ⟨g,0,none⟩)] w (fun e w_=>e = .returned (.tuple #[.agg #[.int .u8 0,.string ⟨#[]⟩,.int .i64 0,.int .i64 0],.int .i64 i,.int .i64 140]) ∧ Below w.heap.size w w_)
 go_enter Tryz.func79,Tryz.ntmps79
 go_wp2_with (fail)
 go_quiet (fail)
 go_wp2_with (first | (go_at_call 97;(with_reducible refine (HL.out _).mono ?_);rintro e_ w_ ⟨rfl,rfl⟩) | (go_at_call 100;(with_reducible refine (HD.out _).mono ?_);rintro e_ w_ ⟨rfl,rfl⟩) | (go_at_call 103;(with_reducible refine (HSG.out _ ?side).mono ?_);(case side=>exact ⟨(HS.out.keep (HB.out _)).blk⟩);rintro e_ w1 ⟨rfl,hb⟩;obtain ⟨hk,hb2⟩:=after_new hb;have HB1:=Aside0.mk hb2;have q0:=blk_cell hk 0;have q1:=blk_cell hk 1;have q2:=blk_cell hk 2;have q3:=blk_cell hk 3;have k0:=blk_frozen hk 0;have k1:=blk_frozen hk 1;have k2:=blk_frozen hk 2;have k3:=blk_frozen hk 3;have HK:=Aside0.mk hk;have p0:=(HS.out.keep hb2).c0;have p1:=(HS.out.keep hb2).c1;have g1:=HNE.out;have j0:=blk_frozen (HS.out.keep hb2).blk 0;have j1:=blk_frozen (HS.out.keep hb2).blk 1;clear hb hb2 hk))
 go_region
 go_wp2_with (fail)
 have R:=four_set HK.out (.int .u8 0) (.string ⟨#[]⟩) (.int .i64 0) (.int .i64 0)
 have e0:=blk_cell R 0
 have e1:=blk_cell R 1
 have e2:=blk_cell R 2
 have e3:=blk_cell R 3
 refine bodyPost_ret (v:=.tuple #[.agg #[.int .u8 0,.string ⟨#[]⟩,.int .i64 0,.int .i64 0],.int .i64 i,.int .i64 140]) ?_ rfl ⟨rfl,?_⟩
 ·simp [results,Tryz.results79,go_sem,e0,e1,e2,e3]
 ·repeat (first | apply below_set' | exact pw_below_drewN HB1.out _ | apply below_drew1 | exact HB1.out)
def nextS (s:ByteArray) (i:Nat):StrR :=
 if isLetter (bt s (i:Int))=true then (⟨1,s.extract i (whileS isName s i),i,(whileS isName s i:Nat)⟩,0,0)
 else if isDigit (bt s (i:Int))=true then (numberS s i,0,0)
 else if bt s (i:Int)=34 then (strRun s i (strMu s (.plain (i + 1) []) + 1) (.plain (i + 1) [])).getD (strErr i 140)
 else if 0 < signS s i then (⟨6,s.extract i (i + (signS s i).toNat),i,(i:Int) + signS s i⟩,0,0)
 else strErr i 140
theorem twoNm_size (k:Nat) (h:k < 8):(twoNm k).size=2:=by
 match k,h with
 | 0,_=>rfl
 | 1,_=>rfl
 | 2,_=>rfl
 | 3,_=>rfl
 | 4,_=>rfl
 | 5,_=>rfl
 | 6,_=>rfl
 | 7,_=>rfl
theorem hasTwo_size (x:ByteArray):∀ d k,d + k=8 → hasTwo x d k=true → 2 ≤ x.size:=by
 intro d
 induction d with
 | zero=>intro k _ h;exact absurd h (by simp [hasTwo])
 | succ d ih =>
  intro k hk h
  unfold hasTwo at h
  rw [Bool.or_eq_true] at h
  rcases h with h | h
  ·unfold hasPre at h
   rw [Bool.and_eq_true,decide_eq_true_eq,twoNm_size k (by omega)] at h
   exact h.1
  ·exact ih (k + 1) (by omega) h
theorem hasTwo_room (s:ByteArray) (i:Nat) (hi:i < s.size) (h:hasTwo (s.extract i s.size) 8 0=true):i + 2 ≤ s.size:=by
 have:=hasTwo_size _ 8 0 rfl h
 simp [ByteArray.size_extract] at this
 omega
theorem signS_cases (s:ByteArray) (i:Nat) (hi:i < s.size):signS s i=0 ∨ (∃ n:Nat,signS s i=n ∧ 0 < n ∧ i + n ≤ s.size):=by
 unfold signS
 split
 case isTrue h =>
  refine .inr ⟨2,rfl,by omega,?_⟩
  exact hasTwo_room s i hi h
 case isFalse =>
  split
  ·exact .inr ⟨1,rfl,by omega,by omega⟩
  ·exact .inl rfl
theorem tokens_next_all.calls (g:Nat) (s:ByteArray) (i:Nat) (w:World) (hS:Scan w g s i) (hs:s.size ≤ 65536) (hi:i < s.size) :
  Calls Tryz.prog 79 #[.pointer (some ⟨g,0,none⟩)] w (StrPost w (nextS s i)):=by
 unfold nextS
 split
 case isTrue hl=>exact tokens_next_name.calls g s i w hS hs hi hl
 case isFalse hl =>
  split
  case isTrue hd=>exact tokens_next_number.calls g s i w hS hs hi hd
  case isFalse hd =>
   split
   case isTrue hq =>
    obtain ⟨r,hr,hg⟩:=strRun_ok s i hi (strMu s (.plain (i + 1) []) + 1) (.plain (i + 1) []) (Nat.lt_succ_self _) (by simp only [StrInv];omega)
    rw [hr]
    exact tokens_next_text.calls g s i w hS hs hi hq r _ hr
   case isFalse hq =>
    have hl':isLetter (bt s i)=false:=by simpa using hl
    have hd':isDigit (bt s i)=false:=by simpa using hd
    rcases signS_cases s i hi with h | ⟨n,h,h0,h1⟩
    ·rw [if_neg (by omega)]
     exact tokens_next_none.calls g s i w hS hs hi hl' hd' hq h
    ·rw [if_pos (by omega),h,Int.toNat_natCast]
     exact tokens_next_sign.calls g s i w hS hs hi hl' hd' hq n h h0 h1
end Go.Proofs.YtjapfefiaijfcaaGreatDoor.Q
