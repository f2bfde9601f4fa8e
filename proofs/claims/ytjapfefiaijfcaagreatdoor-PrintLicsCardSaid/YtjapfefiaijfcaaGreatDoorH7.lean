/- The contract of the scanner's number, at every text and place. -/
import Derived.StillTailTactics
import Derived.Test.YtjapfefiaijfcaaGreatDoorH5
namespace Go.Proofs.YtjapfefiaijfcaaGreatDoor.Q
open Go.RowKit Go.Proofs.YtjapfefiaijfcaaGreatDoorW.PrintWords Go.Proofs.YtjapfefiaijfcaaGreatDoorW.PrintLast Go.Proofs.YtjapfefiaijfcaaGreatDoorW.PrintMore
set_option linter.unusedVariables false
def cut (s:ByteArray) (i j:Nat):ByteArray:=s.extract i j
def ofText:ByteArray:=⟨#[45,111,102]⟩
def isOf (s:ByteArray) (e:Nat):Bool:=decide (e + 3 ≤ s.size) && (bt s e == 45 && bt s ((e + 1:Nat):Int) == 111 && bt s ((e + 2:Nat):Int) == 102) && (decide (s.size ≤ e + 3) || !isName (bt s ((e + 3:Nat):Int)))
def isDec (s:ByteArray) (e:Nat):Bool:=decide (e + 1 < s.size) && bt s e == 46 && isDigit (bt s ((e + 1:Nat):Int))
def numberS (s:ByteArray) (i:Nat):S70 :=
 let e:=whileS isDigit s i
 if isDec s e=true then ⟨3,s.extract i (whileS isDigit s (e + 1)),i,(whileS isDigit s (e + 1):Nat)⟩
 else if isOf s e=true then ⟨5,s.extract i e,i,(e:Int) + 3⟩
 else ⟨2,s.extract i e,i,e⟩
theorem whileFrom_le (p:Int → Bool) (s:ByteArray) (d:Nat):∀ i,i + d ≤ s.size → i ≤ whileFrom p s d i ∧ whileFrom p s d i ≤ i + d:=by
 induction d with
 | zero=>intro i _;exact ⟨Nat.le_refl _,Nat.le_refl _⟩
 | succ d ih =>
  intro i hi
  simp only [whileFrom]
  split
  ·have:=ih (i + 1) (by omega);omega
  ·omega
theorem whileS_le (p:Int → Bool) (s:ByteArray) (i:Nat) (h:i ≤ s.size):i ≤ whileS p s i ∧ whileS p s i ≤ s.size:=by
 have:=whileFrom_le p s (s.size - i) i (by omega)
 unfold whileS;omega
theorem extract_getElem (s:ByteArray) (e k:Nat) (he:e ≤ s.size):∀ h:k < (s.extract e s.size).size,(((s.extract e s.size)[k]'h).toNat:Int)=bt s ((e + k:Nat):Int):=by
 intro h
 have hz:(s.extract e s.size).size=s.size - e:=by simp [ByteArray.size_extract]
 rw [hz] at h
 have:=bt_atN' s (e + k) (by omega)
 rw [← this,ByteArray.getElem_extract]
def preOf (s:ByteArray) (e:Nat):Bool:=decide (e + 3 ≤ s.size) && (bt s e == 45 && bt s ((e + 1:Nat):Int) == 111 && bt s ((e + 2:Nat):Int) == 102)
theorem bt_get (s:ByteArray) (k:Nat) (h:k < s.size):s[k]=UInt8.ofNat (bt s (k:Int)).toNat:=by
 apply UInt8.toNat_inj.mp
 have:=bt_atN' s k h
 have r:=bt_range s (k:Int)
 rw [UInt8.toNat_ofNat']
 omega
theorem bt_cut (s:ByteArray) (i e j:Nat) (he:e ≤ s.size) (hj:i + j < e):bt (s.extract i e) (j:Int)=bt s ((i + j:Nat):Int):=by
 have hsz:(s.extract i e).size=e - i:=by simp [ByteArray.size_extract];omega
 unfold bt
 simp only [Int.toNat_natCast]
 rw [dif_pos (by rw [hsz];omega),dif_pos (by omega)]
 rw [ByteArray.getElem_extract]
theorem bytes3 (A:ByteArray) (h:A.size=3):A.toList=[UInt8.ofNat (bt A ((0:Nat):Int)).toNat,UInt8.ofNat (bt A ((1:Nat):Int)).toNat,UInt8.ofNat (bt A ((2:Nat):Int)).toNat]:=by
 rw [ByteArray.toList_eq,← bt_get A 0 (by omega),← bt_get A 1 (by omega),← bt_get A 2 (by omega)]
 apply List.ext_getElem
 ·rw [data_length];exact h
 ·intro j h1 h2
  have hj:j < 3:=h2
  match j,hj with
  | 0,_=>rfl
  | 1,_=>rfl
  | 2,_=>rfl
theorem byte_inj {a b:Int} (ha:0 ≤ a) (ha2:a ≤ 255) (hb:0 ≤ b) (hb2:b ≤ 255) (h:UInt8.ofNat a.toNat=UInt8.ofNat b.toNat):a=b:=by
 have:=congrArg UInt8.toNat h
 rw [UInt8.toNat_ofNat',UInt8.toNat_ofNat'] at this
 omega
theorem three_eq (s:ByteArray) (e:Nat) (h:e + 3 ≤ s.size):((s.extract e s.size).extract 0 3).toList=ofText.toList ↔ (bt s e=45 ∧ bt s ((e + 1:Nat):Int)=111 ∧ bt s ((e + 2:Nat):Int)=102):=by
 have hz:(s.extract e s.size).size=s.size - e:=by simp [ByteArray.size_extract]
 have hz3:((s.extract e s.size).extract 0 3).size=3:=by rw [ByteArray.size_extract,hz];omega
 have hb:∀ j:Nat,j < 3 → bt ((s.extract e s.size).extract 0 3) (j:Int)=bt s ((e + j:Nat):Int):=by
  intro j hj
  rw [bt_cut _ 0 3 j (by omega) (by omega),Nat.zero_add,bt_cut s e s.size j (Nat.le_refl _) (by omega)]
 rw [bytes3 _ hz3,bytes3 ofText rfl,hb 0 (by omega),hb 1 (by omega),hb 2 (by omega)]
 rw [show bt ofText ((0:Nat):Int)=45 from rfl,show bt ofText ((1:Nat):Int)=111 from rfl,show bt ofText ((2:Nat):Int)=102 from rfl,Nat.add_zero]
 have r0:=bt_range s (e:Int)
 have r1:=bt_range s ((e + 1:Nat):Int)
 have r2:=bt_range s ((e + 2:Nat):Int)
 constructor
 ·intro q
  injection q with q0 q'
  injection q' with q1 q'
  injection q' with q2 _
  exact ⟨byte_inj r0.1 r0.2 (by omega) (by omega) q0,byte_inj r1.1 r1.2 (by omega) (by omega) q1,byte_inj r2.1 r2.2 (by omega) (by omega) q2⟩
 ·rintro ⟨q0,q1,q2⟩
  rw [q0,q1,q2]
theorem cut_of (s:ByteArray) (e:Nat) (he:e ≤ s.size) (hs:s.size ≤ 65536):strings_CutPrefix.f (s.extract e s.size) ofText=some (if preOf s e=true then s.extract (e + 3) s.size else s.extract e s.size,preOf s e):=by
 have hz:(s.extract e s.size).size=s.size - e:=by simp [ByteArray.size_extract]
 have ho:ofText.size=3:=rfl
 unfold strings_CutPrefix.f stringslite_CutPrefix.f stringslite_HasPrefix.f
 by_cases h:e + 3 ≤ s.size
 ·rw [if_pos (by omega),if_pos (by omega),if_pos (by omega)]
  have t:=three_eq s e h
  rw [show ((ofText.size:Int):Int).toNat=3 from rfl]
  have hp:preOf s e=(((s.extract e s.size).extract 0 3).toList == ofText.toList):=by
   unfold preOf
   rw [decide_eq_true h,Bool.true_and,Bool.eq_iff_iff,beq_iff_eq,t]
   simp [and_assoc]
  rw [← hp]
  simp only [Option.bind_some]
  cases preOf s e
  ·simp
  ·rw [if_pos rfl,if_pos (by omega),if_pos (by omega),if_pos rfl,hz]
   simp only [Option.bind_some]
   congr 2
   apply ByteArray.ext
   simp only [ByteArray.data_extract]
   rw [Array.extract_extract]
   congr 1
   omega
 ·rw [if_neg (by omega)]
  have hp:preOf s e=false:=by unfold preOf;rw [decide_eq_false h];rfl
  simp [hp]
theorem toks_nil {r:ByteArray} (h:r.size=0):r.toList=([]:List UInt8):=by
 have e:r=ByteArray.empty:=by simpa using h
 rw [e,ByteArray.toList_eq];rfl
theorem toks_ne {r:ByteArray} (h:0 < r.size):r.toList ≠ ([]:List UInt8):=by
 intro e
 rw [ByteArray.toList_eq] at e
 have e':r.data.toList.length=0:=by rw [e];rfl
 rw [data_length] at e'
 omega
theorem letter_some (c:Int):tokens_letter.f c=some (isLetter c):=by
 unfold tokens_letter.f isLetter
 by_cases h1:97 ≤ c
 ·rw [if_pos h1,decide_eq_true h1]
  by_cases h2:c ≤ 122
  ·rw [if_pos h2,decide_eq_true h2];rfl
  ·rw [if_neg h2,decide_eq_false h2,if_pos (by omega),if_neg (by omega),decide_eq_true (by omega:65 ≤ c),decide_eq_false (by omega:¬ c ≤ 90)];rfl
 ·rw [if_neg h1,decide_eq_false h1]
  by_cases h3:65 ≤ c
  ·rw [if_pos h3,decide_eq_true h3]
   by_cases h4:c ≤ 90
   ·rw [if_pos h4,decide_eq_true h4];rfl
   ·rw [if_neg h4,decide_eq_false h4];rfl
  ·rw [if_neg h3,decide_eq_false h3];rfl
theorem below_set' {w W:World} {j:Nat} {v:Value} (h:Below w.heap.size w W):Below w.heap.size w (W.setCell ⟨w.heap.size,j,none⟩ v):=h.setCell (Nat.le_refl _) _
theorem still_tail {P:Program} {id:Nat} {Q:Exit → Act → World → Prop} {a:Act} {w:World} {l:List Oper} (n:Nat) (hm:P.follows .mixedOrders=true) (hB:Region.lexTailB .any l.toArray n=true)
  (h:wpStill P l.toArray w.drew (fun a'=>wpList P l.toArray Q (l.drop n) a' w.drew) (l.take n) a):(Code.region id l.toArray true).wp P Q a w:=wp_region_still_tail n hm hB h
set_option maxHeartbeats 8000000 in
set_option maxRecDepth 100000 in
theorem tokens_number.calls (g:Nat) (s:ByteArray) (i:Nat) (w:World) (hS:Scan w g s i) (hs:s.size ≤ 65536) (hi:i ≤ s.size) :
  Calls Tryz.prog 101 #[.pointer (some ⟨g,0,none⟩)] w fun e w'=>e = .returned (.agg #[.int .u8 (numberS s i).f0,.string (numberS s i).f1,.int .i64 (numberS s i).f2,.int .i64 (numberS s i).f3]) ∧ Below w.heap.size w w':=by
 have HS:=Aside0.mk hS
 have hB:∀ o:Obj,Below w.heap.size w (w.alloc o):=fun o=>(Below.refl _ _).alloc (Nat.le_refl _) o
 have h0:∀ o:Obj,(w.alloc o).cell? ⟨g,0,none⟩=some (.string s):=fun o=>(hS.keep (hB o)).c0
 have h1:∀ o:Obj,(w.alloc o).cell? ⟨g,1,none⟩=some (.int .i64 i):=fun o=>(hS.keep (hB o)).c1
 have HB:=Aside0.mk hB
 clear hB
 obtain ⟨e,he⟩:∃ e,e=whileS isDigit s i:=⟨_,rfl⟩
 have hle:=whileS_le isDigit s i hi
 rw [← he] at hle
 obtain ⟨hle1,hle2⟩:=hle
 have HE:=Aside0.mk he
 obtain ⟨t,ht⟩:∃ t,t=numberS s i:=⟨_,rfl⟩
 rw [← ht]
 have HT:Aside0 (t=if isDec s e=true then ⟨3,s.extract i (whileS isDigit s (e + 1)),i,(whileS isDigit s (e + 1):Nat)⟩ else if isOf s e=true then ⟨5,s.extract i e,i,(e:Int) + 3⟩ else ⟨2,s.extract i e,i,e⟩):=⟨by rw [ht,he];rfl⟩
 clear hS he ht
 have hx0:=extract_getElem s e 0 hle2
 have hx1:=extract_getElem s e 1 hle2
 rw [Nat.add_zero] at hx0
 obtain ⟨c0,hc0⟩:∃ c,c=bt s (e:Int):=⟨_,rfl⟩
 obtain ⟨c1,hc1⟩:∃ c,c=bt s ((e + 1:Nat):Int):=⟨_,rfl⟩
 rw [← hc0] at hx0
 rw [← hc1] at hx1
 have D1:=Aside0.mk (digit_same c1)
 cases hdec:isDec s e with
 | true =>
  have hdec':=hdec
  unfold isDec at hdec'
  rw [← hc0,← hc1] at hdec'
  simp only [Bool.and_eq_true,decide_eq_true_eq,beq_iff_eq] at hdec'
  obtain ⟨⟨q1,q2⟩,q3⟩:=hdec'
  have d1:decide (1 < ((s.size - e:Nat):Int))=true:=decide_eq_true (by omega)
  have d1':((1:Int) < ((s.size - e:Nat):Int))=True:=eq_true (by omega)
  have d2:(0 < s.size - e)=True:=eq_true (by omega)
  have d2':(1 < s.size - e)=True:=eq_true (by omega)
  have d3:(c0 == 46)=true:=beq_iff_eq.mpr q2
  rw [q3] at D1
  obtain ⟨e2,he2⟩:∃ e2,e2=whileS isDigit s (e + 1):=⟨_,rfl⟩
  have hle3:=whileS_le isDigit s (e + 1) (by omega)
  rw [← he2] at hle3
  obtain ⟨hle3,hle4⟩:=hle3
  have HE2:=Aside0.mk he2
  have HT2:Aside0 (t=⟨3,s.extract i e2,i,e2⟩):=⟨by rw [HT.out,if_pos hdec,he2]⟩
  have z1:(i ≤ e2)=True:=eq_true (by omega)
  have z2:(e2 ≤ s.size)=True:=eq_true hle4
  have z3:((i:Int) ≤ (e2:Int))=True:=eq_true (by omega)
  have z4:((e2:Int) ≤ (s.size:Int))=True:=eq_true (by omega)
  have W2:∀ w1,Scan w1 g s i → Calls Tryz.prog 98 #[.pointer (some ⟨g,0,none⟩),.int .i64 ((e:Int) + 1),.func (.func 100) #[] #[]] w1 fun e' w'=>e' = .returned (.int .i64 (e2:Nat)) ∧ w1=w':=fun w1 h=>by
   have q:=tokens_while_digit.calls g s i (e + 1) w1 h (by omega) (by omega)
   rw [← he2] at q;exact q
  have HW2:=Aside0.mk W2
  clear HT hdec he2 q1 q2 q3 hc0 hc1 W2
  go_enter Tryz.func101,Tryz.ntmps101
  go_wp2_with (first | (go_at_call 98;(with_reducible refine (tokens_while_digit.calls g s i i _ ?side (by omega) hi).mono ?_);(case side=>exact HS.out.keep ((Below.refl _ _).alloc (Nat.le_refl _) _));rintro e_ w_ ⟨rfl,rfl⟩;try rw [← HE.out]) | (go_at_call 98;(with_reducible refine (HW2.out _ ?side).mono ?_);(case side=>exact HS.out.keep ((Below.refl _ _).alloc (Nat.le_refl _) _));rintro e_ w_ ⟨rfl,rfl⟩) | (go_at_call 100;(with_reducible refine (D1.out _).mono ?_);rintro e_ w_ ⟨rfl,rfl⟩))
  refine still_tail 16 (by kernel_rfl) (by kernel_rfl) ?_
  simp only [List.take_succ_cons,List.take_zero,List.drop_succ_cons,List.drop_zero]
  repeat still_step
  try refine wpStill_nil ?_
  go_wp2
  refine bodyPost_ret (v:=.agg #[.int .u8 t.f0,.string t.f1,.int .i64 t.f2,.int .i64 t.f3]) (by rw [HT2.out];simp [results,Tryz.results101,go_sem]) rfl ⟨rfl,?_⟩
  repeat (first | apply below_set' | apply pw_below_drewN | apply below_drew1 | exact HB.out _ | (refine Below.alloc ?_ (Nat.le_refl _) _) | exact Below.refl _ _)
 | false =>
  have HT1:Aside0 (t=if isOf s e=true then ⟨5,s.extract i e,i,(e:Int) + 3⟩ else ⟨2,s.extract i e,i,e⟩):=⟨by rw [HT.out,if_neg (by rw [hdec];simp)]⟩
  have z1:(i ≤ e)=True:=eq_true hle1
  have z2:(e ≤ s.size)=True:=eq_true hle2
  have z3:((i:Int) ≤ (e:Int))=True:=eq_true (by omega)
  have z4:((e:Int) ≤ (s.size:Int))=True:=eq_true (by omega)
  have hdec':=hdec
  unfold isDec at hdec'
  rw [← hc0,← hc1] at hdec'
  clear HT hdec hc0 hc1
  by_cases q1:e + 1 < s.size
  ·have d1:decide (1 < ((s.size - e:Nat):Int))=true:=decide_eq_true (by omega)
   have d1':((1:Int) < ((s.size - e:Nat):Int))=True:=eq_true (by omega)
   have d2:(0 < s.size - e)=True:=eq_true (by omega)
   have d2':(1 < s.size - e)=True:=eq_true (by omega)
   by_cases q2:c0=46
   ·have d3:(c0 == 46)=true:=beq_iff_eq.mpr q2
    have q3:isDigit c1=false:=by rw [decide_eq_true q1,d3] at hdec';simpa using hdec'
    rw [q3] at D1
    clear q1 q2 q3 hdec'
    obtain ⟨r,b,hr,hb,CPF⟩:∃ (r:ByteArray) (b:Bool),r=(if preOf s e=true then s.extract (e + 3) s.size else s.extract e s.size) ∧ b=preOf s e ∧ Aside0 (strings_CutPrefix.f (s.extract e s.size) (⟨#[45,111,102]⟩:ByteArray)=some (r,b)):=⟨_,_,rfl,rfl,⟨cut_of s e hle2 hs⟩⟩
    cases hpre:preOf s e with
    | false =>
     rw [hpre] at hb
     subst hb
     have HOF:isOf s e=false:=by unfold isOf;unfold preOf at hpre;rw [hpre];rfl
     clear hr hpre
     have HT2:Aside0 (t=⟨2,s.extract i e,i,e⟩):=⟨by rw [HT1.out];first | rw [if_pos HOF] | rw [if_neg (by rw [HOF];simp)]⟩
     clear HT1 HOF
     go_enter Tryz.func101,Tryz.ntmps101
     go_wp2_with (first | (go_at_call 98;(with_reducible refine (tokens_while_digit.calls g s i i _ ?side (by omega) hi).mono ?_);(case side=>exact HS.out.keep ((Below.refl _ _).alloc (Nat.le_refl _) _));rintro e_ w_ ⟨rfl,rfl⟩;try rw [← HE.out]) | (go_at_call 121;(with_reducible refine (strings_CutPrefix.calls (s.extract e s.size) (⟨#[45,111,102]⟩:ByteArray) r false _ CPF.out).mono ?_);rintro e_ w_ ⟨rfl,⟨nd,rfl⟩⟩) | (go_at_call 100;(with_reducible refine (D1.out _).mono ?_);rintro e_ w_ ⟨rfl,rfl⟩))
     refine still_tail 16 (by kernel_rfl) (by kernel_rfl) ?_
     simp only [List.take_succ_cons,List.take_zero,List.drop_succ_cons,List.drop_zero]
     repeat still_step
     try refine wpStill_nil ?_
     go_wp2
     refine bodyPost_ret (v:=.agg #[.int .u8 t.f0,.string t.f1,.int .i64 t.f2,.int .i64 t.f3]) (by rw [HT2.out];simp [results,Tryz.results101,go_sem]) rfl ⟨rfl,?_⟩
     repeat (first | apply below_set' | apply pw_below_drewN | apply below_drew1 | exact HB.out _ | (refine Below.alloc ?_ (Nat.le_refl _) _) | exact Below.refl _ _)
    | true =>
     rw [hpre] at hb
     subst hb
     rw [hpre,if_pos rfl] at hr
     have hle5:e + 3 ≤ s.size:=by unfold preOf at hpre;simp only [Bool.and_eq_true,decide_eq_true_eq] at hpre;exact hpre.1
     have hz:r.size=s.size - (e + 3):=by rw [hr];simp [ByteArray.size_extract]
     by_cases hend:s.size ≤ e + 3
     ·have e0:r.toList=[]:=toks_nil (by omega)
      have e1:r.toList.isEmpty=true:=by rw [e0];rfl
      have e2:(r.toList == ([]:List UInt8))=true:=by rw [e0];rfl
      have HOF:isOf s e=true:=by unfold isOf;unfold preOf at hpre;rw [hpre,decide_eq_true hend];rfl
      clear hr hpre hz hend
      have HT2:Aside0 (t=⟨5,s.extract i e,i,(e:Int) + 3⟩):=⟨by rw [HT1.out];first | rw [if_pos HOF] | rw [if_neg (by rw [HOF];simp)]⟩
      clear HT1 HOF
      go_enter Tryz.func101,Tryz.ntmps101
      go_wp2_with (first | (go_at_call 98;(with_reducible refine (tokens_while_digit.calls g s i i _ ?side (by omega) hi).mono ?_);(case side=>exact HS.out.keep ((Below.refl _ _).alloc (Nat.le_refl _) _));rintro e_ w_ ⟨rfl,rfl⟩;try rw [← HE.out]) | (go_at_call 121;(with_reducible refine (strings_CutPrefix.calls (s.extract e s.size) (⟨#[45,111,102]⟩:ByteArray) r true _ CPF.out).mono ?_);rintro e_ w_ ⟨rfl,⟨nd,rfl⟩⟩) | (go_at_call 100;(with_reducible refine (D1.out _).mono ?_);rintro e_ w_ ⟨rfl,rfl⟩))
      refine still_tail 17 (by kernel_rfl) (by kernel_rfl) ?_
      simp only [List.take_succ_cons,List.take_zero,List.drop_succ_cons,List.drop_zero]
      repeat still_step
      try refine wpStill_nil ?_
      go_wp2
      refine bodyPost_ret (v:=.agg #[.int .u8 t.f0,.string t.f1,.int .i64 t.f2,.int .i64 t.f3]) (by rw [HT2.out];simp [results,Tryz.results101,go_sem]) rfl ⟨rfl,?_⟩
      repeat (first | apply below_set' | apply pw_below_drewN | apply below_drew1 | exact HB.out _ | (refine Below.alloc ?_ (Nat.le_refl _) _) | exact Below.refl _ _)
     ·have e0:r.toList ≠ []:=toks_ne (by omega)
      have e1:r.toList.isEmpty=false:=by simpa using e0
      have e2:(r.toList == ([]:List UInt8))=false:=beq_eq_false_iff_ne.mpr e0
      have hx3:∀ h:0 < r.size,((r[0]'h).toNat:Int)=bt s ((e + 3:Nat):Int):=by
       subst hr
       intro h
       have q:=extract_getElem s (e + 3) 0 hle5 h
       exact q
      have hlt:(0 < r.size)=True:=eq_true (by omega)
      obtain ⟨c3,hc3⟩:∃ c,c=bt s ((e + 3:Nat):Int):=⟨_,rfl⟩
      rw [← hc3] at hx3
      have L3:=Aside0.mk (letter_some c3)
      have D3:=Aside0.mk (digit_same c3)
      have hof:isOf s e = !isName c3:=by unfold isOf;unfold preOf at hpre;rw [hpre,decide_eq_false hend,← hc3];rfl
      clear hr hpre hz hend e0 hc3
      cases hl:isLetter c3 with
      | true =>
       rw [hl] at L3
       have HOF:isOf s e=false:=by rw [hof];unfold isName;rw [hl];rfl
       clear hof hl
       have HT2:Aside0 (t=⟨2,s.extract i e,i,e⟩):=⟨by rw [HT1.out];first | rw [if_pos HOF] | rw [if_neg (by rw [HOF];simp)]⟩
       clear HT1 HOF
       go_enter Tryz.func101,Tryz.ntmps101
       go_wp2_with (first | (go_at_call 98;(with_reducible refine (tokens_while_digit.calls g s i i _ ?side (by omega) hi).mono ?_);(case side=>exact HS.out.keep ((Below.refl _ _).alloc (Nat.le_refl _) _));rintro e_ w_ ⟨rfl,rfl⟩;try rw [← HE.out]) | (go_at_call 121;(with_reducible refine (strings_CutPrefix.calls (s.extract e s.size) (⟨#[45,111,102]⟩:ByteArray) r true _ CPF.out).mono ?_);rintro e_ w_ ⟨rfl,⟨nd,rfl⟩⟩) | (go_at_call 97;(with_reducible refine (tokens_letter.calls c3 true _ L3.out).mono ?_);rintro e_ w_ ⟨rfl,⟨nd2,rfl⟩⟩) | (go_at_call 100;(with_reducible refine (D1.out _).mono ?_);rintro e_ w_ ⟨rfl,rfl⟩))
       refine still_tail 16 (by kernel_rfl) (by kernel_rfl) ?_
       simp only [List.take_succ_cons,List.take_zero,List.drop_succ_cons,List.drop_zero]
       repeat still_step
       try refine wpStill_nil ?_
       go_wp2
       refine bodyPost_ret (v:=.agg #[.int .u8 t.f0,.string t.f1,.int .i64 t.f2,.int .i64 t.f3]) (by rw [HT2.out];simp [results,Tryz.results101,go_sem]) rfl ⟨rfl,?_⟩
       repeat (first | apply below_set' | apply pw_below_drewN | apply below_drew1 | exact HB.out _ | (refine Below.alloc ?_ (Nat.le_refl _) _) | exact Below.refl _ _)
      | false =>
       rw [hl] at L3
       cases hd:isDigit c3 with
       | true =>
        rw [hd] at D3
        have HOF:isOf s e=false:=by rw [hof];unfold isName;rw [hl,hd];rfl
        clear hof hl hd
        have HT2:Aside0 (t=⟨2,s.extract i e,i,e⟩):=⟨by rw [HT1.out];first | rw [if_pos HOF] | rw [if_neg (by rw [HOF];simp)]⟩
        clear HT1 HOF
        go_enter Tryz.func101,Tryz.ntmps101
        go_wp2_with (first | (go_at_call 98;(with_reducible refine (tokens_while_digit.calls g s i i _ ?side (by omega) hi).mono ?_);(case side=>exact HS.out.keep ((Below.refl _ _).alloc (Nat.le_refl _) _));rintro e_ w_ ⟨rfl,rfl⟩;try rw [← HE.out]) | (go_at_call 121;(with_reducible refine (strings_CutPrefix.calls (s.extract e s.size) (⟨#[45,111,102]⟩:ByteArray) r true _ CPF.out).mono ?_);rintro e_ w_ ⟨rfl,⟨nd,rfl⟩⟩) | (go_at_call 97;(with_reducible refine (tokens_letter.calls c3 false _ L3.out).mono ?_);rintro e_ w_ ⟨rfl,⟨nd2,rfl⟩⟩) | (go_at_call 100;(with_reducible refine (D1.out _).mono ?_);rintro e_ w_ ⟨rfl,rfl⟩) | (go_at_call 100;(with_reducible refine (D3.out _).mono ?_);rintro e_ w_ ⟨rfl,rfl⟩))
        refine still_tail 16 (by kernel_rfl) (by kernel_rfl) ?_
        simp only [List.take_succ_cons,List.take_zero,List.drop_succ_cons,List.drop_zero]
        repeat still_step
        try refine wpStill_nil ?_
        go_wp2
        refine bodyPost_ret (v:=.agg #[.int .u8 t.f0,.string t.f1,.int .i64 t.f2,.int .i64 t.f3]) (by rw [HT2.out];simp [results,Tryz.results101,go_sem]) rfl ⟨rfl,?_⟩
        repeat (first | apply below_set' | apply pw_below_drewN | apply below_drew1 | exact HB.out _ | (refine Below.alloc ?_ (Nat.le_refl _) _) | exact Below.refl _ _)
       | false =>
        rw [hd] at D3
        have HOF:isOf s e=true:=by rw [hof];unfold isName;rw [hl,hd];rfl
        clear hof hl hd
        have HT2:Aside0 (t=⟨5,s.extract i e,i,(e:Int) + 3⟩):=⟨by rw [HT1.out];first | rw [if_pos HOF] | rw [if_neg (by rw [HOF];simp)]⟩
        clear HT1 HOF
        go_enter Tryz.func101,Tryz.ntmps101
        go_wp2_with (first | (go_at_call 98;(with_reducible refine (tokens_while_digit.calls g s i i _ ?side (by omega) hi).mono ?_);(case side=>exact HS.out.keep ((Below.refl _ _).alloc (Nat.le_refl _) _));rintro e_ w_ ⟨rfl,rfl⟩;try rw [← HE.out]) | (go_at_call 121;(with_reducible refine (strings_CutPrefix.calls (s.extract e s.size) (⟨#[45,111,102]⟩:ByteArray) r true _ CPF.out).mono ?_);rintro e_ w_ ⟨rfl,⟨nd,rfl⟩⟩) | (go_at_call 97;(with_reducible refine (tokens_letter.calls c3 false _ L3.out).mono ?_);rintro e_ w_ ⟨rfl,⟨nd2,rfl⟩⟩) | (go_at_call 100;(with_reducible refine (D1.out _).mono ?_);rintro e_ w_ ⟨rfl,rfl⟩) | (go_at_call 100;(with_reducible refine (D3.out _).mono ?_);rintro e_ w_ ⟨rfl,rfl⟩))
        refine still_tail 17 (by kernel_rfl) (by kernel_rfl) ?_
        simp only [List.take_succ_cons,List.take_zero,List.drop_succ_cons,List.drop_zero]
        repeat still_step
        try refine wpStill_nil ?_
        go_wp2
        refine bodyPost_ret (v:=.agg #[.int .u8 t.f0,.string t.f1,.int .i64 t.f2,.int .i64 t.f3]) (by rw [HT2.out];simp [results,Tryz.results101,go_sem]) rfl ⟨rfl,?_⟩
        repeat (first | apply below_set' | apply pw_below_drewN | apply below_drew1 | exact HB.out _ | (refine Below.alloc ?_ (Nat.le_refl _) _) | exact Below.refl _ _)
   ·have d3:(c0 == 46)=false:=beq_eq_false_iff_ne.mpr q2
    clear q1 q2 hdec'
    obtain ⟨r,b,hr,hb,CPF⟩:∃ (r:ByteArray) (b:Bool),r=(if preOf s e=true then s.extract (e + 3) s.size else s.extract e s.size) ∧ b=preOf s e ∧ Aside0 (strings_CutPrefix.f (s.extract e s.size) (⟨#[45,111,102]⟩:ByteArray)=some (r,b)):=⟨_,_,rfl,rfl,⟨cut_of s e hle2 hs⟩⟩
    cases hpre:preOf s e with
    | false =>
     rw [hpre] at hb
     subst hb
     have HOF:isOf s e=false:=by unfold isOf;unfold preOf at hpre;rw [hpre];rfl
     clear hr hpre
     have HT2:Aside0 (t=⟨2,s.extract i e,i,e⟩):=⟨by rw [HT1.out];first | rw [if_pos HOF] | rw [if_neg (by rw [HOF];simp)]⟩
     clear HT1 HOF
     go_enter Tryz.func101,Tryz.ntmps101
     go_wp2_with (first | (go_at_call 98;(with_reducible refine (tokens_while_digit.calls g s i i _ ?side (by omega) hi).mono ?_);(case side=>exact HS.out.keep ((Below.refl _ _).alloc (Nat.le_refl _) _));rintro e_ w_ ⟨rfl,rfl⟩;try rw [← HE.out]) | (go_at_call 121;(with_reducible refine (strings_CutPrefix.calls (s.extract e s.size) (⟨#[45,111,102]⟩:ByteArray) r false _ CPF.out).mono ?_);rintro e_ w_ ⟨rfl,⟨nd,rfl⟩⟩))
     refine still_tail 16 (by kernel_rfl) (by kernel_rfl) ?_
     simp only [List.take_succ_cons,List.take_zero,List.drop_succ_cons,List.drop_zero]
     repeat still_step
     try refine wpStill_nil ?_
     go_wp2
     refine bodyPost_ret (v:=.agg #[.int .u8 t.f0,.string t.f1,.int .i64 t.f2,.int .i64 t.f3]) (by rw [HT2.out];simp [results,Tryz.results101,go_sem]) rfl ⟨rfl,?_⟩
     repeat (first | apply below_set' | apply pw_below_drewN | apply below_drew1 | exact HB.out _ | (refine Below.alloc ?_ (Nat.le_refl _) _) | exact Below.refl _ _)
    | true =>
     rw [hpre] at hb
     subst hb
     rw [hpre,if_pos rfl] at hr
     have hle5:e + 3 ≤ s.size:=by unfold preOf at hpre;simp only [Bool.and_eq_true,decide_eq_true_eq] at hpre;exact hpre.1
     have hz:r.size=s.size - (e + 3):=by rw [hr];simp [ByteArray.size_extract]
     by_cases hend:s.size ≤ e + 3
     ·have e0:r.toList=[]:=toks_nil (by omega)
      have e1:r.toList.isEmpty=true:=by rw [e0];rfl
      have e2:(r.toList == ([]:List UInt8))=true:=by rw [e0];rfl
      have HOF:isOf s e=true:=by unfold isOf;unfold preOf at hpre;rw [hpre,decide_eq_true hend];rfl
      clear hr hpre hz hend
      have HT2:Aside0 (t=⟨5,s.extract i e,i,(e:Int) + 3⟩):=⟨by rw [HT1.out];first | rw [if_pos HOF] | rw [if_neg (by rw [HOF];simp)]⟩
      clear HT1 HOF
      go_enter Tryz.func101,Tryz.ntmps101
      go_wp2_with (first | (go_at_call 98;(with_reducible refine (tokens_while_digit.calls g s i i _ ?side (by omega) hi).mono ?_);(case side=>exact HS.out.keep ((Below.refl _ _).alloc (Nat.le_refl _) _));rintro e_ w_ ⟨rfl,rfl⟩;try rw [← HE.out]) | (go_at_call 121;(with_reducible refine (strings_CutPrefix.calls (s.extract e s.size) (⟨#[45,111,102]⟩:ByteArray) r true _ CPF.out).mono ?_);rintro e_ w_ ⟨rfl,⟨nd,rfl⟩⟩))
      refine still_tail 17 (by kernel_rfl) (by kernel_rfl) ?_
      simp only [List.take_succ_cons,List.take_zero,List.drop_succ_cons,List.drop_zero]
      repeat still_step
      try refine wpStill_nil ?_
      go_wp2
      refine bodyPost_ret (v:=.agg #[.int .u8 t.f0,.string t.f1,.int .i64 t.f2,.int .i64 t.f3]) (by rw [HT2.out];simp [results,Tryz.results101,go_sem]) rfl ⟨rfl,?_⟩
      repeat (first | apply below_set' | apply pw_below_drewN | apply below_drew1 | exact HB.out _ | (refine Below.alloc ?_ (Nat.le_refl _) _) | exact Below.refl _ _)
     ·have e0:r.toList ≠ []:=toks_ne (by omega)
      have e1:r.toList.isEmpty=false:=by simpa using e0
      have e2:(r.toList == ([]:List UInt8))=false:=beq_eq_false_iff_ne.mpr e0
      have hx3:∀ h:0 < r.size,((r[0]'h).toNat:Int)=bt s ((e + 3:Nat):Int):=by
       subst hr
       intro h
       have q:=extract_getElem s (e + 3) 0 hle5 h
       exact q
      have hlt:(0 < r.size)=True:=eq_true (by omega)
      obtain ⟨c3,hc3⟩:∃ c,c=bt s ((e + 3:Nat):Int):=⟨_,rfl⟩
      rw [← hc3] at hx3
      have L3:=Aside0.mk (letter_some c3)
      have D3:=Aside0.mk (digit_same c3)
      have hof:isOf s e = !isName c3:=by unfold isOf;unfold preOf at hpre;rw [hpre,decide_eq_false hend,← hc3];rfl
      clear hr hpre hz hend e0 hc3
      cases hl:isLetter c3 with
      | true =>
       rw [hl] at L3
       have HOF:isOf s e=false:=by rw [hof];unfold isName;rw [hl];rfl
       clear hof hl
       have HT2:Aside0 (t=⟨2,s.extract i e,i,e⟩):=⟨by rw [HT1.out];first | rw [if_pos HOF] | rw [if_neg (by rw [HOF];simp)]⟩
       clear HT1 HOF
       go_enter Tryz.func101,Tryz.ntmps101
       go_wp2_with (first | (go_at_call 98;(with_reducible refine (tokens_while_digit.calls g s i i _ ?side (by omega) hi).mono ?_);(case side=>exact HS.out.keep ((Below.refl _ _).alloc (Nat.le_refl _) _));rintro e_ w_ ⟨rfl,rfl⟩;try rw [← HE.out]) | (go_at_call 121;(with_reducible refine (strings_CutPrefix.calls (s.extract e s.size) (⟨#[45,111,102]⟩:ByteArray) r true _ CPF.out).mono ?_);rintro e_ w_ ⟨rfl,⟨nd,rfl⟩⟩) | (go_at_call 97;(with_reducible refine (tokens_letter.calls c3 true _ L3.out).mono ?_);rintro e_ w_ ⟨rfl,⟨nd2,rfl⟩⟩))
       refine still_tail 16 (by kernel_rfl) (by kernel_rfl) ?_
       simp only [List.take_succ_cons,List.take_zero,List.drop_succ_cons,List.drop_zero]
       repeat still_step
       try refine wpStill_nil ?_
       go_wp2
       refine bodyPost_ret (v:=.agg #[.int .u8 t.f0,.string t.f1,.int .i64 t.f2,.int .i64 t.f3]) (by rw [HT2.out];simp [results,Tryz.results101,go_sem]) rfl ⟨rfl,?_⟩
       repeat (first | apply below_set' | apply pw_below_drewN | apply below_drew1 | exact HB.out _ | (refine Below.alloc ?_ (Nat.le_refl _) _) | exact Below.refl _ _)
      | false =>
       rw [hl] at L3
       cases hd:isDigit c3 with
       | true =>
        rw [hd] at D3
        have HOF:isOf s e=false:=by rw [hof];unfold isName;rw [hl,hd];rfl
        clear hof hl hd
        have HT2:Aside0 (t=⟨2,s.extract i e,i,e⟩):=⟨by rw [HT1.out];first | rw [if_pos HOF] | rw [if_neg (by rw [HOF];simp)]⟩
        clear HT1 HOF
        go_enter Tryz.func101,Tryz.ntmps101
        go_wp2_with (first | (go_at_call 98;(with_reducible refine (tokens_while_digit.calls g s i i _ ?side (by omega) hi).mono ?_);(case side=>exact HS.out.keep ((Below.refl _ _).alloc (Nat.le_refl _) _));rintro e_ w_ ⟨rfl,rfl⟩;try rw [← HE.out]) | (go_at_call 121;(with_reducible refine (strings_CutPrefix.calls (s.extract e s.size) (⟨#[45,111,102]⟩:ByteArray) r true _ CPF.out).mono ?_);rintro e_ w_ ⟨rfl,⟨nd,rfl⟩⟩) | (go_at_call 97;(with_reducible refine (tokens_letter.calls c3 false _ L3.out).mono ?_);rintro e_ w_ ⟨rfl,⟨nd2,rfl⟩⟩) | (go_at_call 100;(with_reducible refine (D3.out _).mono ?_);rintro e_ w_ ⟨rfl,rfl⟩))
        refine still_tail 16 (by kernel_rfl) (by kernel_rfl) ?_
        simp only [List.take_succ_cons,List.take_zero,List.drop_succ_cons,List.drop_zero]
        repeat still_step
        try refine wpStill_nil ?_
        go_wp2
        refine bodyPost_ret (v:=.agg #[.int .u8 t.f0,.string t.f1,.int .i64 t.f2,.int .i64 t.f3]) (by rw [HT2.out];simp [results,Tryz.results101,go_sem]) rfl ⟨rfl,?_⟩
        repeat (first | apply below_set' | apply pw_below_drewN | apply below_drew1 | exact HB.out _ | (refine Below.alloc ?_ (Nat.le_refl _) _) | exact Below.refl _ _)
       | false =>
        rw [hd] at D3
        have HOF:isOf s e=true:=by rw [hof];unfold isName;rw [hl,hd];rfl
        clear hof hl hd
        have HT2:Aside0 (t=⟨5,s.extract i e,i,(e:Int) + 3⟩):=⟨by rw [HT1.out];first | rw [if_pos HOF] | rw [if_neg (by rw [HOF];simp)]⟩
        clear HT1 HOF
        go_enter Tryz.func101,Tryz.ntmps101
        go_wp2_with (first | (go_at_call 98;(with_reducible refine (tokens_while_digit.calls g s i i _ ?side (by omega) hi).mono ?_);(case side=>exact HS.out.keep ((Below.refl _ _).alloc (Nat.le_refl _) _));rintro e_ w_ ⟨rfl,rfl⟩;try rw [← HE.out]) | (go_at_call 121;(with_reducible refine (strings_CutPrefix.calls (s.extract e s.size) (⟨#[45,111,102]⟩:ByteArray) r true _ CPF.out).mono ?_);rintro e_ w_ ⟨rfl,⟨nd,rfl⟩⟩) | (go_at_call 97;(with_reducible refine (tokens_letter.calls c3 false _ L3.out).mono ?_);rintro e_ w_ ⟨rfl,⟨nd2,rfl⟩⟩) | (go_at_call 100;(with_reducible refine (D3.out _).mono ?_);rintro e_ w_ ⟨rfl,rfl⟩))
        refine still_tail 17 (by kernel_rfl) (by kernel_rfl) ?_
        simp only [List.take_succ_cons,List.take_zero,List.drop_succ_cons,List.drop_zero]
        repeat still_step
        try refine wpStill_nil ?_
        go_wp2
        refine bodyPost_ret (v:=.agg #[.int .u8 t.f0,.string t.f1,.int .i64 t.f2,.int .i64 t.f3]) (by rw [HT2.out];simp [results,Tryz.results101,go_sem]) rfl ⟨rfl,?_⟩
        repeat (first | apply below_set' | apply pw_below_drewN | apply below_drew1 | exact HB.out _ | (refine Below.alloc ?_ (Nat.le_refl _) _) | exact Below.refl _ _)
  ·have d1:decide (1 < ((s.size - e:Nat):Int))=false:=decide_eq_false (by omega)
   have d1':((1:Int) < ((s.size - e:Nat):Int))=False:=eq_false (by omega)
   clear q1 hdec'
   obtain ⟨r,b,hr,hb,CPF⟩:∃ (r:ByteArray) (b:Bool),r=(if preOf s e=true then s.extract (e + 3) s.size else s.extract e s.size) ∧ b=preOf s e ∧ Aside0 (strings_CutPrefix.f (s.extract e s.size) (⟨#[45,111,102]⟩:ByteArray)=some (r,b)):=⟨_,_,rfl,rfl,⟨cut_of s e hle2 hs⟩⟩
   cases hpre:preOf s e with
   | false =>
    rw [hpre] at hb
    subst hb
    have HOF:isOf s e=false:=by unfold isOf;unfold preOf at hpre;rw [hpre];rfl
    clear hr hpre
    have HT2:Aside0 (t=⟨2,s.extract i e,i,e⟩):=⟨by rw [HT1.out];first | rw [if_pos HOF] | rw [if_neg (by rw [HOF];simp)]⟩
    clear HT1 HOF
    go_enter Tryz.func101,Tryz.ntmps101
    go_wp2_with (first | (go_at_call 98;(with_reducible refine (tokens_while_digit.calls g s i i _ ?side (by omega) hi).mono ?_);(case side=>exact HS.out.keep ((Below.refl _ _).alloc (Nat.le_refl _) _));rintro e_ w_ ⟨rfl,rfl⟩;try rw [← HE.out]) | (go_at_call 121;(with_reducible refine (strings_CutPrefix.calls (s.extract e s.size) (⟨#[45,111,102]⟩:ByteArray) r false _ CPF.out).mono ?_);rintro e_ w_ ⟨rfl,⟨nd,rfl⟩⟩))
    refine still_tail 16 (by kernel_rfl) (by kernel_rfl) ?_
    simp only [List.take_succ_cons,List.take_zero,List.drop_succ_cons,List.drop_zero]
    repeat still_step
    try refine wpStill_nil ?_
    go_wp2
    refine bodyPost_ret (v:=.agg #[.int .u8 t.f0,.string t.f1,.int .i64 t.f2,.int .i64 t.f3]) (by rw [HT2.out];simp [results,Tryz.results101,go_sem]) rfl ⟨rfl,?_⟩
    repeat (first | apply below_set' | apply pw_below_drewN | apply below_drew1 | exact HB.out _ | (refine Below.alloc ?_ (Nat.le_refl _) _) | exact Below.refl _ _)
   | true =>
    rw [hpre] at hb
    subst hb
    rw [hpre,if_pos rfl] at hr
    have hle5:e + 3 ≤ s.size:=by unfold preOf at hpre;simp only [Bool.and_eq_true,decide_eq_true_eq] at hpre;exact hpre.1
    have hz:r.size=s.size - (e + 3):=by rw [hr];simp [ByteArray.size_extract]
    by_cases hend:s.size ≤ e + 3
    ·have e0:r.toList=[]:=toks_nil (by omega)
     have e1:r.toList.isEmpty=true:=by rw [e0];rfl
     have e2:(r.toList == ([]:List UInt8))=true:=by rw [e0];rfl
     have HOF:isOf s e=true:=by unfold isOf;unfold preOf at hpre;rw [hpre,decide_eq_true hend];rfl
     clear hr hpre hz hend
     have HT2:Aside0 (t=⟨5,s.extract i e,i,(e:Int) + 3⟩):=⟨by rw [HT1.out];first | rw [if_pos HOF] | rw [if_neg (by rw [HOF];simp)]⟩
     clear HT1 HOF
     go_enter Tryz.func101,Tryz.ntmps101
     go_wp2_with (first | (go_at_call 98;(with_reducible refine (tokens_while_digit.calls g s i i _ ?side (by omega) hi).mono ?_);(case side=>exact HS.out.keep ((Below.refl _ _).alloc (Nat.le_refl _) _));rintro e_ w_ ⟨rfl,rfl⟩;try rw [← HE.out]) | (go_at_call 121;(with_reducible refine (strings_CutPrefix.calls (s.extract e s.size) (⟨#[45,111,102]⟩:ByteArray) r true _ CPF.out).mono ?_);rintro e_ w_ ⟨rfl,⟨nd,rfl⟩⟩))
     refine still_tail 17 (by kernel_rfl) (by kernel_rfl) ?_
     simp only [List.take_succ_cons,List.take_zero,List.drop_succ_cons,List.drop_zero]
     repeat still_step
     try refine wpStill_nil ?_
     go_wp2
     refine bodyPost_ret (v:=.agg #[.int .u8 t.f0,.string t.f1,.int .i64 t.f2,.int .i64 t.f3]) (by rw [HT2.out];simp [results,Tryz.results101,go_sem]) rfl ⟨rfl,?_⟩
     repeat (first | apply below_set' | apply pw_below_drewN | apply below_drew1 | exact HB.out _ | (refine Below.alloc ?_ (Nat.le_refl _) _) | exact Below.refl _ _)
    ·have e0:r.toList ≠ []:=toks_ne (by omega)
     have e1:r.toList.isEmpty=false:=by simpa using e0
     have e2:(r.toList == ([]:List UInt8))=false:=beq_eq_false_iff_ne.mpr e0
     have hx3:∀ h:0 < r.size,((r[0]'h).toNat:Int)=bt s ((e + 3:Nat):Int):=by
      subst hr
      intro h
      have q:=extract_getElem s (e + 3) 0 hle5 h
      exact q
     have hlt:(0 < r.size)=True:=eq_true (by omega)
     obtain ⟨c3,hc3⟩:∃ c,c=bt s ((e + 3:Nat):Int):=⟨_,rfl⟩
     rw [← hc3] at hx3
     have L3:=Aside0.mk (letter_some c3)
     have D3:=Aside0.mk (digit_same c3)
     have hof:isOf s e = !isName c3:=by unfold isOf;unfold preOf at hpre;rw [hpre,decide_eq_false hend,← hc3];rfl
     clear hr hpre hz hend e0 hc3
     cases hl:isLetter c3 with
     | true =>
      rw [hl] at L3
      have HOF:isOf s e=false:=by rw [hof];unfold isName;rw [hl];rfl
      clear hof hl
      have HT2:Aside0 (t=⟨2,s.extract i e,i,e⟩):=⟨by rw [HT1.out];first | rw [if_pos HOF] | rw [if_neg (by rw [HOF];simp)]⟩
      clear HT1 HOF
      go_enter Tryz.func101,Tryz.ntmps101
      go_wp2_with (first | (go_at_call 98;(with_reducible refine (tokens_while_digit.calls g s i i _ ?side (by omega) hi).mono ?_);(case side=>exact HS.out.keep ((Below.refl _ _).alloc (Nat.le_refl _) _));rintro e_ w_ ⟨rfl,rfl⟩;try rw [← HE.out]) | (go_at_call 121;(with_reducible refine (strings_CutPrefix.calls (s.extract e s.size) (⟨#[45,111,102]⟩:ByteArray) r true _ CPF.out).mono ?_);rintro e_ w_ ⟨rfl,⟨nd,rfl⟩⟩) | (go_at_call 97;(with_reducible refine (tokens_letter.calls c3 true _ L3.out).mono ?_);rintro e_ w_ ⟨rfl,⟨nd2,rfl⟩⟩))
      refine still_tail 16 (by kernel_rfl) (by kernel_rfl) ?_
      simp only [List.take_succ_cons,List.take_zero,List.drop_succ_cons,List.drop_zero]
      repeat still_step
      try refine wpStill_nil ?_
      go_wp2
      refine bodyPost_ret (v:=.agg #[.int .u8 t.f0,.string t.f1,.int .i64 t.f2,.int .i64 t.f3]) (by rw [HT2.out];simp [results,Tryz.results101,go_sem]) rfl ⟨rfl,?_⟩
      repeat (first | apply below_set' | apply pw_below_drewN | apply below_drew1 | exact HB.out _ | (refine Below.alloc ?_ (Nat.le_refl _) _) | exact Below.refl _ _)
     | false =>
      rw [hl] at L3
      cases hd:isDigit c3 with
      | true =>
       rw [hd] at D3
       have HOF:isOf s e=false:=by rw [hof];unfold isName;rw [hl,hd];rfl
       clear hof hl hd
       have HT2:Aside0 (t=⟨2,s.extract i e,i,e⟩):=⟨by rw [HT1.out];first | rw [if_pos HOF] | rw [if_neg (by rw [HOF];simp)]⟩
       clear HT1 HOF
       go_enter Tryz.func101,Tryz.ntmps101
       go_wp2_with (first | (go_at_call 98;(with_reducible refine (tokens_while_digit.calls g s i i _ ?side (by omega) hi).mono ?_);(case side=>exact HS.out.keep ((Below.refl _ _).alloc (Nat.le_refl _) _));rintro e_ w_ ⟨rfl,rfl⟩;try rw [← HE.out]) | (go_at_call 121;(with_reducible refine (strings_CutPrefix.calls (s.extract e s.size) (⟨#[45,111,102]⟩:ByteArray) r true _ CPF.out).mono ?_);rintro e_ w_ ⟨rfl,⟨nd,rfl⟩⟩) | (go_at_call 97;(with_reducible refine (tokens_letter.calls c3 false _ L3.out).mono ?_);rintro e_ w_ ⟨rfl,⟨nd2,rfl⟩⟩) | (go_at_call 100;(with_reducible refine (D3.out _).mono ?_);rintro e_ w_ ⟨rfl,rfl⟩))
       refine still_tail 16 (by kernel_rfl) (by kernel_rfl) ?_
       simp only [List.take_succ_cons,List.take_zero,List.drop_succ_cons,List.drop_zero]
       repeat still_step
       try refine wpStill_nil ?_
       go_wp2
       refine bodyPost_ret (v:=.agg #[.int .u8 t.f0,.string t.f1,.int .i64 t.f2,.int .i64 t.f3]) (by rw [HT2.out];simp [results,Tryz.results101,go_sem]) rfl ⟨rfl,?_⟩
       repeat (first | apply below_set' | apply pw_below_drewN | apply below_drew1 | exact HB.out _ | (refine Below.alloc ?_ (Nat.le_refl _) _) | exact Below.refl _ _)
      | false =>
       rw [hd] at D3
       have HOF:isOf s e=true:=by rw [hof];unfold isName;rw [hl,hd];rfl
       clear hof hl hd
       have HT2:Aside0 (t=⟨5,s.extract i e,i,(e:Int) + 3⟩):=⟨by rw [HT1.out];first | rw [if_pos HOF] | rw [if_neg (by rw [HOF];simp)]⟩
       clear HT1 HOF
       go_enter Tryz.func101,Tryz.ntmps101
       go_wp2_with (first | (go_at_call 98;(with_reducible refine (tokens_while_digit.calls g s i i _ ?side (by omega) hi).mono ?_);(case side=>exact HS.out.keep ((Below.refl _ _).alloc (Nat.le_refl _) _));rintro e_ w_ ⟨rfl,rfl⟩;try rw [← HE.out]) | (go_at_call 121;(with_reducible refine (strings_CutPrefix.calls (s.extract e s.size) (⟨#[45,111,102]⟩:ByteArray) r true _ CPF.out).mono ?_);rintro e_ w_ ⟨rfl,⟨nd,rfl⟩⟩) | (go_at_call 97;(with_reducible refine (tokens_letter.calls c3 false _ L3.out).mono ?_);rintro e_ w_ ⟨rfl,⟨nd2,rfl⟩⟩) | (go_at_call 100;(with_reducible refine (D3.out _).mono ?_);rintro e_ w_ ⟨rfl,rfl⟩))
       refine still_tail 17 (by kernel_rfl) (by kernel_rfl) ?_
       simp only [List.take_succ_cons,List.take_zero,List.drop_succ_cons,List.drop_zero]
       repeat still_step
       try refine wpStill_nil ?_
       go_wp2
       refine bodyPost_ret (v:=.agg #[.int .u8 t.f0,.string t.f1,.int .i64 t.f2,.int .i64 t.f3]) (by rw [HT2.out];simp [results,Tryz.results101,go_sem]) rfl ⟨rfl,?_⟩
       repeat (first | apply below_set' | apply pw_below_drewN | apply below_drew1 | exact HB.out _ | (refine Below.alloc ?_ (Nat.le_refl _) _) | exact Below.refl _ _)
end Go.Proofs.YtjapfefiaijfcaaGreatDoor.Q
