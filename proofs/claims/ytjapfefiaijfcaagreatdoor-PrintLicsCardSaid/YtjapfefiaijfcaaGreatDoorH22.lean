/- The scanner's each, of any text: an iterator that yields tokens, and may be stopped. The reference's tokens: wherever the program's scanner finds a string, a count or a sign, the reference finds the same. -/
import Derived.RangeFuncNested
import Derived.RangeFuncBound
import Derived.RangeFuncCalls
import Derived.RangeFuncLeaves
import Derived.Shelf.Abstract
import Derived.Shelf.RegionOpen
import Derived.WalkKit
import Derived.OwnWalkIn
import Derived.TacticsInMore
import Derived.LoopNIn
import Derived.LoopIn
import Derived.Lib.IndexLaws
import Derived.Test.YtjapfefiaijfcaaGreatDoorH15
import Derived.Test.YtjapfefiaijfcaaGreatDoorH17
import Derived.Test.YtjapfefiaijfcaaGreatDoorH18
import Derived.Test.YtjapfefiaijfcaaGreatDoorH19
namespace Go.Proofs.YtjapfefiaijfcaaGreatDoor.Q
open Go.RowKit Go.Proofs.YtjapfefiaijfcaaGreatDoorW.PrintWords Go.Proofs.YtjapfefiaijfcaaGreatDoorW.PrintLast Go.Proofs.YtjapfefiaijfcaaGreatDoorW.PrintMore
set_option linter.unusedVariables false
attribute [local go_sem] Oper.semAt_some
def NextIs (s:ByteArray) (j:Nat) (r:StrR):Prop:=∀ (g:Nat) (w:World),Scan w g s j →
 Calls Tryz.prog 79 #[.pointer (some ⟨g,0,none⟩)] w fun e w'=>e = .returned (.tuple #[.agg #[.int .u8 r.1.f0,.string r.1.f1,.int .i64 r.1.f2,.int .i64 r.1.f3],.int .i64 r.2.1,.int .i64 r.2.2]) ∧ Below w.heap.size w w'
inductive ToksX (s:ByteArray):Nat → List S70 → Option Nat → Prop
 | nil (i j:Nat):SkipTo s i j → s.size ≤ j → ToksX s i [] none
 | stop (i j:Nat):SkipTo s i j → j < s.size → ToksX s i [] (some j)
 | cons (i j e:Nat) (t:S70) (xs:List S70) (st:Option Nat):SkipTo s i j → j < s.size → nextS s j=(t,0,0) → t.f3=(e:Int) → j < e → e ≤ s.size → ToksX s e xs st → ToksX s i (t :: xs) st
def AtTokX (s:ByteArray) (j:Nat) (ys:List S70) (st:Option Nat):Prop:=(ys=[] ∧ st=none ∧ s.size ≤ j) ∨ (ys=[] ∧ st=some j ∧ j < s.size) ∨ ∃ (e:Nat) (t:S70) (zs:List S70),ys=t :: zs ∧ j < s.size ∧ nextS s j=(t,0,0) ∧ t.f3=(e:Int) ∧ j < e ∧ e ≤ s.size ∧ ToksX s e zs st
theorem toksX_skip {s:ByteArray} {i:Nat} {ys:List S70} {st:Option Nat} (hi:i ≤ s.size) (h:ToksX s i ys st):∃ j,SkipTo s i j ∧ i ≤ j ∧ j ≤ s.size ∧ AtTokX s j ys st:=by
 have le:∀ j,SkipTo s i j → i ≤ j ∧ j ≤ s.size:=fun j h=>skipTo_le h hi
 cases h with
 | nil _ j h1 h2=>exact ⟨j,h1,(le j h1).1,(le j h1).2,.inl ⟨rfl,rfl,h2⟩⟩
 | stop _ j h1 h2=>exact ⟨j,h1,(le j h1).1,(le j h1).2,.inr (.inl ⟨rfl,rfl,h2⟩)⟩
 | cons _ j e t zs _ h1 h2 h3 h4 h5 h6 h7=>exact ⟨j,h1,(le j h1).1,(le j h1).2,.inr (.inr ⟨e,t,zs,rfl,h2,h3,h4,h5,h6,h7⟩)⟩
theorem nextOK_of {s:ByteArray} {j:Nat} {t:S70} (hs:s.size ≤ 65536) (hj:j < s.size) (h:nextS s j=(t,0,0)):NextOK s j t:=fun g w hS=>by
 have q:=tokens_next_all.calls g s j w hS hs hj
 rw [h] at q
 exact q
set_option maxHeartbeats 8000000 in
set_option maxRecDepth 100000 in
theorem tokens_each1_any (n l g bx:Nat) (s:ByteArray) (hs:s.size ≤ 65536) (xs:List S70) (st:Option Nat) (hT:ToksX s 0 xs st) (J:List S70 → World → Prop) (Jx:World → Prop) (hne:bx ≠ g)
  (hJ:∀ pre W W',J pre W → Only g W W' → J pre W')
  (hY:∀ (pre:List S70) (x:S70) (W:World) (o:Obj),J pre W → pre ++ [x] <+: xs → YieldAt Fence.wide (n - 1) Tryz.prog l #[.agg #[.int .u8 x.f0,.string x.f1,.int .i64 x.f2,.int .i64 x.f3],.agg #[.int .i64 0,.int .i64 0]] (W.alloc o) fun e W' =>
   e = .returned (.bool true) ∧ J (pre ++ [x]) W' ∧ (∀ k b,(W.alloc o).heap[k]? = some b → k=g ∨ k=bx ∨ k=W.heap.size → W'.heap[k]? = some b))
  (hZ:∀ (j:Nat) (W:World) (o:Obj),st=some j → J xs W → Scan W g s j → W.heap[bx]? = some (.cells #[.pointer (some ⟨g,0,none⟩)] 118 (0,0)) → YieldAt Fence.wide (n - 1) Tryz.prog l #[.agg #[.int .u8 (nextS s j).1.f0,.string (nextS s j).1.f1,.int .i64 (nextS s j).1.f2,.int .i64 (nextS s j).1.f3],.agg #[.int .i64 (nextS s j).2.1,.int .i64 (nextS s j).2.2]] (W.alloc o) fun e W' =>
   e = .returned (.bool false) ∧ Jx W')
  (W0:World) (hS:Scan W0 g s 0) (hbx:W0.heap[bx]? = some (.cells #[.pointer (some ⟨g,0,none⟩)] 118 (0,0))) (h0:J [] W0) :
  CallsIn Fence.wide n Tryz.prog 77 #[.func (.yield l) #[] #[],.pointer (some ⟨bx,0,none⟩)] W0 fun e W'=>(∃ v,e = .returned v) ∧ ((st=none ∧ J xs W') ∨ ((∃ j,st=some j) ∧ Jx W')):=by
 refine callsIn_of_wp Tryz.func77 rfl trivial ?_ rfl
 simp only [Tryz.ntmps77,List.size_toArray,List.length_cons,List.length_nil,Nat.reduceAdd,Nat.reduceSub,Array.replicate_succ,Array.replicate_zero,List.push_toArray,List.append_toArray,List.nil_append,List.cons_append]
 have HS:=Aside0.mk hS
 have HBX:=Aside0.mk hbx
 have b0:=blk_cell hbx 0
 have HJ:=Aside0.mk hJ
 have HY:=Aside0.mk hY
 have HZ:=Aside0.mk hZ
 have HT:=Aside0.mk hT
 have H0:=Aside0.mk h0
 clear hS hbx hJ hY hZ hT h0
 obtain ⟨j0,hj0,-,hj02,hA0⟩:=toksX_skip (Nat.zero_le _) HT.out
 have HJ0:=Aside0.mk hj0
 have HA0:=Aside0.mk hA0
 clear hj0 hA0
 gi_wp2_with (first | (refine ⟨trivial,(fun h=>absurd h (by decide)),?_⟩;gi_at_call 78;refine (callsIn_wide.2 (tokens_skip_all.calls g s 0 j0 _ HS.out (by omega) (Nat.zero_le _) HJ0.out)).mono ?_;rintro e_ w1 ⟨rfl,hS1,hO1⟩;have HS1:=Aside0.mk hS1;have HO1:=Aside0.mk hO1;clear hS1 hO1))
 gi_loopw [] (fun wr=>∃ (pre ys:List S70) (j:Nat),pre ++ ys=xs ∧ j ≤ s.size ∧ AtTokX s j ys st ∧ Scan wr g s j ∧ wr.heap[bx]? = some (.cells #[.pointer (some ⟨g,0,none⟩)] 118 (0,0)) ∧ J pre wr) (fun wr=>s.size - scanAt wr g)
 case atStart=>exact ⟨[],xs,j0,rfl,hj02,HA0.out,HS1.out,HO1.out.blk HBX.out hne,HJ.out _ _ _ H0.out HO1.out⟩
 case round =>
  obtain ⟨pre,ys,j,hx,hj,hA,hS,hb,hj0⟩:=hrel
  have HX:=Aside0.mk hx
  have HA:=Aside0.mk hA
  have HSr:=Aside0.mk hS
  have HBr:=Aside0.mk hb
  have HJr:=Aside0.mk hj0
  have q0:=hS.c0
  have q1:=hS.c1
  have b0:=blk_cell hb 0
  clear hx hA hS hb hj0
  rcases HA.out with ⟨rfl,hst,hend⟩ | ⟨rfl,hst,hlt⟩ | ⟨e,t,zs,rfl,hlt,hNx,h3,hje,hes,hTz⟩
  ·have hlt':decide ((j:Int) < (s.size:Int))=false:=decide_eq_false (by omega)
   have hlt2:decide (j < s.size)=false:=decide_eq_false (by omega)
   have HST:=Aside0.mk hst
   clear hend hst
   gi_wp2_with (fail)
   refine wpIn_wide.2 ?_
   go_quiet (fail)
   gi_wp2_with (fail)
   go_end0
   exact ⟨⟨_,rfl⟩,.inl ⟨HST.out,by have q:=HX.out;rw [List.append_nil] at q;rw [← q];exact HJ.out _ _ _ HJr.out ((Only.refl g wr).drewN _)⟩⟩
  ·have hlt':decide ((j:Int) < (s.size:Int))=true:=decide_eq_true (by omega)
   have hlt2:decide (j < s.size)=true:=decide_eq_true hlt
   obtain ⟨r,hr⟩:∃ r,r=nextS s j:=⟨_,rfl⟩
   have hN:NextIs s j r:=fun g w hS=>by
    have q:=tokens_next_all.calls g s j w hS hs hlt
    rw [← hr] at q
    exact q
   have hz0:=fun W o=>HZ.out j W o hst
   rw [← hr] at hz0
   obtain ⟨⟨r0,r1,r2,r3⟩,rp,re⟩:=r
   have HN:=Aside0.mk hN
   have HZ0:=Aside0.mk hz0
   have HST:=Aside0.mk hst
   clear hr hN hz0 hst
   gi_wp2_with (fail)
   refine wpIn_wide.2 ?_
   go_quiet (fail)
   gi_wp2_with (first | (refine ⟨trivial,(fun h=>absurd h (by decide)),?_⟩;gi_at_call 79;refine (callsIn_wide.2 (HN.out g _ ?side)).mono ?_;(case side=>exact HSr.out.drewN _);rintro e_ w2 ⟨rfl,hb2⟩;obtain ⟨hs2,hbx2,hj2⟩:=each_keep HJ HSr HBr HJr hb2;obtain ⟨fn,tmps,assign,body,hy,hR⟩:=HZ0.out w2 (.cells #[.int .u8 r0,.string r1,.int .i64 r2,.int .i64 r3] 70) (by have q:=HX.out;rw [List.append_nil] at q;rw [← q];exact hj2) hs2 hbx2;have HR:=Aside0.mk hR;clear hb2 hs2 hbx2 hj2 hR))
   refine ⟨fun h=>absurd h (by decide),?_⟩
   refine HR.out.mono ?_
   rintro e_ w3 ⟨rfl,hj3⟩
   have HJ3:=Aside0.mk hj3
   clear hj3
   gi_wp2_with (fail)
   refine bodyPost_ret (v:=.tuple #[]) ?_ rfl ?_
   ·simp [results,Tryz.results77,go_sem]
   exact ⟨⟨_,rfl⟩,.inr ⟨⟨j,HST.out⟩,HJ3.out⟩⟩
  ·have hlt':decide ((j:Int) < (s.size:Int))=true:=decide_eq_true (by omega)
   have hlt2:decide (j < s.size)=true:=decide_eq_true hlt
   have hN:NextOK s j t:=nextOK_of hs hlt hNx
   have HN:=Aside0.mk hN
   have H3:=Aside0.mk h3
   have HTz:=Aside0.mk hTz
   clear hN hNx h3 hTz
   gi_wp2_with (fail)
   refine wpIn_wide.2 ?_
   go_quiet (fail)
   gi_wp2_with (first | (refine ⟨trivial,(fun h=>absurd h (by decide)),?_⟩;gi_at_call 79;refine (callsIn_wide.2 (HN.out g _ ?side)).mono ?_;(case side=>exact HSr.out.drewN _);rintro e_ w2 ⟨rfl,hb2⟩;obtain ⟨hs2,hbx2,hj2⟩:=each_keep HJ HSr HBr HJr hb2;obtain ⟨fn,tmps,assign,body,hy,hR⟩:=HY.out pre t w2 (.cells #[.int .u8 t.f0,.string t.f1,.int .i64 t.f2,.int .i64 t.f3] 70) hj2 (by rw [← HX.out];exact ⟨zs,by simp⟩);have HS2:=Aside0.mk hs2;have HBX2:=Aside0.mk hbx2;have HJ2:=Aside0.mk hj2;have HR:=Aside0.mk hR;clear hb2 hs2 hbx2 hj2 hR))
   refine ⟨fun h=>absurd h (by decide),?_⟩
   refine HR.out.mono ?_
   rintro e_ w3 ⟨rfl,hj3,hk3⟩
   have HJ3:=Aside0.mk hj3
   have hs3:Scan w3 g s j:=⟨hk3 g _ (blk_alloc HS2.out.blk _) (.inl rfl)⟩
   have hbx3:=hk3 bx _ (blk_alloc HBX2.out _) (.inr (.inl rfl))
   have ht3:=hk3 w2.heap.size _ (blk_new w2 _) (.inr (.inr rfl))
   have p0:=hs3.c0
   have p1:=hs3.c1
   have pf:=hs3.f1
   have pb:=blk_cell hbx3 0
   have pt:=blk_cell ht3 3
   rw [show (#[.int .u8 t.f0,.string t.f1,.int .i64 t.f2,.int .i64 t.f3]:Array Value)[3]? = some (.int .i64 t.f3) from rfl,H3.out] at pt
   have HS3:=Aside0.mk hs3
   have HBX3:=Aside0.mk hbx3
   clear hj3 hk3 hs3 hbx3 ht3
   obtain ⟨j4,hj4,hj41,hj42,hA4⟩:=toksX_skip hes HTz.out
   have HJ4:=Aside0.mk hj4
   have HA4:=Aside0.mk hA4
   have pb4:=blk_cell (Only.blk ((Only.refl g w3).set 1 (.int .i64 e)) HBX3.out hne) 0
   clear hj4 hA4
   gi_wp2_with (first | (refine ⟨trivial,(fun h=>absurd h (by decide)),?_⟩;gi_at_call 78;refine (callsIn_wide.2 (tokens_skip_all.calls g s e j4 _ (HS3.out.set _) (by omega) hes HJ4.out)).mono ?_;rintro e_ w4 ⟨rfl,hS4,hO4⟩;have HS4:=Aside0.mk hS4;have HO4:=Aside0.mk hO4;clear hS4 hO4))
   have o3:=(Only.refl g w3).set 1 (.int .i64 e)
   refine ⟨⟨pre ++ [t],zs,j4,by rw [← HX.out];simp,hj42,HA4.out,HS4.out,HO4.out.blk (o3.blk HBX3.out hne) hne,HJ.out _ _ _ HJ3.out (o3.trans HO4.out)⟩,?_⟩
   rw [HS4.out.at',HSr.out.at']
   omega
end Go.Proofs.YtjapfefiaijfcaaGreatDoor.Q
namespace Go.Proofs.YtjapfefiaijfcaaGreatDoor.Q
open Go.RowKit Go.Proofs.YtjapfefiaijfcaaGreatDoorW.PrintWords Go.Proofs.YtjapfefiaijfcaaGreatDoorW.PrintLast Go.Proofs.YtjapfefiaijfcaaGreatDoorW.PrintMore
set_option linter.unusedVariables false
def Ev {α:Type} (f:Nat → Option α) (r:α):Prop:=∃ K,∀ k,K ≤ k → f k=some r
theorem Ev.step {α:Type} {f g:Nat → Option α} {r:α} (h:Ev g r) (e:∀ k,f (k + 1)=g k):Ev f r:=by
 obtain ⟨K,hK⟩:=h
 refine ⟨K + 1,fun k hk=>?_⟩
 obtain ⟨k',rfl⟩:∃ k',k=k' + 1:=⟨k - 1,by omega⟩
 rw [e];exact hK k' (by omega)
theorem Ev.here {α:Type} {f:Nat → Option α} {r:α} (e:∀ k,f (k + 1)=some r):Ev f r:=Ev.step (g:=fun _=>some r) ⟨0,fun _ _=>rfl⟩ e
theorem Ev.same {α:Type} {f g:Nat → Option α} {r:α} (h:Ev g r) (e:∀ k,f k=g k):Ev f r:=by
 obtain ⟨K,hK⟩:=h
 exact ⟨K,fun k hk=>by rw [e];exact hK k hk⟩
theorem Ev.bind {α β:Type} {f:Nat → Option α} {g:Nat → α → Option β} {a:α} {b:β} (h:Ev f a) (h2:Ev (fun k=>g k a) b):Ev (fun k=>(f k).bind (g k)) b:=by
 obtain ⟨K,hK⟩:=h
 obtain ⟨L,hL⟩:=h2
 refine ⟨max K L,fun k hk=>?_⟩
 show (f k).bind (g k)=_
 rw [hK k (by omega)];exact hL k (by omega)
theorem w64 {i:Int} (h0:0 ≤ i) (h1:i ≤ 1000000):wrap64 i=i:=by unfold wrap64;omega
theorem ref_letter (c:Int):vouchref14_letter.f c=some (isLetter c):=by
 unfold vouchref14_letter.f isLetter
 by_cases h1:97 ≤ c <;> by_cases h2:c ≤ 122 <;> by_cases h3:65 ≤ c <;> by_cases h4:c ≤ 90 <;> simp [h1,h2,h3,h4] <;> omega
theorem ref_digit (c:Int):vouchref14_digit.f c=some (isDigit c):=by
 unfold vouchref14_digit.f isDigit
 by_cases h1:48 ≤ c <;> by_cases h2:c ≤ 57 <;> simp [h1,h2]
theorem ref_octal (c:Int):vouchref14_octal.f c=some (decide (48 ≤ c) && decide (c ≤ 55)):=by
 unfold vouchref14_octal.f
 by_cases h1:48 ≤ c <;> by_cases h2:c ≤ 55 <;> simp [h1,h2]
theorem ref_digits {s:ByteArray} (hs:s.size ≤ 65536):∀ (d i:Nat),i + d=s.size → Ev (fun k=>vouchref14_digits.l0 k s (i:Int)) ((whileS isDigit s i:Nat):Int):=by
 intro d
 induction d with
 | zero =>
  intro i h
  rw [whileS_end _ _ _ (by omega)]
  refine Ev.here fun k=>?_
  rw [vouchref14_digits.l0,if_neg (by omega)]
 | succ d ih =>
  intro i h
  rw [whileS_step _ _ _ (by omega)]
  by_cases hd:isDigit (bt s i)=true
  ·rw [if_pos hd]
   refine (ih (i + 1) (by omega)).step fun k=>?_
   rw [vouchref14_digits.l0,if_pos (by omega),if_pos (by omega),ref_digit]
   show (if isDigit (bt s i)=true then _ else _)=_
   rw [if_pos hd,w64 (by omega) (by omega)];rfl
  ·rw [if_neg hd]
   refine Ev.here fun k=>?_
   rw [vouchref14_digits.l0,if_pos (by omega),if_pos (by omega),ref_digit]
   show (if isDigit (bt s i)=true then _ else _)=_
   rw [if_neg hd]
theorem ref_remark {s:ByteArray} (hs:s.size ≤ 65536) {e:Nat} {r:Int} (he:e ≤ s.size) (hend:e=s.size ∨ bt s (e:Int)=10) (h:Ev (fun k=>vouchref14_blanks.l0 k s (e:Int)) r) :
  ∀ (d i:Nat),i + d=e → (∀ j,i ≤ j → j < e → bt s (j:Int) ≠ 10) → Ev (fun k=>vouchref14_blanks.l1 k s (i:Int)) r:=by
 intro d
 induction d with
 | zero =>
  intro i hd _
  obtain rfl:i=e:=by omega
  refine h.step fun k=>?_
  by_cases hi:i=s.size
  ·rw [vouchref14_blanks.l1,if_neg (by omega)]
  ·rw [vouchref14_blanks.l1,if_pos (by omega),if_pos (by omega),if_pos (hend.resolve_left hi)]
 | succ d ih =>
  intro i hd hn
  refine (ih (i + 1) (by omega) fun j h1 h2=>hn j (by omega) h2).step fun k=>?_
  rw [vouchref14_blanks.l1,if_pos (by omega),if_pos (by omega),if_neg (hn i (Nat.le_refl _) (by omega)),w64 (by omega) (by omega)];rfl
theorem extract_get? (s:ByteArray) (i k:Nat) (h:i + k < s.size):((s.extract i s.size).data.toList)[k]? = some (s[i + k]'h):=by
 have hz:(s.extract i s.size).size=s.size - i:=by simp [ByteArray.size_extract]
 have hk:k < (s.extract i s.size).size:=by omega
 have hk2:k < (s.extract i s.size).data.toList.length:=by simpa using hk
 rw [List.getElem?_eq_getElem hk2]
 congr 1
 rw [Array.getElem_toList]
 exact ByteArray.getElem_extract hk
theorem remS_facts (s:ByteArray) (i:Nat) (hi:i < s.size):i ≤ remS s i ∧ remS s i ≤ s.size ∧ (remS s i=s.size ∨ bt s (remS s i:Int)=10) ∧ ∀ j,i ≤ j → j < remS s i → bt s (j:Int) ≠ 10:=by
 have hz:(s.extract i s.size).size=s.size - i:=by simp [ByteArray.size_extract]
 have hl:(s.extract i s.size).data.toList.length=s.size - i:=by rw [← hz];simp
 have h10:(10:Int).toNat.toUInt8=10:=by decide
 have hbt:∀ j,i ≤ j → ∀ h:j < s.size,bt s (j:Int)=((s[j]'h).toNat:Int):=fun j _ h=>(bt_atN' s j h).symm
 unfold remS
 split
 case isTrue h0 =>
  obtain ⟨o,ho⟩:∃ o:Nat,Lib.indexByte (s.extract i s.size).data.toList (10:Int).toNat.toUInt8=o:=⟨(Lib.indexByte (s.extract i s.size).data.toList (10:Int).toNat.toUInt8).toNat,by omega⟩
  have h1:=Lib.indexByte_some ho
  rw [ho,Int.toNat_natCast]
  have hlt:o < (s.extract i s.size).data.toList.length:=by
   rcases Nat.lt_or_ge o (s.extract i s.size).data.toList.length with q | q
   ·exact q
   ·rw [List.getElem?_eq_none q] at h1;exact absurd h1.1 (by simp)
  refine ⟨by omega,by omega,.inr ?_,fun j h2 h3 e=>?_⟩
  ·have:=h1.1
   rw [extract_get? s i o (by omega)] at this
   rw [hbt (i + o) (by omega) (by omega),Option.some.inj this];decide
  ·have h4:=h1.2 (j - i) (by omega)
   rw [extract_get? s i (j - i) (by omega)] at h4
   apply h4
   rw [hbt j h2 (by omega)] at e
   congr 1
   have e2:i + (j - i)=j:=by omega
   simp only [e2]
   apply UInt8.toNat_inj.1
   show (s[j]).toNat=10
   omega
 case isFalse h0 =>
  have hge:=Lib.indexByte_ge (s.extract i s.size).data.toList (10:Int).toNat.toUInt8
  have h1:=Lib.indexByte_none (show Lib.indexByte (s.extract i s.size).data.toList (10:Int).toNat.toUInt8 = -1 by omega)
  refine ⟨by omega,Nat.le_refl _,.inl rfl,fun j h2 h3 e=>?_⟩
  have h4:=h1 (j - i)
  rw [extract_get? s i (j - i) (by omega)] at h4
  apply h4
  rw [hbt j h2 (by omega)] at e
  congr 1
  have e2:i + (j - i)=j:=by omega
  simp only [e2]
  apply UInt8.toNat_inj.1
  show (s[j]).toNat=10
  omega
theorem ref_blanks {s:ByteArray} (hs:s.size ≤ 65536) {i j:Nat} (h:SkipTo s i j):Ev (fun k=>vouchref14_blanks.l0 k s (i:Int)) (j:Int):=by
 induction h with
 | fin h1 =>
  refine Ev.here fun k=>?_
  rw [vouchref14_blanks.l0,if_neg (by omega)]
 | @rem i j h1 h2 _ ih =>
  obtain ⟨a,b,c,d⟩:=remS_facts s i h1
  refine (ref_remark hs b c ih (remS s i - i) i (by omega) d).step fun k=>?_
  rw [vouchref14_blanks.l0,if_pos (by omega),if_pos (by omega),if_pos h2]
 | @blk i j h1 h2 h3 _ ih =>
  refine ih.step fun k=>?_
  have hw:wrap64 ((i:Int) + 1)=((i + 1:Nat):Int):=by rw [w64 (by omega) (by omega)];rfl
  rw [vouchref14_blanks.l0,if_pos (by omega),if_pos (by omega),if_neg h2,hw]
  by_cases c1:bt s (i:Int)=9
  ·rw [if_pos c1]
  ·rw [if_neg c1]
   by_cases c2:bt s (i:Int)=10
   ·rw [if_pos c2]
   ·rw [if_neg c2]
    by_cases c3:bt s (i:Int)=13
    ·rw [if_pos c3]
    ·rw [if_neg c3]
     by_cases c4:bt s (i:Int)=32
     ·rw [if_pos c4]
     ·exact absurd h3 (by simp [isBlk,c1,c2,c3,c4])
 | @stop i h1 h2 h3 =>
  refine Ev.here fun k=>?_
  have h4:bt s (i:Int) ≠ 9 ∧ bt s (i:Int) ≠ 10 ∧ bt s (i:Int) ≠ 13 ∧ bt s (i:Int) ≠ 32:=by
   refine ⟨fun e=>?_,fun e=>?_,fun e=>?_,fun e=>?_⟩ <;> rw [e] at h3 <;> exact absurd h3 (by decide)
  rw [vouchref14_blanks.l0,if_pos (by omega),if_pos (by omega),if_neg h2,if_neg h4.1,if_neg h4.2.1,if_neg h4.2.2.1,if_neg h4.2.2.2]
theorem ref_broken {s:ByteArray} (hs:s.size ≤ 65536):∀ (d i:Nat),i + d=s.size → Ev (fun k=>vouchref14_piece.l0 k s (i:Int)) (([]:List Int),((skipB s d i:Nat):Int),0):=by
 intro d
 induction d with
 | zero =>
  intro i h
  refine Ev.here fun k=>?_
  rw [vouchref14_piece.l0,if_neg (by omega)];rfl
 | succ d ih =>
  intro i h
  have hw:wrap64 ((i:Int) + 1)=((i + 1:Nat):Int):=by rw [w64 (by omega) (by omega)];rfl
  unfold skipB
  rw [if_pos (by omega)]
  by_cases hb:bt s (i:Int)=32 ∨ bt s (i:Int)=9 ∨ bt s (i:Int)=13
  ·rw [if_pos hb]
   refine (ih (i + 1) (by omega)).step fun k=>?_
   rw [vouchref14_piece.l0,if_pos (by omega),if_pos (by omega),hw]
   by_cases c1:bt s (i:Int)=9
   ·rw [if_pos c1]
   ·rw [if_neg c1]
    by_cases c3:bt s (i:Int)=13
    ·rw [if_pos c3]
    ·rw [if_neg c3,if_pos (by omega)]
  ·rw [if_neg hb]
   refine Ev.here fun k=>?_
   rw [vouchref14_piece.l0,if_pos (by omega),if_pos (by omega),if_neg (by omega),if_neg (by omega),if_neg (by omega)]
theorem stepL {s:ByteArray} {p m:Nat} {st st':StrSt} (h:strStep s p st = .inl st'):strRun s p (m + 1) st=strRun s p m st':=by
 show (match strStep s p st with | .inl st'=>strRun s p m st' | .inr r=>some r)=_
 rw [h]
theorem stepR {s:ByteArray} {p m:Nat} {st:StrSt} {r:StrR} (h:strStep s p st = .inr r):strRun s p (m + 1) st=some r:=by
 show (match strStep s p st with | .inl st'=>strRun s p m st' | .inr r=>some r)=_
 rw [h]
theorem dig_three (s:ByteArray) (p i:Nat) (b:List Int) (n:Nat):strStep s p (.digits i b n 3)=if 255 < n then .inr (strErr ((i:Int) - 4) 142) else .inl (.plain i (b ++ [(n:Int)])):=by
 simp only [strStep,if_true]
theorem dig_step {s:ByteArray} {p m i n k:Nat} {b:List Int} {r:StrR} (hk:k < 3) (h:strRun s p m (.digits i b n k)=some r) (h0:r.2.2=0) :
  ∃ m',m=m' + 1 ∧ i < s.size ∧ 48 ≤ bt s (i:Int) ∧ bt s (i:Int) ≤ 55 ∧ strRun s p m' (.digits (i + 1) b (n * 8 + ((bt s (i:Int)).toNat - 48)) (k + 1))=some r:=by
 cases m with
 | zero=>cases h
 | succ m =>
  refine ⟨m,rfl,?_⟩
  by_cases h1:s.size ≤ i
  ·have e:strStep s p (.digits i b n k) = .inr (strErr p 141):=by simp only [strStep];rw [if_neg (by omega),if_pos h1]
   rw [stepR e] at h
   obtain rfl:=Option.some.inj h
   exact absurd h0 (by simp [strErr])
  ·by_cases h2:bt s (i:Int) < 48 ∨ 55 < bt s (i:Int)
   ·have e:strStep s p (.digits i b n k) = .inr (strErr ((i:Int) - k - 1) 142):=by simp only [strStep];rw [if_neg (by omega),if_neg h1,if_pos h2]
    rw [stepR e] at h
    obtain rfl:=Option.some.inj h
    exact absurd h0 (by simp [strErr])
   ·have e:strStep s p (.digits i b n k) = .inl (.digits (i + 1) b (n * 8 + ((bt s (i:Int)).toNat - 48)) (k + 1)):=by simp only [strStep];rw [if_neg (by omega),if_neg h1,if_neg h2]
    rw [stepL e] at h
    exact ⟨by omega,by omega,by omega,h⟩
theorem oct_step {s:ByteArray} (hs:s.size ≤ 65536) {i:Nat} {n kk:Nat} {r:List Int × Int × Int} (hkk:1 ≤ kk ∧ kk ≤ 3) (hn:n < 512) (hi:i + kk < s.size) (h1:48 ≤ bt s ((i + kk:Nat):Int)) (h2:bt s ((i + kk:Nat):Int) ≤ 55)
  (h:Ev (fun k=>vouchref14_piece.l1 k s (i:Int) ((n * 8 + ((bt s ((i + kk:Nat):Int)).toNat - 48):Nat):Int) ((kk + 1:Nat):Int)) r):Ev (fun k=>vouchref14_piece.l1 k s (i:Int) (n:Int) (kk:Int)) r:=by
 refine h.step fun k=>?_
 have hw:wrap64 ((i:Int) + (kk:Int))=((i + kk:Nat):Int):=by rw [w64 (by omega) (by omega)];rfl
 have hw2:wrap64 ((kk:Int) + 1)=((kk + 1:Nat):Int):=by rw [w64 (by omega) (by omega)];rfl
 have hw3:wrap64 ((n:Int) * 8)=(n:Int) * 8:=w64 (by omega) (by omega)
 rw [vouchref14_piece.l1,if_pos (by omega),hw,if_neg (by omega),if_pos (by omega),if_pos (by omega),ref_octal]
 generalize bt s ((i + kk:Nat):Int)=c at h1 h2 ⊢
 show (if (decide (48 ≤ c) && decide (c ≤ 55))=true then _ else _)=_
 rw [if_pos (by simp [h1,h2]),hw2,hw3,Int.emod_eq_of_lt (by omega) (by omega),w64 (by omega) (by omega)]
 congr 1
 omega
theorem ref_piece {s:ByteArray} (hs:s.size ≤ 65536) {p m i:Nat} {b:List Int} {r:StrR} (h:strRun s p m (.slash (i + 1) b)=some r) (h0:r.2.2=0) :
  ∃ (m' i':Nat) (bs:List Int),m' < m ∧ strRun s p m' (.plain i' (b ++ bs))=some r ∧ bs.length ≤ 1 ∧ i + 2 ≤ i' ∧ i' ≤ s.size ∧ Ev (fun k=>vouchref14_piece.f k s (i:Int)) (bs,(i':Int),0):=by
 cases m with
 | zero=>cases h
 | succ m =>
  by_cases h1:s.size ≤ i + 1
  ·have e:strStep s p (.slash (i + 1) b) = .inr (strErr p 141):=by simp only [strStep];rw [if_pos h1]
   rw [stepR e] at h
   obtain rfl:=Option.some.inj h
   exact absurd h0 (by simp [strErr])
  have hw1:wrap64 ((i:Int) + 1)=((i + 1:Nat):Int):=by rw [w64 (by omega) (by omega)];rfl
  have hw2:wrap64 ((i:Int) + 2)=((i + 2:Nat):Int):=by rw [w64 (by omega) (by omega)];rfl
  have hst:strStep s p (.slash (i + 1) b)=if bt s ((i + 1:Nat):Int)=34 ∨ bt s ((i + 1:Nat):Int)=92 then .inl (.plain (i + 2) (b ++ [bt s ((i + 1:Nat):Int)])) else if bt s ((i + 1:Nat):Int)=110 then .inl (.plain (i + 2) (b ++ [10])) else if bt s ((i + 1:Nat):Int)=116 then .inl (.plain (i + 2) (b ++ [9])) else if bt s ((i + 1:Nat):Int)=114 then .inl (.plain (i + 2) (b ++ [13])) else if bt s ((i + 1:Nat):Int)=10 then .inl (.broken (i + 1) b) else .inl (.digits (i + 1) b 0 0):=by simp only [strStep];rw [if_neg h1]
  have hf:∀ (x:List Int × Int × Int),Ev (fun k=>vouchref14_piece.j0 k s (i:Int) (bt s ((i + 1:Nat):Int)) (decide (bt s ((i + 1:Nat):Int)=34 ∨ bt s ((i + 1:Nat):Int)=92))) x → Ev (fun k=>vouchref14_piece.f k s (i:Int)) x:=fun x hx=>by
   refine hx.same fun k=>?_
   unfold vouchref14_piece.f
   rw [hw1,if_neg (by omega),if_pos (by omega),if_pos (by omega)]
   by_cases c1:bt s ((i + 1:Nat):Int)=34
   ·rw [if_pos c1,decide_eq_true (Or.inl c1:bt s ((i + 1:Nat):Int)=34 ∨ bt s ((i + 1:Nat):Int)=92),beq_iff_eq.mpr c1]
   ·rw [if_neg c1]
    have:(bt s ((i + 1:Nat):Int) == 92)=decide (bt s ((i + 1:Nat):Int)=34 ∨ bt s ((i + 1:Nat):Int)=92):=by
     by_cases c2:bt s ((i + 1:Nat):Int)=92
     ·rw [decide_eq_true (Or.inr c2),beq_iff_eq.mpr c2]
     ·rw [decide_eq_false (by omega),beq_eq_false_iff_ne.mpr c2]
    rw [this]
  generalize hc:bt s ((i + 1:Nat):Int)=c at hst hf
  by_cases c1:c=34 ∨ c=92
  ·rw [if_pos c1] at hst
   rw [stepL hst] at h
   refine ⟨m,i + 2,[c],by omega,h,by simp,by omega,by omega,hf _ (Ev.here fun k=>?_)⟩
   rw [decide_eq_true c1,vouchref14_piece.j0,if_pos rfl,hw1,hw2,if_pos (by omega),if_pos (by omega),hc]
  ·rw [if_neg c1] at hst
   rw [decide_eq_false c1] at hf
   by_cases c2:c=110
   ·rw [if_pos c2] at hst
    rw [stepL hst] at h
    refine ⟨m,i + 2,[10],by omega,h,by simp,by omega,by omega,hf _ (Ev.here fun k=>?_)⟩
    rw [vouchref14_piece.j0,if_neg (by simp),if_pos c2,hw2]
   rw [if_neg c2] at hst
   by_cases c3:c=116
   ·rw [if_pos c3] at hst
    rw [stepL hst] at h
    refine ⟨m,i + 2,[9],by omega,h,by simp,by omega,by omega,hf _ (Ev.here fun k=>?_)⟩
    rw [vouchref14_piece.j0,if_neg (by simp),if_neg c2,if_pos c3,hw2]
   rw [if_neg c3] at hst
   by_cases c4:c=114
   ·rw [if_pos c4] at hst
    rw [stepL hst] at h
    refine ⟨m,i + 2,[13],by omega,h,by simp,by omega,by omega,hf _ (Ev.here fun k=>?_)⟩
    rw [vouchref14_piece.j0,if_neg (by simp),if_neg c2,if_neg c3,if_pos c4,hw2]
   rw [if_neg c4] at hst
   by_cases c5:c=10
   ·rw [if_pos c5] at hst
    rw [stepL hst] at h
    cases m with
    | zero=>cases h
    | succ m =>
     have e:strStep s p (.broken (i + 1) b) = .inl (.plain (skipB s (s.size - (i + 1 + 1)) (i + 1 + 1)) b):=rfl
     rw [stepL e] at h
     have hle:=skipB_le s (s.size - (i + 2)) (i + 2) (by omega)
     refine ⟨m,skipB s (s.size - (i + 2)) (i + 2),[],by omega,by rw [List.append_nil];exact h,by simp,hle.1,hle.2,hf _ ((ref_broken hs (s.size - (i + 2)) (i + 2) (by omega)).step fun k=>?_)⟩
     rw [vouchref14_piece.j0,if_neg (by simp),if_neg c2,if_neg c3,if_neg c4,if_pos c5,hw2]
   rw [if_neg c5] at hst
   rw [stepL hst] at h
   obtain ⟨m1,rfl,i1,a1,b1,h⟩:=dig_step (by omega) h h0
   obtain ⟨m2,rfl,i2,a2,b2,h⟩:=dig_step (by omega) h h0
   obtain ⟨m3,rfl,i3,a3,b3,h⟩:=dig_step (by omega) h h0
   have step:=fun x hx=>hf x (Ev.step (g:=fun k=>vouchref14_piece.l1 k s (i:Int) ((0:Nat):Int) ((1:Nat):Int)) hx fun k=>by
    rw [vouchref14_piece.j0,if_neg (by simp),if_neg c2,if_neg c3,if_neg c4,if_neg c5];rfl)
   rw [hc] at a1 b1 h
   have hc1:bt s ((i + 1:Nat):Int)=c:=hc
   generalize hd:bt s ((i + 1 + 1:Nat):Int)=c' at a2 b2 h
   generalize he:bt s ((i + 1 + 1 + 1:Nat):Int)=c'' at a3 b3 h
   have n1:0 * 8 + (c.toNat - 48) < 8:=by omega
   generalize hn1:0 * 8 + (c.toNat - 48)=x1 at h n1
   have n2:x1 * 8 + (c'.toNat - 48) < 64:=by omega
   generalize hn2:x1 * 8 + (c'.toNat - 48)=x2 at h n2
   have n3:x2 * 8 + (c''.toNat - 48) < 512:=by omega
   generalize hn3:x2 * 8 + (c''.toNat - 48)=x3 at h n3
   cases m3 with
   | zero=>cases h
   | succ m4 =>
    by_cases hb:255 < x3
    ·have e:strStep s p (.digits (i + 1 + 1 + 1 + 1) b x3 (0 + 1 + 1 + 1)) = .inr (strErr (((i + 1 + 1 + 1 + 1:Nat):Int) - 4) 142):=(dig_three s p _ _ x3).trans (if_pos hb)
     rw [stepR e] at h
     obtain rfl:=Option.some.inj h
     exact absurd h0 (by simp [strErr])
    ·have e:strStep s p (.digits (i + 1 + 1 + 1 + 1) b x3 (0 + 1 + 1 + 1)) = .inl (.plain (i + 1 + 1 + 1 + 1) (b ++ [(x3:Int)])):=(dig_three s p _ _ x3).trans (if_neg hb)
     rw [stepL e] at h
     refine ⟨m4,i + 1 + 1 + 1 + 1,[(x3:Int)],by omega,h,by simp,by omega,by omega,step _ ?_⟩
     refine oct_step hs (n:=0) (kk:=1) (by omega) (by omega) (by omega) (by rw [hc1];exact a1) (by rw [hc1];exact b1) ?_
     rw [hc1,hn1]
     refine oct_step hs (n:=x1) (kk:=2) (by omega) (by omega) (by omega) (by rw [show i + 2=i + 1 + 1 by omega,hd];exact a2) (by rw [show i + 2=i + 1 + 1 by omega,hd];exact b2) ?_
     rw [show i + 2=i + 1 + 1 by omega,hd,hn2]
     refine oct_step hs (n:=x2) (kk:=3) (by omega) (by omega) (by omega) (by rw [show i + 3=i + 1 + 1 + 1 by omega,he];exact a3) (by rw [show i + 3=i + 1 + 1 + 1 by omega,he];exact b3) ?_
     rw [show i + 3=i + 1 + 1 + 1 by omega,he,hn3]
     refine Ev.here fun k=>?_
     rw [vouchref14_piece.l1,if_neg (by omega),if_neg (by omega),w64 (by omega) (by omega),Int.emod_eq_of_lt (by omega) (by omega)]
     rfl
theorem ref_quoted {s:ByteArray} (hs:s.size ≤ 65536) (p:Nat):∀ (m i:Nat) (b:List Int) (r:StrR),strRun s p m (.plain i b)=some r → r.2.2=0 → b.length ≤ i → i ≤ s.size →
  Ev (fun k=>vouchref14_quoted.l0 k s (p:Int) b (i:Int)) (r.1.f0,r.1.f1,r.1.f2,r.1.f3,0,0):=by
 intro m
 induction m using Nat.strongRecOn with
 | _ m ih =>
  intro i b r h h0 hb hi
  cases m with
  | zero=>cases h
  | succ m =>
   by_cases h1:s.size ≤ i
   ·have e:strStep s p (.plain i b) = .inr (strErr p 141):=by simp only [strStep];rw [if_pos h1]
    rw [stepR e] at h
    obtain rfl:=Option.some.inj h
    exact absurd h0 (by simp [strErr])
   by_cases h2:bt s (i:Int)=10
   ·have e:strStep s p (.plain i b) = .inr (strErr p 141):=by simp only [strStep];rw [if_neg h1,if_pos h2]
    rw [stepR e] at h
    obtain rfl:=Option.some.inj h
    exact absurd h0 (by simp [strErr])
   have hw1:wrap64 ((i:Int) + 1)=((i + 1:Nat):Int):=by rw [w64 (by omega) (by omega)];rfl
   have step:∀ x,Ev (fun k=>vouchref14_quoted.j1 k s (p:Int) b (i:Int) true) x → Ev (fun k=>vouchref14_quoted.l0 k s (p:Int) b (i:Int)) x:=fun x hx=>by
    refine hx.step fun k=>?_
    rw [vouchref14_quoted.l0,if_pos (by omega),if_pos (by omega)]
    have:(bt s (i:Int) != 10)=true:=by simp [h2]
    rw [this]
   by_cases h3:bt s (i:Int)=34
   ·have e:strStep s p (.plain i b) = .inr (⟨4,strOfNums b,p,((i + 1:Nat):Int)⟩,0,0):=by simp only [strStep];rw [if_neg h1,if_neg h2,if_pos h3]
    rw [stepR e] at h
    obtain rfl:=Option.some.inj h
    refine step _ (Ev.here fun k=>?_)
    rw [vouchref14_quoted.j1,if_pos rfl,if_pos (by omega),if_pos (by omega),if_pos h3,hw1]
   by_cases h4:bt s (i:Int)=92
   ·have e:strStep s p (.plain i b) = .inl (.slash (i + 1) b):=by simp only [strStep];rw [if_neg h1,if_neg h2,if_neg h3,if_pos h4]
    rw [stepL e] at h
    obtain ⟨m',i',bs,hm,hr,hl,h5,h6,hp⟩:=ref_piece hs h h0
    have hq:=ih m' (by omega) i' (b ++ bs) r hr h0 (by rw [List.length_append];omega) h6
    refine step _ (Ev.step (Ev.bind hp (g:=fun k bt457=>if bt457.2.2=141 then (some (0,(⟨#[]⟩:ByteArray),0,0,(p:Int),bt457.2.2)) else (if bt457.2.2=0 then (if b.length + bt457.1.length < 140737488355328 then (vouchref14_quoted.l0 k s (p:Int) (b ++ bt457.1) bt457.2.1) else (none)) else (some (0,(⟨#[]⟩:ByteArray),0,0,(i:Int),bt457.2.2)))) (hq.same fun k=>?_)) fun k=>?_)
    ·show (if (0:Int)=141 then _ else if (0:Int)=0 then (if b.length + bs.length < 140737488355328 then _ else _) else _)=_
     rw [if_neg (by omega),if_pos rfl,if_pos (by omega)]
    ·rw [vouchref14_quoted.j1,if_pos rfl,if_pos (by omega),if_pos (by omega),if_neg h3,if_pos h4]
   ·have e:strStep s p (.plain i b) = .inl (.plain (i + 1) (b ++ [bt s (i:Int)])):=by simp only [strStep];rw [if_neg h1,if_neg h2,if_neg h3,if_neg h4]
    rw [stepL e] at h
    have hq:=ih m (by omega) (i + 1) _ r h h0 (by rw [List.length_append,List.length_singleton];omega) (by omega)
    refine step _ (hq.step fun k=>?_)
    rw [vouchref14_quoted.j1,if_pos rfl,if_pos (by omega),if_pos (by omega),if_neg h3,if_neg h4,if_pos (by omega),hw1]
theorem ref_ones {s:ByteArray} (hs:s.size ≤ 65536) {i:Nat} (hi:i < s.size) (x7:ByteArray) (h7:x7.size ≤ 100):∀ (d k8:Nat),k8 + d=x7.size →
  Ev (fun k=>vouchref14_sign.l1 k s (i:Int) x7 (k8:Int)) (if 0 ≤ Lib.indexByte (x7.data.toList.drop k8) (bt s (i:Int)).toNat.toUInt8 then 1 else 0):=by
 have hl:x7.data.toList.length=x7.size:=by simp
 have hb:=bt_range s (i:Int)
 intro d
 induction d with
 | zero =>
  intro k8 h
  rw [List.drop_eq_nil_of_le (by omega)]
  refine Ev.here fun k=>?_
  rw [vouchref14_sign.l1,if_neg (by omega)];rfl
 | succ d ih =>
  intro k8 h
  have hk:k8 < x7.size:=by omega
  have hk2:k8 < x7.data.toList.length:=by omega
  have e8:bt x7 (k8:Int)=((x7[k8]'hk).toNat:Int):=(bt_atN' x7 k8 hk).symm
  have hd:x7.data.toList.drop k8=(x7[k8]'hk) :: x7.data.toList.drop (k8 + 1):=by
   rw [List.drop_eq_getElem_cons hk2];rfl
  have hge:=Lib.indexByte_ge (x7.data.toList.drop (k8 + 1)) (bt s (i:Int)).toNat.toUInt8
  have hw:wrap64 ((k8:Int) + 1)=((k8 + 1:Nat):Int):=by rw [w64 (by omega) (by omega)];rfl
  have hx:=(x7[k8]'hk).toNat_lt
  have hcc:((bt s (i:Int)).toNat.toUInt8).toNat=(bt s (i:Int)).toNat:=by
   have:(bt s (i:Int)).toNat < 256:=by omega
   simp [Nat.toUInt8,Nat.mod_eq_of_lt this]
  have ih1:=ih (k8 + 1) (by omega)
  rw [hd]
  show Ev _ (if 0 ≤ (if ((x7[k8]'hk) == (bt s (i:Int)).toNat.toUInt8)=true then (0:Int) else if (Lib.indexByte (x7.data.toList.drop (k8 + 1)) (bt s (i:Int)).toNat.toUInt8 == -1)=true then -1 else Lib.indexByte (x7.data.toList.drop (k8 + 1)) (bt s (i:Int)).toNat.toUInt8 + 1) then 1 else 0)
  generalize Lib.indexByte (x7.data.toList.drop (k8 + 1)) (bt s (i:Int)).toNat.toUInt8=X at hge ih1 ⊢
  by_cases hq:bt s (i:Int)=bt x7 (k8:Int)
  ·have:((x7[k8]'hk) == (bt s (i:Int)).toNat.toUInt8)=true:=by
    rw [beq_iff_eq];apply UInt8.toNat_inj.1;omega
   rw [this,if_pos rfl,if_pos (Int.le_refl 0)]
   refine Ev.here fun k=>?_
   rw [vouchref14_sign.l1,if_pos (by omega),if_pos (by omega),if_pos (by omega),if_pos (by omega),if_pos hq]
  ·have:((x7[k8]'hk) == (bt s (i:Int)).toNat.toUInt8)=false:=by
    rw [beq_eq_false_iff_ne];intro e
    have:=congrArg UInt8.toNat e
    omega
   rw [this,if_neg Bool.false_ne_true]
   have e2:(if 0 ≤ (if (X == -1)=true then (-1:Int) else X + 1) then (1:Int) else 0)=if 0 ≤ X then 1 else 0:=by
    by_cases h1:X = -1
    ·rw [beq_iff_eq.mpr h1,if_pos rfl,if_neg (by omega),if_neg (by omega)]
    ·rw [beq_eq_false_iff_ne.mpr h1,if_neg Bool.false_ne_true,if_pos (by omega),if_pos (by omega)]
   rw [e2]
   refine ih1.step fun k=>?_
   rw [vouchref14_sign.l1,if_pos (by omega),if_pos (by omega),if_pos (by omega),if_pos (by omega),if_neg hq,hw]
def twos:List ByteArray:=[(⟨#[45,62]⟩:ByteArray),(⟨#[38,38]⟩:ByteArray),(⟨#[124,124]⟩:ByteArray),(⟨#[61,61]⟩:ByteArray),(⟨#[33,61]⟩:ByteArray),(⟨#[60,61]⟩:ByteArray),(⟨#[62,61]⟩:ByteArray),(⟨#[126,61]⟩:ByteArray)]
theorem twos_get (k:Nat) (h:k < 8):rdOf ByteArray.empty twos (k:Int)=twoNm k:=by
 match k,h with
 | 0,_=>rfl
 | 1,_=>rfl
 | 2,_=>rfl
 | 3,_=>rfl
 | 4,_=>rfl
 | 5,_=>rfl
 | 6,_=>rfl
 | 7,_=>rfl
theorem ref_twos {s:ByteArray} (hs:s.size ≤ 65536) {i:Nat} (hi:i < s.size) (r:Int) (hr:Ev (fun k=>vouchref14_sign.l1 k s (i:Int) signs 0) r):∀ (d k6:Nat),d + k6=8 →
  Ev (fun k=>vouchref14_sign.l0 k s (i:Int) twos (k6:Int)) (if hasTwo (s.extract i s.size) d k6=true then 2 else r):=by
 have hw2:wrap64 ((i:Int) + 2)=((i + 2:Nat):Int):=by rw [w64 (by omega) (by omega)];rfl
 have hz:(s.extract i s.size).size=s.size - i:=by simp [ByteArray.size_extract]
 have hl8:(twos.length:Int)=8:=rfl
 intro d
 induction d with
 | zero =>
  intro k6 h
  rw [if_neg (by simp [hasTwo])]
  refine hr.step fun k=>?_
  rw [vouchref14_sign.l0,if_neg (by omega)];rfl
 | succ d ih =>
  intro k6 h
  have hw:wrap64 ((k6:Int) + 1)=((k6 + 1:Nat):Int):=by rw [w64 (by omega) (by omega)];rfl
  have ht:=twos_get k6 (by omega)
  have hsz:=twoNm_size k6 (by omega)
  show Ev _ (if (hasPre (s.extract i s.size) (twoNm k6) || hasTwo (s.extract i s.size) d (k6 + 1))=true then 2 else r)
  by_cases hp:hasPre (s.extract i s.size) (twoNm k6)=true
  ·rw [hp,Bool.true_or,if_pos rfl]
   unfold hasPre at hp
   rw [Bool.and_eq_true,decide_eq_true_eq,hsz,hz,beq_iff_eq,ByteArray.extract_extract] at hp
   have hm:min (i + 2) s.size=i + 2:=by omega
   rw [hm,Nat.add_zero] at hp
   refine Ev.here fun k=>?_
   rw [vouchref14_sign.l0,if_pos (by omega),hw2,if_pos (by omega),if_pos (by omega),if_pos (by omega),if_pos (by omega),ht,Int.toNat_natCast,Int.toNat_natCast,if_pos hp.2]
  ·rw [Bool.eq_false_iff.mpr hp,Bool.false_or]
   refine (ih (k6 + 1) (by omega)).step fun k=>?_
   by_cases hle:i + 2 ≤ s.size
   ·rw [vouchref14_sign.l0,if_pos (by omega),hw2,if_pos (by omega),if_pos (by omega),if_pos (by omega),if_pos (by omega),ht,Int.toNat_natCast,Int.toNat_natCast,if_neg ?_,hw]
    intro e
    apply hp
    unfold hasPre
    rw [Bool.and_eq_true,decide_eq_true_eq,hsz,hz,beq_iff_eq,ByteArray.extract_extract]
    have hm:min (i + 2) s.size=i + 2:=by omega
    rw [hm,Nat.add_zero]
    exact ⟨by omega,e⟩
   ·rw [vouchref14_sign.l0,if_pos (by omega),hw2,if_neg (by omega),hw]
theorem ref_sign {s:ByteArray} (hs:s.size ≤ 65536) {i:Nat} (hi:i < s.size):Ev (fun k=>vouchref14_sign.f k s (i:Int)) (signS s i):=by
 have h1:=ref_ones hs hi signs (by decide) 20 0 (by decide)
 rw [List.drop_zero] at h1
 exact ref_twos hs hi _ h1 8 0 rfl
theorem ref_number {s:ByteArray} (hs:s.size ≤ 65536) {i:Nat} (hi:i < s.size) (h5:(numberS s i).f0=5):Ev (fun k=>vouchref14_number.f k s (i:Int)) ((numberS s i).f0,(numberS s i).f1,(numberS s i).f2,(numberS s i).f3):=by
 have hd:=ref_digits hs (s.size - i) i (by omega)
 have hle:=whileS_le isDigit s i (by omega)
 unfold numberS at h5 ⊢
 simp only at h5 ⊢
 generalize hE:whileS isDigit s i=e at hd hle h5 ⊢
 by_cases h1:isDec s e=true
 ·rw [if_pos h1] at h5;exact absurd h5 (by simp)
 rw [if_neg h1] at h5 ⊢
 by_cases h2:isOf s e=true
 case neg=>rw [if_neg h2] at h5;exact absurd h5 (by simp)
 rw [if_pos h2]
 unfold isOf at h2
 simp only [Bool.and_eq_true,decide_eq_true_eq,beq_iff_eq,Bool.or_eq_true] at h2
 obtain ⟨⟨o1,⟨o2,o3⟩,o4⟩,o5⟩:=h2
 have hw1:wrap64 ((e:Int) + 1)=((e + 1:Nat):Int):=by rw [w64 (by omega) (by omega)];rfl
 have hw3:wrap64 ((e:Int) + 3)=((e + 3:Nat):Int):=by rw [w64 (by omega) (by omega)];rfl
 have hx:(s.extract e (e + 3)).toList=([45,111,102]:List UInt8):=by
  have hz:(s.extract e (e + 3)).size=3:=by rw [ByteArray.size_extract];omega
  have g:∀ k (h:k < 3),((s.extract e (e + 3))[k]'(by omega)).toNat=(bt s ((e + k:Nat):Int)).toNat:=fun k h=>by
   have:=bt_atN' s (e + k) (by omega)
   rw [ByteArray.getElem_extract,← this,Int.toNat_natCast]
  rw [ByteArray.toList_eq]
  have hl:(s.extract e (e + 3)).data.toList.length=3:=by rw [Array.length_toList];exact hz
  apply List.ext_getElem
  ·rw [hl];rfl
  ·intro n n1 n2
   rw [hl] at n1
   have e1:((s.extract e (e + 3)).data.toList[n]).toNat=(bt s ((e + n:Nat):Int)).toNat:=by
    rw [← g n n1];rfl
   have hn:n=0 ∨ n=1 ∨ n=2:=by omega
   apply UInt8.toNat_inj.1
   rw [e1]
   rcases hn with rfl | rfl | rfl
   ·rw [Nat.add_zero,o2];rfl
   ·rw [o3];rfl
   ·rw [o4];rfl
 have hj:Ev (fun k=>vouchref14_number.j0 k s (i:Int) (e:Int) false) (5,s.extract i e,(i:Int),(e:Int) + 3):=by
  have he3:((e:Int) + 3)=((e + 3:Nat):Int):=rfl
  by_cases hend:e + 3=s.size
  ·refine Ev.here fun k=>?_
   rw [vouchref14_number.j0,if_neg (by simp),hw3,if_pos (by omega),if_pos (by omega),if_pos (by omega),Int.toNat_natCast,Int.toNat_natCast,if_pos hx,if_pos (by omega),if_pos (by omega),if_pos (by omega),if_pos (by omega),Int.toNat_natCast,← he3]
  ·have o6:isName (bt s ((e + 3:Nat):Int))=false:=by
    rcases o5 with o5 | o5
    ·omega
    ·simpa using o5
   unfold isName at o6
   rw [Bool.or_eq_false_iff] at o6
   refine Ev.here fun k=>?_
   rw [vouchref14_number.j0,if_neg (by simp),hw3,if_pos (by omega),if_pos (by omega),if_pos (by omega),Int.toNat_natCast,Int.toNat_natCast,if_pos hx,if_neg (by omega),if_pos (by omega),if_pos (by omega),ref_letter,ref_digit,o6.1,o6.2]
   simp only [Option.bind_some]
   rw [if_neg (by simp),if_neg (by simp),if_pos (by omega),if_pos (by omega),if_pos (by omega),Int.toNat_natCast,← he3]
 refine Ev.bind hd ?_
 by_cases hlt:e + 1 < s.size
 ·by_cases hdot:bt s (e:Int)=46
  ·exfalso;omega
  ·refine hj.same fun k=>?_
   rw [hw1,if_pos (by omega),if_pos (by omega),if_pos (by omega),if_neg hdot]
 ·refine hj.same fun k=>?_
  rw [hw1,if_neg (by omega)]
theorem ref_next {s:ByteArray} (hs:s.size ≤ 65536) {i:Nat} (hi:i < s.size) {t:S70} (h:nextS s i=(t,0,0)) (hk:t.f0=4 ∨ t.f0=5 ∨ t.f0=6):Ev (fun k=>vouchref14_next.f k s (i:Int)) (t.f0,t.f1,t.f2,t.f3,0,0):=by
 unfold nextS at h
 by_cases h1:isLetter (bt s (i:Int))=true
 ·rw [if_pos h1] at h
  have:=congrArg (fun x=>x.1.f0) h
  have:(1:Int)=t.f0:=this
  omega
 rw [if_neg h1] at h
 have h1':=Bool.eq_false_iff.mpr h1
 by_cases h2:isDigit (bt s (i:Int))=true
 ·rw [if_pos h2] at h
  have ht:numberS s i=t:=(Prod.mk.inj h).1
  have h5:(numberS s i).f0=5:=by
   rw [ht]
   rcases hk with hk | hk | hk
   ·exfalso
    rw [← ht] at hk
    unfold numberS at hk
    simp only at hk
    split at hk
    ·exact absurd hk (by simp)
    ·split at hk <;> exact absurd hk (by simp)
   ·exact hk
   ·exfalso
    rw [← ht] at hk
    unfold numberS at hk
    simp only at hk
    split at hk
    ·exact absurd hk (by simp)
    ·split at hk <;> exact absurd hk (by simp)
  have hn:=ref_number hs hi h5
  rw [ht] at hn
  refine (Ev.bind hn (g:=fun k bt474=>some (bt474.1,bt474.2.1,bt474.2.2.1,bt474.2.2.2,0,0)) (b:=(t.f0,t.f1,t.f2,t.f3,0,0)) ⟨0,fun _ _=>rfl⟩).same fun k=>?_
  unfold vouchref14_next.f
  rw [if_pos (by omega),if_pos (by omega),ref_letter,ref_digit,h1',h2]
  simp only [Option.bind_some]
  rw [if_neg (by simp),if_pos trivial]
 rw [if_neg h2] at h
 have h2':=Bool.eq_false_iff.mpr h2
 by_cases h3:bt s (i:Int)=34
 ·rw [if_pos h3] at h
  have hrun:strRun s i (strMu s (.plain (i + 1) []) + 1) (.plain (i + 1) [])=some (t,0,0):=by
   cases hr:strRun s i (strMu s (.plain (i + 1) []) + 1) (.plain (i + 1) []) with
   | none =>
    rw [hr] at h
    have:(140:Int)=0:=congrArg (fun x=>x.2.2) h
    omega
   | some r=>rw [hr] at h;exact congrArg some h
  have hq:=ref_quoted hs i _ (i + 1) [] _ hrun rfl (by simp) (by omega)
  have hw1:wrap64 ((i:Int) + 1)=((i + 1:Nat):Int):=by rw [w64 (by omega) (by omega)];rfl
  have hf:Ev (fun k=>vouchref14_quoted.f k s (i:Int)) (t.f0,t.f1,t.f2,t.f3,0,0):=hq.same fun k=>by
   unfold vouchref14_quoted.f;rw [hw1]
  refine (Ev.bind hf (g:=fun k bt478=>some (bt478.1,bt478.2.1,bt478.2.2.1,bt478.2.2.2.1,bt478.2.2.2.2.1,bt478.2.2.2.2.2)) (b:=(t.f0,t.f1,t.f2,t.f3,0,0)) ⟨0,fun _ _=>rfl⟩).same fun k=>?_
  unfold vouchref14_next.f
  rw [if_pos (by omega),if_pos (by omega),ref_letter,ref_digit,h1',h2']
  simp only [Option.bind_some]
  rw [if_neg (by simp),if_neg (by simp),if_pos h3]
 rw [if_neg h3] at h
 by_cases h4:0 < signS s i
 case neg =>
  rw [if_neg h4] at h
  have:(140:Int)=0:=congrArg (fun x=>x.2.2) h
  omega
 rw [if_pos h4] at h
 have ht:(⟨6,s.extract i (i + (signS s i).toNat),i,(i:Int) + signS s i⟩:S70)=t:=(Prod.mk.inj h).1
 have hle:signS s i ≤ 2 ∧ (i:Int) + signS s i ≤ s.size:=by
  unfold signS
  split
  ·rename_i h5
   have:=hasTwo_size _ 8 0 rfl h5
   have hz:(s.extract i s.size).size=s.size - i:=by simp [ByteArray.size_extract]
   omega
  ·split <;> omega
 have hg:=ref_sign hs hi
 generalize signS s i=n at h4 ht hle hg
 obtain ⟨m,rfl⟩:=Int.eq_ofNat_of_zero_le (show 0 ≤ n by omega)
 have hw:wrap64 ((i:Int) + (m:Int))=((i + m:Nat):Int):=by rw [w64 (by omega) (by omega)];rfl
 have e1:t=⟨6,s.extract i (i + m),i,(i:Int) + m⟩:=by rw [← ht];rfl
 rw [e1]
 refine (Ev.bind hg (g:=fun k t484=>if t484=0 then (some (0,(⟨#[]⟩:ByteArray),0,0,(i:Int),140)) else (if (i:Int) ≤ (wrap64 ((i:Int) + t484)) then (if (wrap64 ((i:Int) + t484)) ≤ (s.size:Int) then (some (6,s.extract (i:Int).toNat ((wrap64 ((i:Int) + t484)):Int).toNat,(i:Int),wrap64 ((i:Int) + t484),0,0)) else (none)) else (none))) (b:=(6,s.extract i (i + m),(i:Int),(i:Int) + m,0,0)) ⟨0,fun k _=>?_⟩).same fun k=>?_
 ·show (if (m:Int)=0 then _ else _)=_
  rw [if_neg (by omega),hw,if_pos (by omega),if_pos (by omega),Int.toNat_natCast,Int.toNat_natCast];rfl
 ·unfold vouchref14_next.f
  rw [if_pos (by omega),if_pos (by omega),ref_letter,ref_digit,h1',h2']
  simp only [Option.bind_some]
  rw [if_neg (by simp),if_neg (by simp),if_neg h3]
theorem ref_toks {s:ByteArray} (hs:s.size ≤ 65536) {i:Nat} {xs:List S70} {st:Option Nat} (h:ToksX s i xs st):∀ acc:List S70,(∀ t ∈ xs,t.f0=4 ∨ t.f0=5 ∨ t.f0=6) → acc.length + xs.length ≤ 8192 →
  (st=none → Ev (fun k=>(vouchref14_blanks.f k s (i:Int)).bind fun t=>vouchref14_Tokens.l0 k s acc t) (acc ++ xs,0,0)) ∧
  (∀ j,st=some j → acc.length + xs.length=8192 → Ev (fun k=>(vouchref14_blanks.f k s (i:Int)).bind fun t=>vouchref14_Tokens.l0 k s acc t) (([]:List S70),(j:Int),3)):=by
 induction h with
 | nil i j h1 h2 =>
  intro acc hk hl
  refine ⟨fun _=>Ev.bind (ref_blanks hs h1) (Ev.here fun k=>?_),fun j hj=>absurd hj (by simp)⟩
  rw [vouchref14_Tokens.l0,if_neg (by omega),List.append_nil]
 | stop i j h1 h2 =>
  intro acc hk hl
  refine ⟨fun hj=>absurd hj (by simp),fun j' hj hl2=>Ev.bind (ref_blanks hs h1) (Ev.here fun k=>?_)⟩
  cases hj
  rw [List.length_nil,Nat.add_zero] at hl2
  rw [vouchref14_Tokens.l0,if_pos (by omega),if_pos (by omega)]
 | cons i j e t xs st h1 h2 h3 h4 h5 h6 h7 ih =>
  intro acc hk hl
  rw [List.length_cons] at hl
  have hn:=ref_next hs h2 h3 (hk t (by simp))
  obtain ⟨a,b⟩:=ih (acc ++ [t]) (fun t' h'=>hk t' (by simp [h'])) (by rw [List.length_append,List.length_singleton];omega)
  have step:∀ r,Ev (fun k=>(vouchref14_blanks.f k s (e:Int)).bind fun t'=>vouchref14_Tokens.l0 k s (acc ++ [t]) t') r → Ev (fun k=>(vouchref14_blanks.f k s (i:Int)).bind fun t=>vouchref14_Tokens.l0 k s acc t) r:=fun r hr=>by
   refine Ev.bind (ref_blanks hs h1) (Ev.step (Ev.bind hn (g:=fun k bt486=>if bt486.2.2.2.2.2=0 then (if acc.length < 3518437208883 then ((vouchref14_blanks.f k s bt486.2.2.2.1).bind fun t496=>(vouchref14_Tokens.l0 k s (acc ++ [(⟨bt486.1,bt486.2.1,bt486.2.2.1,bt486.2.2.2.1⟩:S70)]) t496)) else (none)) else (some (([]:List (S70)),bt486.2.2.2.2.1,bt486.2.2.2.2.2))) (hr.same fun k=>?_)) fun k=>?_)
   ·show (if (0:Int)=0 then (if acc.length < 3518437208883 then _ else _) else _)=_
    rw [if_pos rfl,if_pos (by omega)]
    show ((vouchref14_blanks.f k s t.f3).bind fun t496=>vouchref14_Tokens.l0 k s (acc ++ [t]) t496)=_
    rw [h4]
   ·rw [vouchref14_Tokens.l0,if_pos (by omega),if_neg (by omega)]
  refine ⟨fun hst=>?_,fun j' hst hl2=>?_⟩
  ·have:=step _ (a hst)
   rwa [List.append_assoc] at this
  ·exact step _ (b j' hst (by rw [List.length_append,List.length_singleton];rw [List.length_cons] at hl2;omega))
theorem ref_Tokens {s:ByteArray} (hs:s.size ≤ 65536) {xs:List S70} {st:Option Nat} (h:ToksX s 0 xs st) (hk:∀ t ∈ xs,t.f0=4 ∨ t.f0=5 ∨ t.f0=6) (hl:xs.length ≤ 8192) :
  (st=none → Ev (fun k=>vouchref14_Tokens.f k s) (xs,0,0)) ∧ (∀ j,st=some j → xs.length=8192 → Ev (fun k=>vouchref14_Tokens.f k s) (([]:List S70),(j:Int),3)):=by
 obtain ⟨a,b⟩:=ref_toks hs h [] hk (by simpa using hl)
 have e:∀ k,vouchref14_Tokens.f k s=(vouchref14_blanks.f k s ((0:Nat):Int)).bind fun t=>vouchref14_Tokens.l0 k s [] t:=fun k=>by
  unfold vouchref14_Tokens.f;rw [if_neg (by omega)];rfl
 exact ⟨fun h1=>(a h1).same e,fun j h1 h2=>(b j h1 (by simpa using h2)).same e⟩
end Go.Proofs.YtjapfefiaijfcaaGreatDoor.Q
