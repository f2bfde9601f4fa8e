/- The scanner's skip, at every text: blanks and remarks. -/
import Derived.Lib.IndexLaws
import Derived.IntWalk
import Derived.Test.YtjapfefiaijfcaaGreatDoorH5
import Derived.Test.YtjapfefiaijfcaaGreatDoorH7
import Derived.Test.YtjapfefiaijfcaaGreatDoorH11
namespace Go.Proofs.YtjapfefiaijfcaaGreatDoor.Q
open Go.RowKit Go.Proofs.YtjapfefiaijfcaaGreatDoorW.PrintWords Go.Proofs.YtjapfefiaijfcaaGreatDoorW.PrintLast Go.Proofs.YtjapfefiaijfcaaGreatDoorW.PrintMore
set_option linter.unusedVariables false
def remS (s:ByteArray) (i:Nat):Nat:=if 0 ≤ Lib.indexByte (s.extract i s.size).data.toList (10:Int).toNat.toUInt8 then i + (Lib.indexByte (s.extract i s.size).data.toList (10:Int).toNat.toUInt8).toNat else s.size
inductive SkipTo (s:ByteArray):Nat → Nat → Prop
 | fin {i:Nat}:s.size ≤ i → SkipTo s i i
 | rem {i j:Nat}:i < s.size → bt s (i:Int)=35 → SkipTo s (remS s i) j → SkipTo s i j
 | blk {i j:Nat}:i < s.size → bt s (i:Int) ≠ 35 → isBlk (bt s (i:Int))=true → SkipTo s (i + 1) j → SkipTo s i j
 | stop {i:Nat}:i < s.size → bt s (i:Int) ≠ 35 → isBlk (bt s (i:Int))=false → SkipTo s i i
theorem remS_bounds (s:ByteArray) (i:Nat) (hi:i < s.size) (h:bt s (i:Int)=35):i < remS s i ∧ remS s i ≤ s.size:=by
 unfold remS
 have hz:(s.extract i s.size).size=s.size - i:=by simp [ByteArray.size_extract]
 split
 case isTrue h0 =>
  obtain ⟨o,ho⟩:∃ o:Nat,Lib.indexByte (s.extract i s.size).data.toList (10:Int).toNat.toUInt8=o:=⟨(Lib.indexByte (s.extract i s.size).data.toList (10:Int).toNat.toUInt8).toNat,by omega⟩
  have h1:=(Lib.indexByte_some ho).1
  rw [ho,Int.toNat_natCast]
  have hlt:o < (s.extract i s.size).data.toList.length:=by
   rcases Nat.lt_or_ge o (s.extract i s.size).data.toList.length with q | q
   ·exact q
   ·rw [List.getElem?_eq_none q] at h1;cases h1
  have hl:(s.extract i s.size).data.toList.length=s.size - i:=hz
  refine ⟨?_,by omega⟩
  rcases Nat.eq_zero_or_pos o with rfl | hp
  ·exfalso
   have q:=extract_getElem s i 0 (by omega) (by omega)
   rw [Nat.add_zero,h] at q
   have q2:((s.extract i s.size)[0]'(by omega))=(10:Int).toNat.toUInt8:=by
    rw [List.getElem?_eq_getElem hlt] at h1
    exact Option.some.inj h1
   rw [q2] at q
   exact absurd q (by decide)
  ·omega
 case isFalse=>omega
theorem skipTo_le {s:ByteArray} {i j:Nat} (h:SkipTo s i j) (hi:i ≤ s.size):i ≤ j ∧ j ≤ s.size:=by
 induction h with
 | fin _=>omega
 | rem h1 h2 _ ih=>have hb:=remS_bounds s _ h1 h2;have:=ih hb.2;omega
 | blk h1 _ _ _ ih=>have:=ih (by omega);omega
 | stop _ _ _=>omega
set_option maxHeartbeats 8000000 in
theorem tokens_skip_all.calls (g:Nat) (s:ByteArray) (i j:Nat) (w:World) (hS:Scan w g s i) (hs:s.size ≤ 140737488351232) (hi:i ≤ s.size) (h:SkipTo s i j) :
  Calls Tryz.prog 78 #[.pointer (some ⟨g,0,none⟩)] w fun e w'=>e = .returned (.tuple #[]) ∧ Scan w' g s j ∧ Only g w w':=by
 have H:=Aside0.mk h
 have HS:=Aside0.mk hS
 clear h hS
 go_enter Tryz.func78,Tryz.ntmps78
 go_wp2
 go_loopw [] (fun wr=>∃ k:Nat,k ≤ s.size ∧ Scan wr g s k ∧ Only g w wr ∧ SkipTo s k j) (fun wr=>s.size - scanAt wr g)
 case atStart=>exact ⟨i,hi,HS.out,Only.refl _ _,H.out⟩
 case round =>
  obtain ⟨k,hk,hS,hO,hq⟩:=hrel
  have HQ:=Aside0.mk hq
  have HS2:=Aside0.mk hS
  have HO:=Aside0.mk hO
  have h0:=hS.c0
  have h1:=hS.c1
  have f1:=hS.f1
  clear hq hS hO
  by_cases hlt:k < s.size
  ·have hlt':decide ((k:Int) < (s.size:Int))=true:=decide_eq_true (by omega)
   have hbt:=bt_atN' s k
   obtain ⟨c,hc⟩:∃ c,c=bt s (k:Int):=⟨_,rfl⟩
   rw [← hc] at hbt
   have HC:=Aside0.mk hc
   clear hc
   by_cases c35:c=35
   ·have hq:SkipTo s (remS s k) j:=by
     have q:=HQ.out
     cases q with
     | fin h=>omega
     | rem h1 h2 h3=>exact h3
     | blk h1 h2 h3 h4=>exact absurd (HC.out ▸ c35) h2
     | stop h1 h2 h3=>exact absurd (HC.out ▸ c35) h2
    have hb:=remS_bounds s k hlt (HC.out ▸ c35)
    have HQ2:=Aside0.mk hq
    have HB:=Aside0.mk hb
    have HLT:=Aside0.mk hlt
    clear hq hb HC HQ
    subst c35
    have IX:=Aside0.mk (Tryz.strings_IndexByte (s.extract k s.size) 10)
    have hrs:remS s k=if 0 ≤ Lib.indexByte (s.extract k s.size).data.toList (10:Int).toNat.toUInt8 then k + (Lib.indexByte (s.extract k s.size).data.toList (10:Int).toNat.toUInt8).toNat else s.size:=rfl
    obtain ⟨n,hn⟩:∃ n,n=Lib.indexByte (s.extract k s.size).data.toList (10:Int).toNat.toUInt8:=⟨_,rfl⟩
    rw [← hn] at IX hrs
    have y2:((k:Int) ≤ (s.size:Int))=True:=eq_true (by omega)
    have y3:(k ≤ s.size)=True:=eq_true (by omega)
    clear hn
    by_cases hnn:0 ≤ n
    ·rw [if_pos hnn] at hrs
     have d0:decide (0 ≤ n)=true:=decide_eq_true hnn
     have y1:IntKind.i64.wrap ((k:Int) + n)=(k:Int) + n:=IntWalk.i64_in _ (by have:=HB.out;omega)
     have hre:(k:Int) + n=(remS s k:Int):=by omega
     have HRE:=Aside0.mk hre
     have HRS:=Aside0.mk hrs
     have HNN:=Aside0.mk hnn
     clear hrs hnn hre
     go_wp2
     repeat (go_quiet (exact (IX.out _).mono fun _ _ ⟨he,hm⟩=>⟨he,_,hm⟩);try go_wp2)
     try rw [HRE.out]
     refine ⟨⟨remS s k,HB.out.2,by repeat (first | exact HS2.out | apply Scan.set | apply Scan.drewN | apply Scan.drew),by repeat (first | exact HO.out | apply Only.set | apply Only.drewN | apply Only.drew | apply Only.alloc),HQ2.out⟩,?_⟩
     rw [Scan.at' (g:=g) (s:=s) (a:=(remS s k:Int)) (by repeat (first | exact HS2.out | apply Scan.set | apply Scan.drewN | apply Scan.drew)),HS2.out.at']
     have:=HB.out
     have:=HLT.out
     omega
    ·rw [if_neg hnn] at hrs
     have d0:decide (0 ≤ n)=false:=decide_eq_false hnn
     have HRS:=Aside0.mk hrs
     clear hrs hnn
     go_wp2
     repeat (go_quiet (exact (IX.out _).mono fun _ _ ⟨he,hm⟩=>⟨he,_,hm⟩);try go_wp2)
     refine ⟨⟨s.size,Nat.le_refl _,by repeat (first | exact HS2.out | apply Scan.set | apply Scan.drewN | apply Scan.drew),by repeat (first | exact HO.out | apply Only.set | apply Only.drewN | apply Only.drew | apply Only.alloc),by have q:=HQ2.out;rw [HRS.out] at q;exact q⟩,?_⟩
     rw [Scan.at' (g:=g) (s:=s) (a:=(s.size:Int)) (by repeat (first | exact HS2.out | apply Scan.set | apply Scan.drewN | apply Scan.drew)),HS2.out.at']
     have:=HLT.out
     omega
   ·have d35:(c == 35)=false:=beq_eq_false_iff_ne.mpr c35
    cases hb:isBlk c
    ·have hst:j=k:=by
      have q:=HQ.out
      cases q with
      | fin h=>rfl
      | rem h1 h2 h3=>exact absurd (HC.out.trans h2) c35
      | blk h1 h2 h3 h4=>rw [← HC.out,hb] at h3;cases h3
      | stop h1 h2 h3=>rfl
     have hb':=hb
     unfold isBlk at hb'
     simp only [Bool.or_eq_false_iff] at hb'
     obtain ⟨⟨⟨d32,d9⟩,d13⟩,d10⟩:=hb'
     have e:j=k:=hst
     have HE:=Aside0.mk e
     clear e hst hb c35
     go_wp2
     repeat (go_quiet (fail);try go_wp2)
     refine bodyPost_ret (v:=.tuple #[]) (by simp [results,Tryz.results78,go_sem]) rfl ⟨rfl,?_,?_⟩
     ·rw [HE.out];repeat (first | exact HS2.out | apply Scan.set | apply Scan.drewN | apply Scan.drew)
     ·repeat (first | exact HO.out | apply Only.set | apply Only.drewN | apply Only.drew | apply Only.alloc)
    ·have hst:SkipTo s (k + 1) j:=by
      have q:=HQ.out
      cases q with
      | fin h=>omega
      | rem h1 h2 h3=>exact absurd (HC.out.trans h2) c35
      | blk h1 h2 h3 h4=>exact h4
      | stop h1 h2 h3=>rw [← HC.out,hb] at h3;cases h3
     have HST2:=Aside0.mk hst
     have hb':=hb
     unfold isBlk at hb'
     clear hst hb c35
     cases d32:(c == 32)
     ·cases d9:(c == 9)
      ·cases d13:(c == 13)
       ·have d10:(c == 10)=true:=by rw [d32,d9,d13] at hb';simpa using hb'
        clear hb'
        go_wp2
        repeat (go_quiet (fail);try go_wp2)
        exact ⟨⟨k + 1,by omega,by repeat (first | exact HS2.out | apply Scan.set | apply Scan.drewN | apply Scan.drew),by repeat (first | exact HO.out | apply Only.set | apply Only.drewN | apply Only.drew | apply Only.alloc),HST2.out⟩,by
       rw [Scan.at' (g:=g) (s:=s) (a:=(k:Int) + 1) (by repeat (first | exact HS2.out | apply Scan.set | apply Scan.drewN | apply Scan.drew)),HS2.out.at'];omega⟩
       ·clear hb'
        go_wp2
        repeat (go_quiet (fail);try go_wp2)
        exact ⟨⟨k + 1,by omega,by repeat (first | exact HS2.out | apply Scan.set | apply Scan.drewN | apply Scan.drew),by repeat (first | exact HO.out | apply Only.set | apply Only.drewN | apply Only.drew | apply Only.alloc),HST2.out⟩,by
       rw [Scan.at' (g:=g) (s:=s) (a:=(k:Int) + 1) (by repeat (first | exact HS2.out | apply Scan.set | apply Scan.drewN | apply Scan.drew)),HS2.out.at'];omega⟩
      ·clear hb'
       go_wp2
       repeat (go_quiet (fail);try go_wp2)
       exact ⟨⟨k + 1,by omega,by repeat (first | exact HS2.out | apply Scan.set | apply Scan.drewN | apply Scan.drew),by repeat (first | exact HO.out | apply Only.set | apply Only.drewN | apply Only.drew | apply Only.alloc),HST2.out⟩,by
       rw [Scan.at' (g:=g) (s:=s) (a:=(k:Int) + 1) (by repeat (first | exact HS2.out | apply Scan.set | apply Scan.drewN | apply Scan.drew)),HS2.out.at'];omega⟩
     ·clear hb'
      go_wp2
      repeat (go_quiet (fail);try go_wp2)
      exact ⟨⟨k + 1,by omega,by repeat (first | exact HS2.out | apply Scan.set | apply Scan.drewN | apply Scan.drew),by repeat (first | exact HO.out | apply Only.set | apply Only.drewN | apply Only.drew | apply Only.alloc),HST2.out⟩,by
       rw [Scan.at' (g:=g) (s:=s) (a:=(k:Int) + 1) (by repeat (first | exact HS2.out | apply Scan.set | apply Scan.drewN | apply Scan.drew)),HS2.out.at'];omega⟩
  ·obtain rfl:k=s.size:=by omega
   have hlt':decide ((s.size:Int) < (s.size:Int))=false:=decide_eq_false (by omega)
   have e:j=s.size:=by
    have q:=HQ.out
    cases q with
    | fin h=>rfl
    | rem h1 h2 h3=>omega
    | blk h1 h2 h3 h4=>omega
    | stop h1 h2 h3=>omega
   have HE:=Aside0.mk e
   clear e
   go_wp2
   repeat (go_quiet (fail);try go_wp2)
   go_end0
   exact ⟨rfl,by rw [HE.out];repeat (first | exact HS2.out | apply Scan.set | apply Scan.drewN | apply Scan.drew),by repeat (first | exact HO.out | apply Only.set | apply Only.drewN | apply Only.drew | apply Only.alloc)⟩
end Go.Proofs.YtjapfefiaijfcaaGreatDoor.Q
