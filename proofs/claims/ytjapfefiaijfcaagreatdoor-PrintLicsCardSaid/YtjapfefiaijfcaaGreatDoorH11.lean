/- The contract of the scanner's sign, at every text and place. -/
import Derived.Test.YtjapfefiaijfcaaGreatDoorH2
import Derived.Test.YtjapfefiaijfcaaGreatDoorH5
import Derived.Test.YtjapfefiaijfcaaGreatDoorH8
namespace Go.Proofs.YtjapfefiaijfcaaGreatDoor.Q
open Go.RowKit Go.Proofs.YtjapfefiaijfcaaGreatDoorW.PrintWords Go.Proofs.YtjapfefiaijfcaaGreatDoorW.PrintLast Go.Proofs.YtjapfefiaijfcaaGreatDoorW.PrintMore
set_option linter.unusedVariables false
def twoNm (i:Nat):ByteArray:=match i with
 | 0=>⟨#[45,62]⟩
 | 1=>⟨#[38,38]⟩
 | 2=>⟨#[124,124]⟩
 | 3=>⟨#[61,61]⟩
 | 4=>⟨#[33,61]⟩
 | 5=>⟨#[60,61]⟩
 | 6=>⟨#[62,61]⟩
 | _=>⟨#[126,61]⟩
def twosAr:Array Value:=#[.string ⟨#[45,62]⟩,.string ⟨#[38,38]⟩,.string ⟨#[124,124]⟩,.string ⟨#[61,61]⟩,.string ⟨#[33,61]⟩,.string ⟨#[60,61]⟩,.string ⟨#[62,61]⟩,.string ⟨#[126,61]⟩]
theorem idxTwo_0 (w:World):(Instr.index 153 (.agg twosAr) (.int .i64 0)).run Tryz.prog w = .ok (.string (twoNm 0)) w:=by kernel_rfl
theorem idxTwo_1 (w:World):(Instr.index 153 (.agg twosAr) (.int .i64 1)).run Tryz.prog w = .ok (.string (twoNm 1)) w:=by kernel_rfl
theorem idxTwo_2 (w:World):(Instr.index 153 (.agg twosAr) (.int .i64 2)).run Tryz.prog w = .ok (.string (twoNm 2)) w:=by kernel_rfl
theorem idxTwo_3 (w:World):(Instr.index 153 (.agg twosAr) (.int .i64 3)).run Tryz.prog w = .ok (.string (twoNm 3)) w:=by kernel_rfl
theorem idxTwo_4 (w:World):(Instr.index 153 (.agg twosAr) (.int .i64 4)).run Tryz.prog w = .ok (.string (twoNm 4)) w:=by kernel_rfl
theorem idxTwo_5 (w:World):(Instr.index 153 (.agg twosAr) (.int .i64 5)).run Tryz.prog w = .ok (.string (twoNm 5)) w:=by kernel_rfl
theorem idxTwo_6 (w:World):(Instr.index 153 (.agg twosAr) (.int .i64 6)).run Tryz.prog w = .ok (.string (twoNm 6)) w:=by kernel_rfl
theorem idxTwo_7 (w:World):(Instr.index 153 (.agg twosAr) (.int .i64 7)).run Tryz.prog w = .ok (.string (twoNm 7)) w:=by kernel_rfl
theorem idxTwo (k:Nat) (hk:k < 8) (w:World):(Instr.index 153 (.agg twosAr) (.int .i64 k)).run Tryz.prog w = .ok (.string (twoNm k)) w:=by
 match k,hk with
 | 0,_=>exact idxTwo_0 w
 | 1,_=>exact idxTwo_1 w
 | 2,_=>exact idxTwo_2 w
 | 3,_=>exact idxTwo_3 w
 | 4,_=>exact idxTwo_4 w
 | 5,_=>exact idxTwo_5 w
 | 6,_=>exact idxTwo_6 w
 | 7,_=>exact idxTwo_7 w
def hasPre (s p:ByteArray):Bool:=decide (p.size ≤ s.size) && ((s.extract 0 p.size).toList == p.toList)
theorem hasPre_some (s p:ByteArray):strings_HasPrefix.f s p=some (hasPre s p):=by
 unfold strings_HasPrefix.f stringslite_HasPrefix.f hasPre
 by_cases h:p.size ≤ s.size
 ·rw [if_pos (by omega),if_pos (by omega),if_pos (by omega),decide_eq_true h]
  simp
 ·rw [if_neg (by omega),decide_eq_false h];rfl
def hasTwo (s:ByteArray):Nat → Nat → Bool
 | 0,_=>false
 | d + 1,k=>hasPre s (twoNm k) || hasTwo s d (k + 1)
def signs:ByteArray:=⟨#[40,41,123,125,59,33,60,62,43,45,42,47,37,94,46,36,64,38,44,61]⟩
def signS (s:ByteArray) (i:Nat):Int:=if hasTwo (s.extract i s.size) 8 0=true then 2 else if 0 ≤ Lib.indexByte signs.data.toList (bt s i).toNat.toUInt8 then 1 else 0
set_option maxHeartbeats 8000000 in
set_option maxRecDepth 100000 in
theorem tokens_sign.calls (g:Nat) (s:ByteArray) (i:Nat) (w:World) (hS:Scan w g s i) (hs:s.size ≤ 65536) (hi:i < s.size) :
  Calls Tryz.prog 103 #[.pointer (some ⟨g,0,none⟩)] w fun e w'=>e = .returned (.int .i64 (signS s i)) ∧ Below w.heap.size w w':=by
 have HS:=Aside0.mk hS
 have f0:=hS.c0
 have f1:=hS.c1
 obtain ⟨r,hr⟩:∃ r,r=signS s i:=⟨_,rfl⟩
 rw [← hr]
 obtain ⟨x,hx⟩:∃ x,x=s.extract i s.size:=⟨_,rfl⟩
 have hz:x.size=s.size - i:=by rw [hx];simp [ByteArray.size_extract]
 have hxx:∀ h:0 < (s.extract i s.size).size,(((s.extract i s.size)[0]'h).toNat:Int)=bt s (i:Int):=by
  intro h
  have hzz:(s.extract i s.size).size=s.size - i:=by simp [ByteArray.size_extract]
  have:=bt_atN' s i hi
  rw [← this,ByteArray.getElem_extract];rfl
 have z0:(0 < x.size)=True:=eq_true (by omega)
 have HX:=Aside0.mk hx
 have HR:=Aside0.mk hr
 have z1:(0 < s.size - i)=True:=eq_true (by omega)
 have z2:(i ≤ s.size)=True:=eq_true (by omega)
 have z3:((i:Int) ≤ (s.size:Int))=True:=eq_true (by omega)
 have ix:=Tryz.strings_IndexByte ⟨#[40,41,123,125,59,33,60,62,43,45,42,47,37,94,46,36,64,38,44,61]⟩ (bt s (i:Int))
 obtain ⟨n,hn⟩:∃ n,n=Lib.indexByte signs.data.toList (bt s (i:Int)).toNat.toUInt8:=⟨_,rfl⟩
 have hix:∀ w,Calls Tryz.prog 96 #[.string ⟨#[40,41,123,125,59,33,60,62,43,45,42,47,37,94,46,36,64,38,44,61]⟩,.int .u8 (bt s (i:Int))] w fun e w'=>e = .returned (.int .i64 n) ∧ w' = w:=fun w=>by rw [hn];exact ix w
 have IX:=Aside0.mk hix
 have HN:=Aside0.mk hn
 clear hS hx hz hr ix hix hn
 go_enter Tryz.func103,Tryz.ntmps103
 go_wp2
 repeat (go_quiet (fail);try go_wp2)
 rw [← HX.out]
 go_loopw [16] (fun v wr=>∃ k:Nat,k ≤ 8 ∧ v = .int .i64 k ∧ hasTwo x 8 0=hasTwo x (8 - k) k ∧ Below w.heap.size w wr) (fun v _=>8 - (intOf v).toNat)
 case atStart=>exact ⟨0,by omega,rfl,rfl,by repeat (first | exact Below.refl _ _ | apply pw_below_drewN | apply below_drew1)⟩
 case round =>
  obtain ⟨k,hk,rfl,hq,hb⟩:=hrel
  have HQ:=Aside0.mk hq
  have HB:=Aside0.mk hb
  clear hq hb
  by_cases hlt:k < 8
  ·have hx:=idxTwo k hlt
   unfold twosAr at hx
   have hlt':decide ((k:Int) < 8)=true:=decide_eq_true (by omega)
   have hs2:hasTwo x 8 0=(hasPre x (twoNm k) || hasTwo x (7 - k) (k + 1)):=by
    have q:=HQ.out
    rw [show 8 - k=(7 - k) + 1 from by omega] at q
    exact q
   have HS2:=Aside0.mk hs2
   have HP:=Aside0.mk (hasPre_some x (twoNm k))
   clear hs2
   cases hp:hasPre x (twoNm k) with
   | true =>
    rw [hp] at HP HS2
    have e:r=2:=by rw [HR.out];unfold signS;rw [← HX.out,HS2.out];rfl
    have HE:=Aside0.mk e
    clear e hp
    go_wp2_with (first | (go_at_call 122;(with_reducible refine (strings_HasPrefix.calls x (twoNm k) true _ HP.out).mono ?_);rintro e_ w_ ⟨rfl,⟨nd,rfl⟩⟩))
    go_ret
    exact ⟨by rw [HE.out] <;> rfl,pw_below_drewN HB.out _⟩
   | false =>
    rw [hp] at HP HS2
    clear hp
    go_wp2_with (first | (go_at_call 122;(with_reducible refine (strings_HasPrefix.calls x (twoNm k) false _ HP.out).mono ?_);rintro e_ w_ ⟨rfl,⟨nd,rfl⟩⟩))
    go_roundw
    case rel=>exact ⟨k + 1,by omega,by go_num,by rw [show 8 - (k + 1)=7 - k from by omega];exact HS2.out,pw_below_drewN HB.out _⟩
    case measure=>simp [intOf];omega
  ·obtain rfl:k=8:=by omega
   have hlt':decide ((8:Int) < 8)=false:=by decide
   have hs2:=HQ.out
   rw [Nat.sub_self] at hs2
   have e:r=if 0 ≤ n then 1 else 0:=by rw [HR.out];unfold signS;rw [← HX.out,hs2,← HN.out];rfl
   have HE:=Aside0.mk e
   rw [← HX.out] at hxx
   clear e hs2
   by_cases hn:0 ≤ n
   ·have d0:decide (0 ≤ n)=true:=decide_eq_true hn
    go_wp2_with (first | (go_at_call 96;(with_reducible refine (IX.out _).mono ?_);rintro e_ w_ ⟨rfl,rfl⟩))
    go_ret
    exact ⟨by rw [HE.out,if_pos hn] <;> rfl,HB.out⟩
   ·have d0:decide (0 ≤ n)=false:=decide_eq_false hn
    go_wp2_with (first | (go_at_call 96;(with_reducible refine (IX.out _).mono ?_);rintro e_ w_ ⟨rfl,rfl⟩))
    go_ret
    exact ⟨by rw [HE.out,if_neg (by omega)] <;> rfl,HB.out⟩
end Go.Proofs.YtjapfefiaijfcaaGreatDoor.Q
