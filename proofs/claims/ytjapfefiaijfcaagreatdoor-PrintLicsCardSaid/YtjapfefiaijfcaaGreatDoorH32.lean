/- A text of the contracts of the printer of licensees. -/
import Derived.Test.YtjapfefiaijfcaaGreatDoorH18
import Derived.Test.YtjapfefiaijfcaaGreatDoorH27
namespace Go.Proofs.YtjapfefiaijfcaaGreatDoor.Q
open Go.RowKit Go.Proofs.YtjapfefiaijfcaaGreatDoorW.PrintWords Go.Proofs.YtjapfefiaijfcaaGreatDoorW.PrintLast Go.Proofs.YtjapfefiaijfcaaGreatDoorW.PrintMore
set_option linter.unusedVariables false
theorem strRun_inl {s:ByteArray} {p:Nat} {st st':StrSt} (h:strStep s p st = .inl st') (N:Nat):strRun s p (N + 1) st=strRun s p N st':=by
 show (match strStep s p st with | .inl st'=>strRun s p N st' | .inr r=>some r)=_
 rw [h]
theorem strRun_inr {s:ByteArray} {p:Nat} {st:StrSt} {r:StrR} (h:strStep s p st = .inr r) (N:Nat):strRun s p (N + 1) st=some r:=by
 show (match strStep s p st with | .inl st'=>strRun s p N st' | .inr r=>some r)=_
 rw [h]
theorem strRun_mono (s:ByteArray) (p:Nat):∀ (N:Nat) (st:StrSt) (r:StrR),strRun s p N st=some r → ∀ d,strRun s p (N + d) st=some r:=by
 intro N
 induction N with
 | zero=>intro st r h;cases h
 | succ N ih =>
  intro st r h d
  rw [show N + 1 + d=(N + d) + 1 by omega]
  cases hs:strStep s p st with
  | inl st'=>rw [strRun_inl hs] at h ⊢;exact ih st' r h d
  | inr r'=>rw [strRun_inr hs] at h ⊢;exact h
def Leads (s:ByteArray) (p:Nat) (a b:StrSt):Prop:=∃ m,∀ N,strRun s p (N + m) a=strRun s p N b
theorem Leads.refl (s:ByteArray) (p:Nat) (a:StrSt):Leads s p a a:=⟨0,fun _=>rfl⟩
theorem Leads.trans {s:ByteArray} {p:Nat} {a b c:StrSt} (h:Leads s p a b) (k:Leads s p b c):Leads s p a c:=by
 obtain ⟨m,h⟩:=h;obtain ⟨n,k⟩:=k
 exact ⟨n + m,fun N=>by rw [show N + (n + m)=(N + n) + m by omega,h,k]⟩
theorem Leads.one {s:ByteArray} {p:Nat} {a b:StrSt} (h:strStep s p a = .inl b):Leads s p a b:=⟨1,fun N=>strRun_inl h N⟩
theorem esc_leads (s:ByteArray) (p q:Nat) (b:List Int) (c:Int) (hc:0 ≤ c ∧ c ≤ 255) (hq:q + (escS c).length ≤ s.size) (hb:∀ i (h:i < (escS c).length),bt s ((q + i:Nat):Int)=(escS c)[i]) :
  Leads s p (.plain q b) (.plain (q + (escS c).length) (b ++ [c])):=by
 by_cases h1:c=34 ∨ c=92
 ·have e:=escS_q c h1
  rw [e] at hq hb ⊢
  have b0:bt s (q:Int)=92:=hb 0 (by simp)
  have b1:bt s ((q + 1:Nat):Int)=c:=hb 1 (by simp)
  simp only [List.length_cons,List.length_nil] at hq ⊢
  refine (Leads.one (b:=.slash (q + 1) b) ?_).trans (Leads.one ?_)
  ·simp only [strStep]
   rw [if_neg (by omega),if_neg (by omega),if_neg (by omega),if_pos b0]
  ·simp only [strStep]
   rw [if_neg (by omega),if_pos (by omega),b1]
 by_cases h10:c=10
 ·subst h10
  have b0:bt s (q:Int)=92:=hb 0 (by decide)
  have b1:bt s ((q + 1:Nat):Int)=110:=hb 1 (by decide)
  have hq':q + 2 ≤ s.size:=hq
  show Leads s p (.plain q b) (.plain (q + 2) (b ++ [10]))
  refine (Leads.one (b:=.slash (q + 1) b) ?_).trans (Leads.one ?_)
  ·simp only [strStep]
   rw [if_neg (by omega),if_neg (by omega),if_neg (by omega),if_pos b0]
  ·simp only [strStep]
   rw [if_neg (by omega),if_neg (by omega),if_pos b1]
 by_cases h9:c=9
 ·subst h9
  have b0:bt s (q:Int)=92:=hb 0 (by decide)
  have b1:bt s ((q + 1:Nat):Int)=116:=hb 1 (by decide)
  have hq':q + 2 ≤ s.size:=hq
  show Leads s p (.plain q b) (.plain (q + 2) (b ++ [9]))
  refine (Leads.one (b:=.slash (q + 1) b) ?_).trans (Leads.one ?_)
  ·simp only [strStep]
   rw [if_neg (by omega),if_neg (by omega),if_neg (by omega),if_pos b0]
  ·simp only [strStep]
   rw [if_neg (by omega),if_neg (by omega),if_neg (by omega),if_pos b1]
 by_cases h13:c=13
 ·subst h13
  have b0:bt s (q:Int)=92:=hb 0 (by decide)
  have b1:bt s ((q + 1:Nat):Int)=114:=hb 1 (by decide)
  have hq':q + 2 ≤ s.size:=hq
  show Leads s p (.plain q b) (.plain (q + 2) (b ++ [13]))
  refine (Leads.one (b:=.slash (q + 1) b) ?_).trans (Leads.one ?_)
  ·simp only [strStep]
   rw [if_neg (by omega),if_neg (by omega),if_neg (by omega),if_pos b0]
  ·simp only [strStep]
   rw [if_neg (by omega),if_neg (by omega),if_neg (by omega),if_neg (by omega),if_pos b1]
 by_cases ho:c < 32 ∨ 126 < c
 ·have e:=escS_o c (by omega) (by omega) h10 h9 h13 ho
  rw [e] at hq hb ⊢
  have b0:bt s (q:Int)=92:=hb 0 (by simp)
  have b1:bt s ((q + 1:Nat):Int)=48 + c / 64:=hb 1 (by simp)
  have b2:bt s ((q + 2:Nat):Int)=48 + c / 8 % 8:=hb 2 (by simp)
  have b3:bt s ((q + 3:Nat):Int)=48 + c % 8:=hb 3 (by simp)
  simp only [List.length_cons,List.length_nil] at hq ⊢
  refine (Leads.one (b:=.slash (q + 1) b) ?_).trans ((Leads.one (b:=.digits (q + 1) b 0 0) ?_).trans ((Leads.one (b:=.digits (q + 2) b (c / 64).toNat 1) ?_).trans ((Leads.one (b:=.digits (q + 3) b ((c / 64).toNat * 8 + (c / 8 % 8).toNat) 2) ?_).trans ((Leads.one (b:=.digits (q + 4) b c.toNat 3) ?_).trans (Leads.one ?_)))))
  ·simp only [strStep]
   rw [if_neg (by omega),if_neg (by omega),if_neg (by omega),if_pos b0]
  ·simp only [strStep]
   rw [if_neg (by omega),if_neg (by omega),if_neg (by omega),if_neg (by omega),if_neg (by omega),if_neg (by omega)]
  ·simp only [strStep]
   rw [if_neg (by omega),if_neg (by omega),if_neg (by omega),b1]
   congr 2
   omega
  ·simp only [strStep]
   rw [if_neg (by omega),if_neg (by omega),if_neg (by omega),b2]
   congr 2
   omega
  ·simp only [strStep]
   rw [if_neg (by omega),if_neg (by omega),if_neg (by omega),b3]
   congr 2
   omega
  ·simp only [strStep]
   rw [if_pos True.intro,if_neg (by omega)]
   congr 4
   omega
 ·have e:=escS_p c (by omega) (by omega) h10 h9 h13 ho
  rw [e] at hq hb ⊢
  have b0:bt s (q:Int)=c:=hb 0 (by simp)
  simp only [List.length_cons,List.length_nil] at hq ⊢
  refine Leads.one ?_
  simp only [strStep]
  rw [if_neg (by omega),if_neg (by omega),if_neg (by omega),if_neg (by omega),b0]
theorem quoteN_pos (t:ByteArray) (k:Nat):0 < (quoteN t k).length:=by
 induction k with
 | zero=>simp [quoteN]
 | succ k ih=>rw [quoteN,List.length_append];omega
def bytesN (t:ByteArray) (k:Nat):List Int:=(List.range k).map fun (j:Nat)=>bt t (j:Int)
theorem bytesN_all (t:ByteArray):strOfNums (bytesN t t.size)=t:=by
 apply ByteArray.ext
 apply Array.ext
 ·simp [strOfNums,bytesN]
 ·intro i h1 h2
  have hi:i < t.size:=h2
  simp [strOfNums,bytesN,bt]
  rw [dif_pos hi,Int.toNat_natCast,UInt8.ofNat_toNat]
  rfl
theorem quote_leads (s:ByteArray) (p:Nat) (t:ByteArray) (hq:p + (quoteN t t.size).length + 1 ≤ s.size) (hb:∀ i (h:i < (quoteN t t.size ++ [34]).length),bt s ((p + i:Nat):Int)=(quoteN t t.size ++ [34])[i]) :
  ∀ k,k ≤ t.size → Leads s p (.plain (p + 1) []) (.plain (p + (quoteN t k).length) (bytesN t k)):=by
 have hpre:∀ d k,k + d=t.size → ∃ r,quoteN t t.size=quoteN t k ++ r:=by
  intro d
  induction d with
  | zero=>intro k h;exact ⟨[],by rw [List.append_nil,show k=t.size by omega]⟩
  | succ d ih =>
   intro k h
   obtain ⟨r,hr⟩:=ih (k + 1) (by omega)
   exact ⟨escS (bt t (k:Int)) ++ r,by rw [hr,quoteN,List.append_assoc]⟩
 intro k
 induction k with
 | zero=>intro _;exact Leads.refl _ _ _
 | succ k ih =>
  intro hk
  refine (ih (by omega)).trans ?_
  obtain ⟨r,hr⟩:=hpre (t.size - (k + 1)) (k + 1) (by omega)
  have hlen:(quoteN t t.size).length=(quoteN t k).length + (escS (bt t (k:Int))).length + r.length:=by rw [hr,quoteN];simp only [List.length_append]
  have:=esc_leads s p (p + (quoteN t k).length) (bytesN t k) (bt t (k:Int)) (bt_range t _) (by omega) (fun i hi=>by
   have h1:=hb ((quoteN t k).length + i) (by simp only [List.length_append,List.length_singleton];omega)
   rw [← Nat.add_assoc] at h1
   rw [h1]
   have h2:(quoteN t t.size ++ [34])[(quoteN t k).length + i]? = some (escS (bt t (k:Int)))[i]:=by
    rw [hr,quoteN,List.append_assoc,List.append_assoc,List.getElem?_append_right (by omega),Nat.add_sub_cancel_left,List.getElem?_append_left hi,List.getElem?_eq_getElem hi]
   rw [List.getElem?_eq_getElem (by simp only [List.length_append,List.length_singleton];omega)] at h2
   exact Option.some.inj h2)
  rw [show bytesN t (k + 1)=bytesN t k ++ [bt t (k:Int)] by simp [bytesN,List.range_succ]]
  have hl:(quoteN t (k + 1)).length=(quoteN t k).length + (escS (bt t (k:Int))).length:=by rw [quoteN,List.length_append]
  rw [hl,← Nat.add_assoc]
  exact this
theorem quote_next (s:ByteArray) (p:Nat) (t:ByteArray) (hq:p + (quoteS t).size ≤ s.size) (hb:∀ i (h:i < (quoteN t t.size ++ [34]).length),bt s ((p + i:Nat):Int)=(quoteN t t.size ++ [34])[i]) :
  nextS s p=(⟨4,t,p,((p + (quoteS t).size:Nat):Int)⟩,0,0):=by
 have hsz:(quoteS t).size=(quoteN t t.size).length + 1:=by unfold quoteS;rw [nums_size,List.length_append];rfl
 rw [hsz] at hq ⊢
 have h0:bt s (p:Int)=34:=by
  have h1:=hb 0 (by simp)
  have:∀ k,(quoteN t k)[0]? = some 34:=by
   intro k
   induction k with
   | zero=>rfl
   | succ k ih=>rw [quoteN,List.getElem?_append_left (quoteN_pos t k),ih]
  have h2:(quoteN t t.size ++ [34])[0]? = some 34:=by
   rw [List.getElem?_append_left (quoteN_pos t t.size)]
   exact this _
  rw [List.getElem?_eq_getElem (by simp)] at h2
  exact h1.trans (Option.some.inj h2)
 obtain ⟨m,hm⟩:=quote_leads s p t (by omega) hb t.size (Nat.le_refl _)
 have hend:strStep s p (.plain (p + (quoteN t t.size).length) (bytesN t t.size)) = .inr (⟨4,t,p,((p + ((quoteN t t.size).length + 1):Nat):Int)⟩,0,0):=by
  have h1:=hb (quoteN t t.size).length (by simp)
  have h2:(quoteN t t.size ++ [34])[(quoteN t t.size).length]? = some 34:=by simp
  rw [List.getElem?_eq_getElem (by simp)] at h2
  rw [Option.some.inj h2] at h1
  simp only [strStep]
  rw [if_neg (by omega),if_neg (by omega),if_pos h1,bytesN_all]
  rfl
 have hrun:=(hm 1).trans (strRun_inr hend 0)
 obtain ⟨r,hr,-⟩:=strRun_ok s p (by omega) (strMu s (.plain (p + 1) []) + 1) (.plain (p + 1) []) (Nat.lt_succ_self _) (by simp only [StrInv];omega)
 have e1:=strRun_mono s p _ _ _ hr (1 + m)
 have e2:=strRun_mono s p _ _ _ hrun (strMu s (.plain (p + 1) []) + 1)
 rw [Nat.add_comm] at e2
 rw [e1] at e2
 unfold nextS
 rw [if_neg (by simp [isLetter,h0]),if_neg (by simp [isDigit,h0]),if_pos h0,hr,Option.some.inj e2]
 rfl
end Go.Proofs.YtjapfefiaijfcaaGreatDoor.Q
