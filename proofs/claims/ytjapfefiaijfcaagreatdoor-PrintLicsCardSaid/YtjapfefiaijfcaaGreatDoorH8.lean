/- The contract of the scanner's string, at the texts that this claim's own body has. A scope with several labels; what the scanner's string reads, step by step. -/
import Derived.StillTailTactics
import Derived.ScopeJumps
import Derived.WalkMore
import Derived.Test.YtjapfefiaijfcaaGreatDoorH5
namespace Go.Proofs.YtjapfefiaijfcaaGreatDoor.Q
open Go.RowKit Go.Proofs.YtjapfefiaijfcaaGreatDoorW.PrintWords Go.Proofs.YtjapfefiaijfcaaGreatDoorW.PrintLast Go.Proofs.YtjapfefiaijfcaaGreatDoorW.PrintMore
set_option linter.unusedVariables false
theorem below_set' {w W:World} {j:Nat} {v:Value} (h:Below w.heap.size w W):Below w.heap.size w (W.setCell ⟨w.heap.size,j,none⟩ v):=h.setCell (Nat.le_refl _) _
theorem still_tail {P:Program} {id:Nat} {Q:Exit → Act → World → Prop} {a:Act} {w:World} {l:List Oper} (n:Nat) (hm:P.follows .mixedOrders=true) (hB:Region.lexTailB .any l.toArray n=true)
  (h:wpStill P l.toArray w.drew (fun a'=>wpList P l.toArray Q (l.drop n) a' w.drew) (l.take n) a):(Code.region id l.toArray true).wp P Q a w:=wp_region_still_tail n hm hB h
end Go.Proofs.YtjapfefiaijfcaaGreatDoor.Q
namespace Go.Proofs.YtjapfefiaijfcaaGreatDoor.Q
open Go.RowKit Go.Proofs.YtjapfefiaijfcaaGreatDoorW.PrintWords Go.Proofs.YtjapfefiaijfcaaGreatDoorW.PrintLast Go.Proofs.YtjapfefiaijfcaaGreatDoorW.PrintMore
set_option linter.unusedVariables false
def jumpsTo (J:Nat → Act → World → Prop) (Q:Exit → Act → World → Prop):Exit → Act → World → Prop
 | .goto l,a,w=>J l a w
 | e,a,w=>Q e a w
theorem wp_scope_labels {P:Program} {a:Act} {w:World} {Q:Exit → Act → World → Prop} {c:Code} (J:Nat → Nat → Act → World → Prop)
  (first:c.wp P (jumpsTo (fun l a w=>∃ m,J l m a w) Q) a w)
  (pass:∀ l m a w,J l m a w → ∃ rest,findLabel c l=some rest ∧ rest.wp P (jumpsTo (fun l' a' w'=>∃ m',m' < m ∧ J l' m' a' w') Q) a w):(Code.scope c).wp P Q a w:=by
 intro b k cs
 have hg:∀ l rest,findLabel c l=some rest → gotoIn l (.inScope c :: k)=some (.code rest :: .inScope c :: k):=fun l rest hf=>by simp [gotoIn,hf]
 have key:∀ m l a w,J l m a w → ∃ rest,findLabel c l=some rest ∧ ∃ e a' w',Q e a' w' ∧ Arrives P (lone (b.at a (.code rest :: .inScope c :: k)) cs w) b k cs e a' w':=by
  intro m
  induction m using Nat.strongRecOn with
  | _ m ih =>
   intro l a w hJ
   obtain ⟨rest,hf,hp⟩:=pass l m a w hJ
   refine ⟨rest,hf,?_⟩
   obtain ⟨e,a₁,w₁,hq,harr⟩:=hp b (.inScope c :: k) cs
   cases e with
   | normal=>exact ⟨.normal,a₁,w₁,hq,Steps.trans harr (.one step_inScope)⟩
   | exit id=>exact ⟨.exit id,a₁,w₁,hq,fun k' hk=>harr k' (by simp [exitTo,hk])⟩
   | goto l' =>
    obtain ⟨m',hlt,hJ'⟩:=hq
    obtain ⟨rest',hf',e₂,a₂,w₂,hq₂,harr₂⟩:=ih m' hlt l' a₁ w₁ hJ'
    exact ⟨e₂,a₂,w₂,hq₂,.of_steps (harr _ (hg _ _ hf')) harr₂⟩
   | ret=>exact ⟨_,a₁,w₁,hq,harr⟩
   | panic ch=>exact ⟨_,a₁,w₁,hq,harr⟩
   | outgrown=>exact ⟨_,a₁,w₁,hq,harr⟩
 obtain ⟨e,a₁,w₁,hq,harr⟩:=first b (.inScope c :: k) cs
 cases e with
 | normal=>exact ⟨.normal,a₁,w₁,hq,.head step_scope (Steps.trans harr (.one step_inScope))⟩
 | exit id=>exact ⟨.exit id,a₁,w₁,hq,fun k' hk=>.head step_scope (harr k' (by simp [exitTo,hk]))⟩
 | goto l' =>
  obtain ⟨m,hJ'⟩:=hq
  obtain ⟨rest,hf,e₂,a₂,w₂,hq₂,harr₂⟩:=key m l' a₁ w₁ hJ'
  exact ⟨e₂,a₂,w₂,hq₂,.of_steps (.head step_scope (harr _ (hg _ _ hf))) harr₂⟩
 | ret=>exact ⟨_,a₁,w₁,hq,.of_steps (.one step_scope) harr⟩
 | panic ch=>exact ⟨_,a₁,w₁,hq,.of_steps (.one step_scope) harr⟩
 | outgrown=>exact ⟨_,a₁,w₁,hq,.of_steps (.one step_scope) harr⟩
inductive StrSt
 | plain (i:Nat) (b:List Int)
 | slash (i:Nat) (b:List Int)
 | broken (i:Nat) (b:List Int)
 | digits (i:Nat) (b:List Int) (n k:Nat)
def StrSt.lab:StrSt → Nat
 | .plain _ _=>0
 | .slash _ _=>1
 | .broken _ _=>2
 | .digits _ _ _ _=>3
def StrSt.i:StrSt → Nat
 | .plain i _=>i
 | .slash i _=>i
 | .broken i _=>i
 | .digits i _ _ _=>i
def StrSt.b:StrSt → List Int
 | .plain _ b=>b
 | .slash _ b=>b
 | .broken _ b=>b
 | .digits _ b _ _=>b
def StrSt.k:StrSt → Nat
 | .digits _ _ _ k=>k
 | _=>0
abbrev StrR:Type:=S70 × Int × Int
def strErr (p e:Int):StrR:=(⟨0,⟨#[]⟩,0,0⟩,p,e)
def skipB (s:ByteArray):Nat → Nat → Nat
 | 0,i=>i
 | d + 1,i=>if i < s.size then (if bt s (i:Int)=32 ∨ bt s (i:Int)=9 ∨ bt s (i:Int)=13 then skipB s d (i + 1) else i) else i
def strStep (s:ByteArray) (p:Nat):StrSt → StrSt ⊕ StrR
 | .plain i b=>if s.size ≤ i then .inr (strErr p 141) else if bt s (i:Int)=10 then .inr (strErr p 141) else if bt s (i:Int)=34 then .inr (⟨4,strOfNums b,p,((i + 1:Nat):Int)⟩,0,0) else if bt s (i:Int)=92 then .inl (.slash (i + 1) b) else .inl (.plain (i + 1) (b ++ [bt s (i:Int)]))
 | .slash i b=>if s.size ≤ i then .inr (strErr p 141) else if bt s (i:Int)=34 ∨ bt s (i:Int)=92 then .inl (.plain (i + 1) (b ++ [bt s (i:Int)])) else if bt s (i:Int)=110 then .inl (.plain (i + 1) (b ++ [10])) else if bt s (i:Int)=116 then .inl (.plain (i + 1) (b ++ [9])) else if bt s (i:Int)=114 then .inl (.plain (i + 1) (b ++ [13])) else if bt s (i:Int)=10 then .inl (.broken i b) else .inl (.digits i b 0 0)
 | .broken i b=>.inl (.plain (skipB s (s.size - (i + 1)) (i + 1)) b)
 | .digits i b n k=>if k=3 then (if 255 < n then .inr (strErr ((i:Int) - 4) 142) else .inl (.plain i (b ++ [(n:Int)]))) else if s.size ≤ i then .inr (strErr p 141) else if bt s (i:Int) < 48 ∨ 55 < bt s (i:Int) then .inr (strErr ((i:Int) - k - 1) 142) else .inl (.digits (i + 1) b (n * 8 + ((bt s (i:Int)).toNat - 48)) (k + 1))
def strRun (s:ByteArray) (p:Nat):Nat → StrSt → Option StrR
 | 0,_=>none
 | m + 1,st=>match strStep s p st with
  | .inl st'=>strRun s p m st'
  | .inr r=>some r
def StrGood (s:ByteArray) (p:Nat) (r:StrR):Prop:=(r.2.2=0 ∧ r.2.1=0 ∧ r.1.f0=4 ∧ r.1.f2=p ∧ (p:Int) < r.1.f3 ∧ r.1.f3 ≤ s.size) ∨ ((r.2.2=141 ∨ r.2.2=142) ∧ 0 ≤ r.2.1 ∧ r.2.1 ≤ s.size)
def StrInv (s:ByteArray) (p:Nat):StrSt → Prop
 | .plain i b=>p + 1 ≤ i ∧ i ≤ s.size
 | .slash i b=>p + 2 ≤ i ∧ i ≤ s.size
 | .broken i b=>p + 2 ≤ i ∧ i < s.size
 | .digits i b n k=>p + 2 + k ≤ i ∧ i ≤ s.size ∧ k ≤ 3 ∧ n < 8 ^ k
def strMu (s:ByteArray):StrSt → Nat
 | .plain i _=>8 * (s.size + 1 - i) + 3
 | .slash i _=>8 * (s.size + 1 - i) + 6
 | .broken i _=>8 * (s.size + 1 - i) + 5
 | .digits i _ _ _=>8 * (s.size + 1 - i) + 5
theorem skipB_le (s:ByteArray):∀ d i,i + d=s.size → i ≤ skipB s d i ∧ skipB s d i ≤ s.size:=by
 intro d
 induction d with
 | zero=>intro i h;exact ⟨Nat.le_refl _,by unfold skipB;omega⟩
 | succ d ih =>
  intro i h
  unfold skipB
  split
  ·split
   ·have:=ih (i + 1) (by omega);omega
   ·omega
  ·omega
def StepGood (s:ByteArray) (p:Nat) (st:StrSt) (x:StrSt ⊕ StrR):Prop:=(∃ st',x = .inl st' ∧ StrInv s p st' ∧ strMu s st' < strMu s st) ∨ ∃ r,x = .inr r ∧ StrGood s p r
theorem stepGood_l {s:ByteArray} {p:Nat} {st st':StrSt} (h:StrInv s p st') (k:strMu s st' < strMu s st):StepGood s p st (.inl st'):=.inl ⟨st',rfl,h,k⟩
theorem stepGood_r {s:ByteArray} {p:Nat} {st:StrSt} {r:StrR} (h:StrGood s p r):StepGood s p st (.inr r):=.inr ⟨r,rfl,h⟩
theorem good_err {s:ByteArray} {p:Nat} {q e:Int} (h:e=141 ∨ e=142) (h0:0 ≤ q) (h1:q ≤ s.size):StrGood s p (strErr q e):=.inr ⟨h,h0,h1⟩
theorem good_tok {s:ByteArray} {p i:Nat} {t:ByteArray} (h0:p < i) (h1:i ≤ s.size):StrGood s p (⟨4,t,(p:Int),(i:Int)⟩,0,0):=.inl ⟨rfl,rfl,rfl,rfl,by simp only;omega,by simp only;omega⟩
theorem strStep_ok (s:ByteArray) (p:Nat) (hp:p < s.size) (st:StrSt) (h:StrInv s p st):StepGood s p st (strStep s p st):=by
 cases st with
 | plain i b =>
  obtain ⟨h1,h2⟩:=h
  simp only [strStep]
  split
  ·exact stepGood_r (good_err (.inl rfl) (by omega) (by omega))
  ·split
   ·exact stepGood_r (good_err (.inl rfl) (by omega) (by omega))
   ·split
    ·exact stepGood_r (good_tok (by omega) (by omega))
    ·split
     ·exact stepGood_l (by simp only [StrInv];omega) (by simp only [strMu];omega)
     ·exact stepGood_l (by simp only [StrInv];omega) (by simp only [strMu];omega)
 | slash i b =>
  obtain ⟨h1,h2⟩:=h
  simp only [strStep]
  split
  ·exact stepGood_r (good_err (.inl rfl) (by omega) (by omega))
  ·split
   ·exact stepGood_l (by simp only [StrInv];omega) (by simp only [strMu];omega)
   ·split
    ·exact stepGood_l (by simp only [StrInv];omega) (by simp only [strMu];omega)
    ·split
     ·exact stepGood_l (by simp only [StrInv];omega) (by simp only [strMu];omega)
     ·split
      ·exact stepGood_l (by simp only [StrInv];omega) (by simp only [strMu];omega)
      ·split
       ·exact stepGood_l (by simp only [StrInv];omega) (by simp only [strMu];omega)
       ·exact stepGood_l (by simp [StrInv];omega) (by simp only [strMu];omega)
 | broken i b =>
  obtain ⟨h1,h2⟩:=h
  have:=skipB_le s (s.size - (i + 1)) (i + 1) (by omega)
  exact stepGood_l (by simp only [StrInv];omega) (by simp only [strMu];omega)
 | digits i b n k =>
  obtain ⟨h1,h2,h3,h4⟩:=h
  simp only [strStep]
  split
  ·split
   ·exact stepGood_r (good_err (.inr rfl) (by omega) (by omega))
   ·exact stepGood_l (by simp only [StrInv];omega) (by simp only [strMu];omega)
  ·split
   ·exact stepGood_r (good_err (.inl rfl) (by omega) (by omega))
   ·split
    ·exact stepGood_r (good_err (.inr rfl) (by omega) (by omega))
    ·refine stepGood_l ?_ (by simp only [strMu];omega)
     refine ⟨by omega,by omega,by omega,?_⟩
     rw [Nat.pow_succ]
     omega
theorem strRun_ok (s:ByteArray) (p:Nat) (hp:p < s.size):∀ (N:Nat) (st:StrSt),strMu s st < N → StrInv s p st → ∃ r,strRun s p N st=some r ∧ StrGood s p r:=by
 intro N
 induction N with
 | zero=>exact fun st h=>absurd h (Nat.not_lt_zero _)
 | succ N ih =>
  intro st hN hI
  unfold strRun
  rcases strStep_ok s p hp st hI with ⟨st',e,hI',hm⟩ | ⟨r,e,hg⟩
  ·rw [e];exact ih st' (by omega) hI'
  ·rw [e];exact ⟨r,rfl,hg⟩
end Go.Proofs.YtjapfefiaijfcaaGreatDoor.Q
