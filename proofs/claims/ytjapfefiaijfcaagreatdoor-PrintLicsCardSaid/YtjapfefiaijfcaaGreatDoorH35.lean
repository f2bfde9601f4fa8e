/- The reference's Parse on a printed tree's text: the limit is met just where the program's is. The reference's text of licensees. The contract of the law PrintLics: every call answers true and leaves what was there. -/
import Derived.BigRegion
import Derived.Test.YtjapfefiaijfcaaGreatDoorH20
import Derived.Test.YtjapfefiaijfcaaGreatDoorH22
import Derived.Test.YtjapfefiaijfcaaGreatDoorH25
import Derived.Test.YtjapfefiaijfcaaGreatDoorH26
import Derived.Test.YtjapfefiaijfcaaGreatDoorH30
import Derived.Test.YtjapfefiaijfcaaGreatDoorH31
import Derived.Test.YtjapfefiaijfcaaGreatDoorH33
import Derived.Test.YtjapfefiaijfcaaGreatDoorH34
namespace Go.Proofs.YtjapfefiaijfcaaGreatDoor.Q
open Go.RowKit Go.Proofs.YtjapfefiaijfcaaGreatDoorW.PrintWords Go.Proofs.YtjapfefiaijfcaaGreatDoorW.PrintLast Go.Proofs.YtjapfefiaijfcaaGreatDoorW.PrintMore
set_option linter.unusedVariables false
theorem isB_yes {toks:List S70} {i:Nat} {t:ByteArray} (h:AtK toks i [(6,t)]):isB toks i t=true:=by
 obtain ⟨h2,e⟩:=h 0 (by simp)
 have h2':i < toks.length:=h2
 have e0:toks[i].f0=6:=(Prod.mk.inj e).1
 have e1:toks[i].f1=t:=(Prod.mk.inj e).2
 have er:rd_T70 toks (i:Int)=toks[i]:=by simp [rd_T70,h2']
 unfold isB
 rw [er,e0,e1];simp [h2']
theorem isB_other {toks:List S70} {j:Nat} {t:ByteArray} (u:ByteArray) (h:AtK toks j [(6,t)]) (hne:t.data.toList ≠ u.data.toList):isB toks j u=false:=by
 obtain ⟨h2,e⟩:=h 0 (by simp)
 have h2':j < toks.length:=h2
 have e1:toks[j].f1=t:=(Prod.mk.inj e).2
 have er:rd_T70 toks (j:Int)=toks[j]:=by simp [rd_T70,h2']
 unfold isB
 rw [er,e1,ByteArray.toList_eq,ByteArray.toList_eq,beq_eq_false_iff_ne.mpr hne];simp
theorem isB_end {toks:List S70} {j:Nat} (u:ByteArray) (h:toks.length ≤ j):isB toks j u=false:=by
 unfold isB
 rw [decide_eq_false (by omega)];rfl
def ResR (toks:List S70) (cs:List S138) (en:Int) (fn i:Nat) (dp:Int) (j:Nat) (good:Prop):Prop:=(good → RefP toks cs en fn i dp (some j)) ∧ (¬ good → RefP toks cs en fn i dp none)
def ResCR (toks:List S70) (cs:List S138) (en:Int) (pf:Nat) (s:ByteArray) (i:Nat) (dp:Int) (j:Nat) (good:Prop):Prop :=
 (good → ∃ j0:Nat,RefP toks cs en pf i dp (some j0) ∧ ∀ o,RChain toks cs en pf s dp j o → RChain toks cs en pf s dp j0 o) ∧
 (¬ good → RefP toks cs en pf i dp none ∨ ∃ j0:Nat,RefP toks cs en pf i dp (some j0) ∧ RChain toks cs en pf s dp j0 none)
theorem ResR.chain {toks:List S70} {cs:List S138} {en:Int} {pf i:Nat} {dp:Int} {j:Nat} {good:Prop} (s:ByteArray) (h:ResR toks cs en pf i dp j good):ResCR toks cs en pf s i dp j good :=
 ⟨fun g=>⟨j,h.1 g,fun _ c=>c⟩,fun g=>.inl (h.2 g)⟩
theorem resCR_all {toks:List S70} {cs:List S138} {en:Int} (hm:toks.length ≤ 8192) {i:Nat} {dp:Int} {j:Nat} {good:Prop} (h:ResCR toks cs en 87 ⟨#[38,38]⟩ i dp j good) (hs:isB toks j ⟨#[38,38]⟩=false):ResR toks cs en 62 i dp j good:=by
 refine ⟨fun g=>?_,fun g=>?_⟩
 ·obtain ⟨j0,h1,h2⟩:=h.1 g
  exact ref_all.calls toks cs en hm i dp (some j0) _ h1 (fun e=>nomatch e) (fun k e=>by cases e;exact h2 _ (.stop j hs))
 ·rcases h.2 g with h1 | ⟨j0,h1,h2⟩
  ·exact ref_all.calls toks cs en hm i dp none _ h1 (fun _=>rfl) (fun k e=>nomatch e)
  ·exact ref_all.calls toks cs en hm i dp (some j0) _ h1 (fun e=>nomatch e) (fun k e=>by cases e;exact h2)
theorem resCR_some {toks:List S70} {cs:List S138} {en:Int} (hm:toks.length ≤ 8192) {i:Nat} {dp:Int} {j:Nat} {good:Prop} (h:ResCR toks cs en 62 ⟨#[124,124]⟩ i dp j good) (hs:isB toks j ⟨#[124,124]⟩=false):ResR toks cs en 42 i dp j good:=by
 refine ⟨fun g=>?_,fun g=>?_⟩
 ·obtain ⟨j0,h1,h2⟩:=h.1 g
  exact ref_some.calls toks cs en hm i dp (some j0) _ h1 (fun e=>nomatch e) (fun k e=>by cases e;exact h2 _ (.stop j hs))
 ·rcases h.2 g with h1 | ⟨j0,h1,h2⟩
  ·exact ref_some.calls toks cs en hm i dp none _ h1 (fun _=>rfl) (fun k e=>nomatch e)
  ·exact ref_some.calls toks cs en hm i dp (some j0) _ h1 (fun e=>nomatch e) (fun k e=>by cases e;exact h2)
theorem resCR_more {toks:List S70} {cs:List S138} {en:Int} {pf:Nat} {s:ByteArray} {i:Nat} {dp:Int} {j k:Nat} {ga gb:Prop} (h:ResCR toks cs en pf s i dp j ga) (hj:j < toks.length) (hs:isB toks j s=true) (hb:ResR toks cs en pf (j + 1) dp k gb) (hk:j < k) :
  ResCR toks cs en pf s i dp k (ga ∧ gb):=by
 refine ⟨fun g=>?_,fun g=>?_⟩
 ·obtain ⟨j0,h1,h2⟩:=h.1 g.1
  exact ⟨j0,h1,fun o c=>h2 o (.more j (some k) o hs hj (hb.1 g.2) (fun e=>nomatch e) (fun k' e=>by cases e;exact hk) (fun k' e=>by cases e;exact c))⟩
 ·by_cases g1:ga
  ·obtain ⟨j0,h1,h2⟩:=h.1 g1
   exact .inr ⟨j0,h1,h2 none (.more j none none hs hj (hb.2 (fun q=>g ⟨g1,q⟩)) (fun _=>rfl) (fun k' e=>nomatch e) (fun k' e=>nomatch e))⟩
  ·exact h.2 g1
theorem ResR.par {toks:List S70} {cs:List S138} {en:Int} (hm:toks.length ≤ 8192) {i:Nat} {dp:Int} {j:Nat} {good:Prop} (h0:0 ≤ dp) (h1:dp ≤ 64) (hi:AtK toks i [(6,⟨#[40]⟩)]) (hj:AtK toks j [(6,⟨#[41]⟩)]) (h:dp < 64 → ResR toks cs en 42 (i + 1) (dp + 1) j good):ResR toks cs en 87 i dp (j + 1) (dp < 64 ∧ good):=by
 obtain ⟨hi2,ei⟩:=hi 0 (by simp)
 have hi2':i < toks.length:=hi2
 have e0:toks[i].f0=6:=(Prod.mk.inj ei).1
 have e1:toks[i].f1=⟨#[40]⟩:=(Prod.mk.inj ei).2
 have er:rd_T70 toks (i:Int)=toks[i]:=by simp [rd_T70,hi2']
 by_cases hd:dp < 64
 ·refine ⟨fun g=>?_,fun g=>?_⟩
  ·exact ref_one_par.calls toks cs en i dp _ hi2' hm er.symm e0 e1 (isB_yes hi) h0 hd j hj.lt ((h hd).1 g.2) (isB_yes hj)
  ·exact ref_one_no.calls toks cs en i dp _ hi2' hm er.symm e0 e1 (isB_yes hi) h0 hd ((h hd).2 (fun q=>g ⟨hd,q⟩))
 ·obtain rfl:dp=64:=by omega
  exact ⟨fun g=>absurd g.1 hd,fun _=>ref_one_lim.calls toks cs en i _ hi2' hm er.symm e0 e1 (isB_yes hi)⟩
theorem of_argsR {toks:List S70} {cs:List S138} {en dp kk:Int} (ys:List S24) (p q:Nat → Nat) (g:Nat → Prop) (hkk:kk ≤ ys.length)
  (hp:∀ k,k < ys.length → ResR toks cs en 42 (p k) dp (q k) (g k)) (hlt:∀ k,k < ys.length → p k ≤ q k ∧ p k < toks.length ∧ q k < toks.length)
  (hc:∀ k,k + 1 < ys.length → AtK toks (q k) [(6,⟨#[44]⟩)] ∧ p (k + 1)=q k + 1) (hl:AtK toks (q (ys.length - 1)) [(6,⟨#[41]⟩)]) :
  ∀ d k,k + d + 1=ys.length → ((∀ m,k ≤ m → m < ys.length → g m) → RArgs toks cs en dp kk k (p k) (some (q (ys.length - 1)))) ∧ (¬ (∀ m,k ≤ m → m < ys.length → g m) → RArgs toks cs en dp kk k (p k) none):=by
 intro d
 induction d with
 | zero =>
  intro k hk
  have hkl:k < ys.length:=by omega
  have hres:=hp k hkl
  have h3:=hlt k hkl
  refine ⟨fun ha=>?_,fun hn=>?_⟩
  ·obtain rfl:k=ys.length - 1:=by omega
   exact .last _ _ _ h3.2.1 h3.2.2 (hres.1 (ha _ (Nat.le_refl _) hkl)) (isB_other _ hl (by decide)) (isB_yes hl) (by omega)
  ·have:¬ g k:=fun hg=>hn (fun m h1 h2=>by
    have e:m=k:=by omega
    exact e ▸ hg)
   exact .bad _ _ h3.2.1 (hres.2 this)
 | succ d ih =>
  intro k hk
  have hkl:k < ys.length:=by omega
  have hres:=hp k hkl
  have h3:=hlt k hkl
  obtain ⟨hcm,hpq⟩:=hc k (by omega)
  obtain ⟨i1,i2⟩:=ih (k + 1) (by omega)
  rw [hpq] at i1 i2
  by_cases hg:g k
  ·refine ⟨fun ha=>?_,fun hn=>?_⟩
   ·exact .more _ _ _ _ h3.2.1 h3.2.2 h3.1 (hres.1 hg) (isB_yes hcm) (i1 (fun m h1 h2=>ha m (by omega) h2))
   ·exact .more _ _ _ _ h3.2.1 h3.2.2 h3.1 (hres.1 hg) (isB_yes hcm) (i2 (fun ha=>hn (fun m h1 h2=>by
     by_cases e:m=k
     ·exact e ▸ hg
     ·exact ha m (by omega) h2)))
  ·exact ⟨fun ha=>absurd (ha k (Nat.le_refl _) hkl) hg,fun _=>.bad _ _ h3.2.1 (hres.2 hg)⟩
theorem ResR.iff {toks:List S70} {cs:List S138} {en:Int} {fn i:Nat} {dp:Int} {j j':Nat} {g g':Prop} (h:ResR toks cs en fn i dp j g) (e:j=j') (hg:g ↔ g'):ResR toks cs en fn i dp j' g' :=
 e ▸ ⟨fun a=>h.1 (hg.2 a),fun a=>h.2 (fun b=>a (hg.1 b))⟩
theorem ResCR.iff {toks:List S70} {cs:List S138} {en:Int} {pf:Nat} {s:ByteArray} {i:Nat} {dp:Int} {j j':Nat} {g g':Prop} (h:ResCR toks cs en pf s i dp j g) (e:j=j') (hg:g ↔ g'):ResCR toks cs en pf s i dp j' g' :=
 e ▸ ⟨fun a=>h.1 (hg.2 a),fun a=>h.2 (fun b=>a (hg.1 b))⟩
structure LvlR (toks:List S70) (cs:List S138) (en:Int) (N:Nat) (x:S24):Prop where
 two:∀ (i:Nat) (dp:Int),0 ≤ dp → dp ≤ 64 → AtK toks i (shN N x 2) → ResR toks cs en 87 i dp (i + (shN N x 2).length) (dp + depN N x 2 ≤ 64)
 one:∀ (i:Nat) (dp:Int),0 ≤ dp → dp ≤ 64 → AtK toks i (shN N x 1) → ResCR toks cs en 87 ⟨#[38,38]⟩ i dp (i + (shN N x 1).length) (dp + depN N x 1 ≤ 64)
 nil:∀ (i:Nat) (dp:Int),0 ≤ dp → dp ≤ 64 → AtK toks i (shN N x 0) → isB toks (i + (shN N x 0).length) ⟨#[38,38]⟩=false → ResCR toks cs en 62 ⟨#[124,124]⟩ i dp (i + (shN N x 0).length) (dp + depN N x 0 ≤ 64)
theorem lvlR_same {toks:List S70} {cs:List S138} {en:Int} (hm:toks.length ≤ 8192) {N:Nat} {x:S24} (h1:∀ w,0 ≤ w → w ≤ 2 → shN N x w=shN N x 2 ∧ depN N x w=depN N x 2)
  (h:∀ (i:Nat) (dp:Int),0 ≤ dp → dp ≤ 64 → AtK toks i (shN N x 2) → ResR toks cs en 87 i dp (i + (shN N x 2).length) (dp + depN N x 2 ≤ 64)):LvlR toks cs en N x:=by
 obtain ⟨a1,b1⟩:=h1 1 (by omega) (by omega)
 obtain ⟨a0,b0⟩:=h1 0 (by omega) (by omega)
 refine ⟨h,fun i dp h0 h6 ha=>?_,fun i dp h0 h6 ha hs=>?_⟩
 ·rw [a1] at ha ⊢;rw [b1]
  exact (h i dp h0 h6 ha).chain _
 ·rw [a0] at ha hs ⊢;rw [b0]
  exact (resCR_all hm ((h i dp h0 h6 ha).chain _) hs).chain _
theorem par_resR {toks:List S70} {cs:List S138} {en:Int} (hm:toks.length ≤ 8192) (K:List (Int × ByteArray)) (D:Nat)
  (inner:∀ (i:Nat) (dp:Int),0 ≤ dp → dp ≤ 64 → AtK toks i K → isB toks (i + K.length) ⟨#[38,38]⟩=false → ResCR toks cs en 62 ⟨#[124,124]⟩ i dp (i + K.length) (dp + D ≤ 64))
  (i:Nat) (dp:Int) (h0:0 ≤ dp) (h6:dp ≤ 64) (ha:AtK toks i (parK true K)):ResR toks cs en 87 i dp (i + (parK true K).length) (dp + (D + 1:Nat) ≤ 64):=by
 have ha':AtK toks i ([(6,⟨#[40]⟩)] ++ K ++ [(6,⟨#[41]⟩)]):=ha
 have hK:AtK toks (i + 1) K:=ha'.left.right
 have hc:AtK toks (i + 1 + K.length) [(6,⟨#[41]⟩)]:=ha'.right.to (by simp only [List.length_append,List.length_singleton];omega)
 have hl:(parK true K).length=K.length + 2:=by show ([(6,⟨#[40]⟩)] ++ K ++ [(6,⟨#[41]⟩)]:List (Int × ByteArray)).length=_;simp only [List.length_append,List.length_singleton];omega
 refine (ResR.par hm h0 h6 ha'.left.left hc (fun hd=>resCR_some hm (inner (i + 1) (dp + 1) (by omega) (by omega) hK (isB_other _ hc (by decide))) (isB_other _ hc (by decide)))).iff (by rw [hl];omega) ?_
 constructor
 ·rintro ⟨h1,h2⟩;omega
 ·intro h;omega
theorem lvlR_or {toks:List S70} {cs:List S138} {en:Int} (hm:toks.length ≤ 8192) (N:Nat) (x:S24) (hf:x.f0=3) (ha:LvlR toks cs en N (rd_T24 x.f3 0)) (hb:LvlR toks cs en N (rd_T24 x.f3 1)):LvlR toks cs en (N + 1) x:=by
 have hsh:∀ w,shN (N + 1) x w=parK (decide (0 < w)) (shN N (rd_T24 x.f3 0) 0 ++ [((6:Int),(⟨#[124,124]⟩:ByteArray))] ++ shN N (rd_T24 x.f3 1) 1):=fun w=>by
  show (if x.f0=3 then _ else if x.f0=2 then _ else _)=_
  rw [if_pos hf]
 have hde:∀ w,depN (N + 1) x w=depK (decide (0 < w)) (max (depN N (rd_T24 x.f3 0) 0) (depN N (rd_T24 x.f3 1) 1)):=fun w=>by
  show (if x.f0=3 then _ else if x.f0=2 then _ else _)=_
  rw [if_pos hf]
 generalize rd_T24 x.f3 0=a at ha hsh hde
 generalize rd_T24 x.f3 1=b at hb hsh hde
 have inner:∀ (i:Nat) (dp:Int),0 ≤ dp → dp ≤ 64 → AtK toks i (shN N a 0 ++ [((6:Int),(⟨#[124,124]⟩:ByteArray))] ++ shN N b 1) → isB toks (i + (shN N a 0 ++ [((6:Int),(⟨#[124,124]⟩:ByteArray))] ++ shN N b 1).length) ⟨#[38,38]⟩=false →
   ResCR toks cs en 62 ⟨#[124,124]⟩ i dp (i + (shN N a 0 ++ [((6:Int),(⟨#[124,124]⟩:ByteArray))] ++ shN N b 1).length) (dp + (max (depN N a 0) (depN N b 1):Nat) ≤ 64):=by
  intro i dp h0 h6 hK hs
  have hsg:=hK.left.right
  have hA:=ha.nil i dp h0 h6 hK.left.left (isB_other _ hsg (by decide))
  have hl:(shN N a 0 ++ [((6:Int),(⟨#[124,124]⟩:ByteArray))] ++ shN N b 1).length=(shN N a 0).length + 1 + (shN N b 1).length:=by simp only [List.length_append,List.length_singleton]
  rw [hl] at hs ⊢
  have hBk:AtK toks (i + (shN N a 0).length + 1) (shN N b 1):=hK.right.to (by simp only [List.length_append,List.length_singleton];omega)
  have e:i + (shN N a 0).length + 1 + (shN N b 1).length=i + ((shN N a 0).length + 1 + (shN N b 1).length):=by omega
  have hB:=resCR_all hm (hb.one (i + (shN N a 0).length + 1) dp h0 h6 hBk) (by rw [e];exact hs)
  have hR:=resCR_more hA hsg.lt (isB_yes hsg) hB (by omega)
  refine hR.iff e ?_
  constructor
  ·rintro ⟨h1,h2⟩;omega
  ·intro h;omega
 refine ⟨fun i dp h0 h6 hK=>?_,fun i dp h0 h6 hK=>?_,fun i dp h0 h6 hK hs=>?_⟩
 ·rw [hsh] at hK ⊢;rw [hde]
  exact par_resR hm _ _ inner i dp h0 h6 hK
 ·rw [hsh] at hK ⊢;rw [hde]
  exact (par_resR hm _ _ inner i dp h0 h6 hK).chain _
 ·rw [hsh] at hK hs ⊢;rw [hde]
  exact inner i dp h0 h6 hK hs
theorem lvlR_and {toks:List S70} {cs:List S138} {en:Int} (hm:toks.length ≤ 8192) (N:Nat) (x:S24) (hf:x.f0=2) (ha:LvlR toks cs en N (rd_T24 x.f3 0)) (hb:LvlR toks cs en N (rd_T24 x.f3 1)):LvlR toks cs en (N + 1) x:=by
 have hsh:∀ w,shN (N + 1) x w=parK (decide (1 < w)) (shN N (rd_T24 x.f3 0) 1 ++ [((6:Int),(⟨#[38,38]⟩:ByteArray))] ++ shN N (rd_T24 x.f3 1) 2):=fun w=>by
  show (if x.f0=3 then _ else if x.f0=2 then _ else _)=_
  rw [if_neg (by omega),if_pos hf]
 have hde:∀ w,depN (N + 1) x w=depK (decide (1 < w)) (max (depN N (rd_T24 x.f3 0) 1) (depN N (rd_T24 x.f3 1) 2)):=fun w=>by
  show (if x.f0=3 then _ else if x.f0=2 then _ else _)=_
  rw [if_neg (by omega),if_pos hf]
 generalize rd_T24 x.f3 0=a at ha hsh hde
 generalize rd_T24 x.f3 1=b at hb hsh hde
 have inner:∀ (i:Nat) (dp:Int),0 ≤ dp → dp ≤ 64 → AtK toks i (shN N a 1 ++ [((6:Int),(⟨#[38,38]⟩:ByteArray))] ++ shN N b 2) →
   ResCR toks cs en 87 ⟨#[38,38]⟩ i dp (i + (shN N a 1 ++ [((6:Int),(⟨#[38,38]⟩:ByteArray))] ++ shN N b 2).length) (dp + (max (depN N a 1) (depN N b 2):Nat) ≤ 64):=by
  intro i dp h0 h6 hK
  have hsg:=hK.left.right
  have hA:=ha.one i dp h0 h6 hK.left.left
  have hl:(shN N a 1 ++ [((6:Int),(⟨#[38,38]⟩:ByteArray))] ++ shN N b 2).length=(shN N a 1).length + 1 + (shN N b 2).length:=by simp only [List.length_append,List.length_singleton]
  rw [hl]
  have hBk:AtK toks (i + (shN N a 1).length + 1) (shN N b 2):=hK.right.to (by simp only [List.length_append,List.length_singleton];omega)
  have hB:=hb.two (i + (shN N a 1).length + 1) dp h0 h6 hBk
  have hR:=resCR_more hA hsg.lt (isB_yes hsg) hB (by omega)
  refine hR.iff (by omega) ?_
  constructor
  ·rintro ⟨h1,h2⟩;omega
  ·intro h;omega
 have inner2:=fun i dp h0 h6 hK hs=>(resCR_all hm (inner i dp h0 h6 hK) hs).chain ⟨#[124,124]⟩
 refine ⟨fun i dp h0 h6 hK=>?_,fun i dp h0 h6 hK=>?_,fun i dp h0 h6 hK hs=>?_⟩
 ·rw [hsh] at hK ⊢;rw [hde]
  exact par_resR hm _ _ inner2 i dp h0 h6 hK
 ·rw [hsh] at hK ⊢;rw [hde]
  exact inner i dp h0 h6 hK
 ·rw [hsh] at hK hs ⊢;rw [hde]
  exact inner2 i dp h0 h6 hK hs
theorem lvlR_leaf {toks:List S70} {cs:List S138} {en:Int} (hm:toks.length ≤ 8192) (N:Nat) (x:S24) (hf:x.f0=1):LvlR toks cs en (N + 1) x:=by
 have hsh:∀ w,shN (N + 1) x w=[(4,x.f1)]:=fun w=>by
  show (if x.f0=3 then _ else if x.f0=2 then _ else if x.f0=4 then _ else _)=_
  rw [if_neg (by omega),if_neg (by omega),if_neg (by omega)]
 have hde:∀ w,depN (N + 1) x w=0:=fun w=>by
  show (if x.f0=3 then _ else if x.f0=2 then _ else if x.f0=4 then _ else _)=_
  rw [if_neg (by omega),if_neg (by omega),if_neg (by omega)]
 refine lvlR_same hm (fun w _ _=>⟨by rw [hsh,hsh],by rw [hde,hde]⟩) (fun i dp h0 h6 hK=>?_)
 rw [hsh] at hK ⊢
 rw [hde]
 obtain ⟨h2,e⟩:=hK 0 (by simp)
 have hi:i < toks.length:=h2
 have e0:toks[i].f0=4:=(Prod.mk.inj e).1
 have er:rd_T70 toks (i:Int)=toks[i]:=by simp [rd_T70,hi]
 exact ⟨fun _=>ref_one_str.calls toks cs en i dp _ hi hm er.symm e0,fun h=>absurd (by omega) h⟩
theorem count_loop (s:ByteArray) (hs:s.size ≤ 4):∀ (d i acc n:Nat),i + d=s.size → acc < 10 ^ i → Lib.decFrom acc (s.data.toList.drop i)=some n → Ev (fun k=>vouchref16_count.l1 k s (acc:Int) (i:Int)) (n:Int):=by
 have hl:s.data.toList.length=s.size:=by simp
 intro d
 induction d with
 | zero =>
  intro i acc n h ha hd
  rw [List.drop_eq_nil_of_le (by omega)] at hd
  obtain rfl:=Option.some.inj hd
  refine Ev.here fun k=>?_
  rw [vouchref16_count.l1,if_neg (by omega)]
 | succ d ih =>
  intro i acc n h ha hd
  have hi:i < s.size:=by omega
  have hi2:i < s.data.toList.length:=by omega
  have hdr:s.data.toList.drop i=(s[i]'hi) :: s.data.toList.drop (i + 1):=by rw [List.drop_eq_getElem_cons hi2];rfl
  rw [hdr] at hd
  have e8:bt s (i:Int)=((s[i]'hi).toNat:Int):=(bt_atN' s i hi).symm
  generalize s[i]'hi=b at hd e8
  have hd':(match Lib.digitVal b with | some d=>Lib.decFrom (acc * 10 + d) (s.data.toList.drop (i + 1)) | none=>none)=some n:=hd
  unfold Lib.digitVal at hd'
  by_cases hb:48 ≤ b.toNat ∧ b.toNat ≤ 57
  ·rw [if_pos hb] at hd'
   have h4:10 ^ i ≤ 1000:=by
    have:i=0 ∨ i=1 ∨ i=2 ∨ i=3:=by omega
    rcases this with rfl | rfl | rfl | rfl <;> decide
   have ha2:acc * 10 + (b.toNat - 48) < 10 ^ (i + 1):=by rw [Nat.pow_succ];omega
   refine (ih (i + 1) _ n (by omega) ha2 hd').step fun k=>?_
   have w1:wrap64 ((acc:Int) * 10)=(acc:Int) * 10:=w64 (by omega) (by omega)
   have w2:((b.toNat:Int) - 48) % 256=((b.toNat - 48:Nat):Int):=by omega
   rw [vouchref16_count.l1,if_pos (by omega),if_pos (by omega),e8,w1,w2,w64 (by omega) (by omega),w64 (by omega) (by omega)]
   rfl
  ·rw [if_neg hb] at hd';cases hd'
theorem count_num (n:Nat) (hn:1 ≤ n) (hn4:n < 10000):∃ k,vouchref16_count.f k (numB (n:Int))=some (n:Int):=by
 have e:(numB (n:Int)).data.toList=Lib.decDigits n:=by
  unfold numB Lib.itoa
  rw [if_neg (by omega),Int.toNat_natCast]
 have hsz:(numB (n:Int)).size ≤ 4:=numB_size n 4 (by omega) (by omega)
 obtain ⟨b,r,eb,hb⟩:=decDigits_head n hn
 have hz:(numB (n:Int)).size=(Lib.decDigits n).length:=by rw [← e];simp
 have hpos:0 < (numB (n:Int)).size:=by rw [hz,eb];simp
 have hd:=decDigits_from n
 rw [← e] at hd
 have h48:bt (numB (n:Int)) 0 ≠ 48:=by
  have e0:bt (numB (n:Int)) ((0:Nat):Int)=(((numB (n:Int))[0]'hpos).toNat:Int):=(bt_atN' _ 0 hpos).symm
  have e1:((numB (n:Int))[0]'hpos)=b:=by
   have:(numB (n:Int)).data.toList[0]? = some b:=by rw [e,eb];rfl
   rw [List.getElem?_eq_getElem (by rw [e,eb];simp)] at this
   exact Option.some.inj this
  rw [e1] at e0
  have e0':bt (numB (n:Int)) 0=(b.toNat:Int):=e0
  omega
 have hL:Ev (fun k=>vouchref16_count.l1 k (numB (n:Int)) 0 0) (n:Int):=count_loop _ hsz _ 0 0 n (Nat.zero_add _) (by decide) hd
 have hJ:Ev (fun k=>vouchref16_count.j1 k (numB (n:Int))) (n:Int):=hL.step fun k=>by rw [vouchref16_count.j1,if_neg (by omega)]
 have hF:Ev (fun k=>vouchref16_count.f k (numB (n:Int))) (n:Int):=hJ.step fun k=>by
  unfold vouchref16_count.f
  rw [vouchref16_count.l0]
  by_cases h1:((numB (n:Int)).size:Int) > 1
  ·rw [if_pos h1,if_pos (by omega),if_neg h48]
  ·rw [if_neg h1]
 obtain ⟨K,hK⟩:=hF
 exact ⟨K,hK K (Nat.le_refl _)⟩
set_option maxHeartbeats 2000000 in
theorem lvlR_of {toks:List S70} {cs:List S138} {en:Int} (hm:toks.length ≤ 8192) (N:Nat) (x:S24) (n:Nat) (hf:x.f0=4) (hf2:x.f2=(n:Int)) (hn:1 ≤ n ∧ n ≤ x.f3.length) (hn4:n < 10000) (hk:∀ y ∈ x.f3,LvlR toks cs en N y):LvlR toks cs en (N + 1) x:=by
 have hsh:∀ w,shN (N + 1) x w=(5,numB (n:Int)) :: (6,⟨#[40]⟩) :: joinK (fun y=>shN N y 0) x.f3 x.f3.length ++ [(6,⟨#[41]⟩)]:=fun w=>by
  show (if x.f0=3 then _ else if x.f0=2 then _ else if x.f0=4 then _ else _)=_
  rw [if_neg (by omega),if_neg (by omega),if_pos hf,hf2]
 have hde:∀ w,depN (N + 1) x w=maxF (fun y=>depN N y 0) x.f3 + 1:=fun w=>by
  show (if x.f0=3 then _ else if x.f0=2 then _ else if x.f0=4 then _ else _)=_
  rw [if_neg (by omega),if_neg (by omega),if_pos hf]
 generalize hys:x.f3=ys at hn hk hsh hde
 refine lvlR_same hm (fun w _ _=>⟨by rw [hsh,hsh],by rw [hde,hde]⟩) (fun i dp h0 h6 hK=>?_)
 rw [hsh] at hK ⊢
 rw [hde]
 have hK':AtK toks i ([((5:Int),numB (n:Int))] ++ [((6:Int),(⟨#[40]⟩:ByteArray))] ++ joinK (fun y=>shN N y 0) ys ys.length ++ [((6:Int),(⟨#[41]⟩:ByteArray))]):=hK
 have hlen:(((5:Int),numB (n:Int)) :: ((6:Int),(⟨#[40]⟩:ByteArray)) :: joinK (fun y=>shN N y 0) ys ys.length ++ [((6:Int),(⟨#[41]⟩:ByteArray))]).length=(joinK (fun y=>shN N y 0) ys ys.length).length + 3:=by
  show ([((5:Int),numB (n:Int))] ++ [((6:Int),(⟨#[40]⟩:ByteArray))] ++ joinK (fun y=>shN N y 0) ys ys.length ++ [((6:Int),(⟨#[41]⟩:ByteArray))]).length=_
  simp only [List.length_append,List.length_singleton];omega
 rw [hlen]
 obtain ⟨h2,e⟩:=hK'.left.left.left 0 (by simp)
 have hi:i < toks.length:=h2
 have e0:toks[i].f0=5:=(Prod.mk.inj e).1
 have e1:toks[i].f1=numB (n:Int):=(Prod.mk.inj e).2
 have er:rd_T70 toks (i:Int)=toks[i]:=by simp [rd_T70,hi]
 have hop:AtK toks (i + 1) [((6:Int),(⟨#[40]⟩:ByteArray))]:=hK'.left.left.right
 have hJ:AtK toks (i + 2) (joinK (fun y=>shN N y 0) ys ys.length):=hK'.left.right.to (by simp)
 have hcl:AtK toks (i + 2 + (joinK (fun y=>shN N y 0) ys ys.length).length) [((6:Int),(⟨#[41]⟩:ByteArray))]:=hK'.right.to (by simp only [List.length_append,List.length_singleton];omega)
 obtain ⟨kc,hkc⟩:=count_num n hn.1 hn4
 have hcnt:∀ w,Calls Tryz.prog 126 #[.string (toks[i]).f1] w fun e w'=>e = .returned (.int .i64 (n:Int)) ∧ Drawn0 w w':=fun w=>by rw [e1];exact vouchref16_count.calls kc _ _ w hkc
 have hi1:i + 1 < toks.length:=hop.lt
 by_cases hdp:dp < 64
 ·obtain ⟨P,Q,hP0,hQe,hPQ,hcm⟩:=join_at (fun y=>shN N y 0) ys (by omega) (i + 2) hJ
  generalize joinK (fun y=>shN N y 0) ys ys.length=J at hJ hcl hQe hlen
  have hend:∀ k,k < ys.length → ∃ t:ByteArray,AtK toks (Q k) [((6:Int),t)] ∧ t.data.toList ≠ (⟨#[38,38]⟩:ByteArray).data.toList ∧ t.data.toList ≠ (⟨#[124,124]⟩:ByteArray).data.toList:=fun k hk0=>by
   by_cases hl:k + 1 < ys.length
   ·exact ⟨_,(hcm k hl).1,by decide,by decide⟩
   ·have e:k=ys.length - 1:=by omega
    rw [e,hQe]
    exact ⟨_,hcl,by decide,by decide⟩
  have key:=of_argsR (toks:=toks) (cs:=cs) (en:=en) (dp:=dp + 1) (kk:=(n:Int)) ys P Q (fun k=>dp + 1 + depN N (rd_T24 ys (k:Int)) 0 ≤ 64) (Int.ofNat_le.2 hn.2)
   (fun k hk0=>by
    obtain ⟨t,ht,n1,n2⟩:=hend k hk0
    have hm':rd_T24 ys (k:Int) ∈ ys:=by rw [rd_nat hk0];exact List.getElem_mem _
    have hq0:P k + (shN N (rd_T24 ys (k:Int)) 0).length=Q k:=(hPQ k hk0).1
    have h:=resCR_some hm ((hk _ hm').nil _ (dp + 1) (by omega) (by omega) (hPQ k hk0).2 (by rw [hq0];exact isB_other _ ht n1)) (by rw [hq0];exact isB_other _ ht n2)
    exact h.iff hq0 Iff.rfl)
   (fun k hk0=>by
    obtain ⟨t,ht,-,-⟩:=hend k hk0
    have h1:=ht.lt
    have h2':P k + (shN N (rd_T24 ys (k:Int)) 0).length=Q k:=(hPQ k hk0).1
    exact ⟨by omega,by omega,h1⟩)
   (fun k hk0=>hcm k hk0)
   (by rw [hQe];exact hcl)
   (ys.length - 1) 0 (by omega)
  rw [hP0,hQe] at key
  have hall:(∀ m,0 ≤ m → m < ys.length → dp + 1 + (depN N (rd_T24 ys (m:Int)) 0:Int) ≤ 64) ↔ dp + ((maxF (fun y=>depN N y 0) ys + 1:Nat):Int) ≤ 64:=by
   have h1:=maxF_le (fun y=>depN N y 0) ys (63 - dp).toNat
   constructor
   ·intro h
    have:maxF (fun y=>depN N y 0) ys ≤ (63 - dp).toNat:=h1.2 fun y hy=>by
     obtain ⟨m,hm0,rfl⟩:=List.getElem_of_mem hy
     have:=h m (Nat.zero_le _) hm0
     rw [rd_nat hm0] at this
     show depN N ys[m] 0 ≤ _
     omega
    omega
   ·intro h m _ hm0
    have h2:=h1.1 (by omega) ys[m] (List.getElem_mem hm0)
    have h3:depN N ys[m] 0 ≤ (63 - dp).toNat:=h2
    rw [rd_nat hm0]
    omega
  have hone:=fun o hA=>ref_one_of.calls toks cs en i dp _ hi hm er.symm e0 (o.map (· + 1)) (ref_of.calls toks cs en hm i dp _ (n:Int) o hi1 er.symm hcnt (Int.ofNat_le.2 hn.1) (isB_yes hop) h0 hdp hA)
  refine ⟨fun g=>?_,fun g=>?_⟩
  ·have h:RefP toks cs en 87 i dp (some (i + 2 + J.length + 1)):=hone _ (key.1 (hall.2 g))
   rwa [show i + 2 + J.length + 1=i + (J.length + 3) by omega] at h
  ·exact hone none (key.2 (fun h=>g (hall.1 h)))
 ·obtain rfl:dp=64:=by omega
  refine ⟨fun g=>absurd g (by omega),fun _=>?_⟩
  exact ref_one_of.calls toks cs en i 64 _ hi hm er.symm e0 none (ref_of_lim.calls toks cs en hm i _ (n:Int) hi1 er.symm hcnt (Int.ofNat_le.2 hn.1) (isB_yes hop))
theorem lvlR_all {toks:List S70} {cs:List S138} {en:Int} (hm:toks.length ≤ 8192) (N:Nat) (hN0:N ≤ 10000):∀ x:S24,szT x ≤ N → okT x=true → LvlR toks cs en N x:=by
 induction N with
 | zero=>intro x h;have:=szT_pos x;omega
 | succ N ih =>
  intro x hN hok
  have hkid:∀ y ∈ x.f3,LvlR toks cs en N y:=by
   intro y hy
   refine ih (by omega) y (by have:=kid_le hy;omega) ?_
   rw [okT_eq,Bool.and_eq_true] at hok
   exact List.all_eq_true.1 hok.2 y hy
  have hhead:headT x.f0 x.f1 x.f2 x.f3.length=true:=by rw [okT_eq,Bool.and_eq_true] at hok;exact hok.1
  have hlen:=szT_len x
  unfold headT at hhead
  by_cases a3:x.f0=3
  ·rw [if_neg (by omega),if_pos (by omega),Bool.and_eq_true,Bool.and_eq_true] at hhead
   have h3:x.f3.length=2:=by have:=of_decide_eq_true hhead.2.2;omega
   have hk:=two_kids x h3
   have m0:rd_T24 x.f3 0 ∈ x.f3:=by rw [hk];simp [rd_T24]
   have m1:rd_T24 x.f3 1 ∈ x.f3:=by rw [hk];simp [rd_T24]
   exact lvlR_or hm N x a3 (hkid _ m0) (hkid _ m1)
  by_cases a2:x.f0=2
  ·rw [if_neg (by omega),if_pos (by omega),Bool.and_eq_true,Bool.and_eq_true] at hhead
   have h3:x.f3.length=2:=by have:=of_decide_eq_true hhead.2.2;omega
   have hk:=two_kids x h3
   have m0:rd_T24 x.f3 0 ∈ x.f3:=by rw [hk];simp [rd_T24]
   have m1:rd_T24 x.f3 1 ∈ x.f3:=by rw [hk];simp [rd_T24]
   exact lvlR_and hm N x a2 (hkid _ m0) (hkid _ m1)
  by_cases a4:x.f0=4
  ·rw [if_neg (by omega),if_neg (by omega),if_pos a4,Bool.and_eq_true,Bool.and_eq_true] at hhead
   have h2:=of_decide_eq_true hhead.2.1
   have h3:=of_decide_eq_true hhead.2.2
   obtain ⟨n,hn⟩:=Int.eq_ofNat_of_zero_le (show 0 ≤ x.f2 by omega)
   exact lvlR_of hm N x n a4 hn ⟨by omega,by omega⟩ (by omega) hkid
  ·have a1:x.f0=1:=by
    by_cases a1:x.f0=1
    ·exact a1
    ·rw [if_neg a1,if_neg (by omega),if_neg a4] at hhead;cases hhead
   exact lvlR_leaf hm N x a1
theorem back_licR {toks:List S70} {cs:List S138} {en:Int} (hm:toks.length ≤ 8192) (N:Nat) (hN0:N ≤ 10000) (x:S24) (hx:szT x ≤ N) (hok:okT x=true) (hk:AtK toks 0 (shN N x 0)) (hl:toks.length=(shN N x 0).length) :
  ResR toks cs en 42 0 0 toks.length (depN N x 0 ≤ 64):=by
 have hs:∀ t,isB toks (0 + (shN N x 0).length) t=false:=fun t=>isB_end t (by omega)
 have h:=resCR_some hm ((lvlR_all (cs:=cs) (en:=en) hm N hN0 x hx hok).nil 0 0 (by omega) (by omega) hk (hs _)) (hs _)
 exact h.iff (by omega) (by omega)
theorem shN_kinds (N:Nat):∀ (x:S24) (w:Int),∀ p ∈ shN N x w,p.1=4 ∨ p.1=5 ∨ p.1=6:=by
 have hp:∀ (b:Bool) (l:List (Int × ByteArray)),(∀ p ∈ l,p.1=4 ∨ p.1=5 ∨ p.1=6) → ∀ p ∈ parK b l,p.1=4 ∨ p.1=5 ∨ p.1=6:=by
  intro b l h p hp
  cases b with
  | false=>exact h p hp
  | true =>
   have:p ∈ ([((6:Int),(⟨#[40]⟩:ByteArray))] ++ l ++ [((6:Int),(⟨#[41]⟩:ByteArray))]):=hp
   simp only [List.mem_append,List.mem_singleton] at this
   rcases this with (rfl | h1) | rfl
   ·exact .inr (.inr rfl)
   ·exact h p h1
   ·exact .inr (.inr rfl)
 induction N with
 | zero=>intro x w p h;simp [shN] at h
 | succ N ih =>
  intro x w p h
  have hj:∀ (ys:List S24) k,∀ p ∈ joinK (fun y=>shN N y 0) ys k,p.1=4 ∨ p.1=5 ∨ p.1=6:=by
   intro ys k
   induction k with
   | zero=>intro p h;simp [joinK] at h
   | succ k ihk =>
    intro p h
    have:p ∈ (joinK (fun y=>shN N y 0) ys k ++ (if 0 < k then [((6:Int),(⟨#[44]⟩:ByteArray))] else []) ++ shN N (rd_T24 ys (k:Int)) 0):=h
    simp only [List.mem_append] at this
    rcases this with (h1 | h1) | h1
    ·exact ihk p h1
    ·split at h1
     ·rw [List.mem_singleton] at h1;subst h1;exact .inr (.inr rfl)
     ·simp at h1
    ·exact ih _ _ p h1
  have h':p ∈ (if x.f0=3 then parK (decide (0 < w)) (shN N (rd_T24 x.f3 0) 0 ++ [(6,⟨#[124,124]⟩)] ++ shN N (rd_T24 x.f3 1) 1)
   else if x.f0=2 then parK (decide (1 < w)) (shN N (rd_T24 x.f3 0) 1 ++ [(6,⟨#[38,38]⟩)] ++ shN N (rd_T24 x.f3 1) 2)
   else if x.f0=4 then (5,numB x.f2) :: (6,⟨#[40]⟩) :: joinK (fun y=>shN N y 0) x.f3 x.f3.length ++ [(6,⟨#[41]⟩)]
   else [(4,x.f1)]:List (Int × ByteArray)):=h
  split at h'
  ·refine hp _ _ (fun p h1=>?_) p h'
   simp only [List.mem_append,List.mem_singleton] at h1
   rcases h1 with (h1 | rfl) | h1
   ·exact ih _ _ p h1
   ·exact .inr (.inr rfl)
   ·exact ih _ _ p h1
  ·split at h'
   ·refine hp _ _ (fun p h1=>?_) p h'
    simp only [List.mem_append,List.mem_singleton] at h1
    rcases h1 with (h1 | rfl) | h1
    ·exact ih _ _ p h1
    ·exact .inr (.inr rfl)
    ·exact ih _ _ p h1
   ·split at h'
    ·rw [List.mem_append,List.mem_cons,List.mem_cons,List.mem_singleton] at h'
     rcases h' with (rfl | rfl | h1) | rfl
     ·exact .inr (.inl rfl)
     ·exact .inr (.inr rfl)
     ·exact hj _ _ p h1
     ·exact .inr (.inr rfl)
    ·rw [List.mem_singleton] at h';subst h';exact .inl rfl
theorem ref_print_Parse.calls (N:Nat) (hN:N + 1 ≤ 10000) (x:S24) (hx:szT x ≤ N + 1) (hok:okT x=true):∃ er:Int,(er=3 ↔ ¬ Fits (N + 1) x) ∧ (er=0 ∨ er=3) ∧
  ∀ w,Calls Tryz.prog 24 #[.string (licN (N + 1) x 0),.slice none 0 0] w (RefErr w er):=by
 have hlay:Lay (licN (N + 1) x 0) 0 (shN (N + 1) x 0) (licN (N + 1) x 0).size:=by
  have:=lay_lic (licN (N + 1) x 0) (N + 1) x 0 0 hx hok ⟨by omega,fun k hk=>by rw [Nat.zero_add]⟩
  rwa [Nat.zero_add] at this
 by_cases hs:(licN (N + 1) x 0).size ≤ 65536
 ·obtain ⟨xs,e,hx0⟩:=lay_toks hlay
  obtain ⟨ha,hl⟩:=atK_map e
  have hkind:∀ t ∈ xs,t.f0=4 ∨ t.f0=5 ∨ t.f0=6:=fun t ht=>shN_kinds (N + 1) x 0 (t.f0,t.f1) (by rw [← e];exact List.mem_map.2 ⟨t,ht,rfl⟩)
  have hne:0 < xs.length:=by rw [hl];exact shN_pos N x 0
  by_cases hk:xs.length ≤ 8192
  ·obtain ⟨K,hK⟩:=(ref_Tokens hs hx0 hkind hk).1 rfl
   have hR:=back_licR (toks:=xs) (cs:=[]) (en:=((licN (N + 1) x 0).size:Int)) hk (N + 1) hN x hx hok ha hl
   by_cases hd:depN (N + 1) x 0 ≤ 64
   ·exact ⟨0,⟨fun h=>absurd h (by decide),fun h=>absurd ⟨hs,by omega,hd⟩ h⟩,.inl rfl,fun w=>ref_Parse_ok.calls _ xs hk hne ⟨K,hK K (Nat.le_refl _)⟩ (hR.1 hd) w⟩
   ·exact ⟨3,⟨fun _ h=>hd h.2.2,fun _=>rfl⟩,.inr rfl,fun w=>ref_Parse_lim.calls _ xs hk hne ⟨K,hK K (Nat.le_refl _)⟩ (hR.2 hd) w⟩
  ·obtain ⟨j,hj⟩:=toksX_take hx0 8192 (by omega)
   have hn:(xs.take 8192).length=8192:=by rw [List.length_take];omega
   obtain ⟨K,hK⟩:=(ref_Tokens hs hj (fun t ht=>hkind t (List.mem_of_mem_take ht)) (by omega)).2 j rfl hn
   exact ⟨3,⟨fun _ h=>hk (by rw [hl];exact h.2.1),fun _=>rfl⟩,.inr rfl,fun w=>ref_Parse_tok.calls _ _ _ ⟨K,hK K (Nat.le_refl _)⟩ w⟩
 ·refine ⟨3,⟨fun _ h=>hs h.1,fun _=>rfl⟩,.inr rfl,fun w=>ref_Parse_tok.calls _ [] 0 ⟨0,?_⟩ w⟩
  unfold vouchref14_Tokens.f
  rw [if_pos (by omega)]
end Go.Proofs.YtjapfefiaijfcaaGreatDoor.Q
namespace Go.Proofs.YtjapfefiaijfcaaGreatDoor.Q
open Go.RowKit Go.Proofs.YtjapfefiaijfcaaGreatDoorW.PrintWords Go.Proofs.YtjapfefiaijfcaaGreatDoorW.PrintLast Go.Proofs.YtjapfefiaijfcaaGreatDoorW.PrintMore
set_option linter.unusedVariables false
set_option maxHeartbeats 2000000 in
set_option maxRecDepth 100000 in
theorem ref_Lic_bad.calls (x:S24) (A:Option Addr) (c:Nat) (w:World) (hx:szT x ≤ 10000) (hok:okT x=false) (hc:x.f3.length ≤ c) (hC:Kd.C k24 w A x.f3.length x.f3) :
  Calls Tryz.prog 9 #[.agg #[.int .u8 x.f0,.string x.f1,.int .i64 x.f2,.slice A x.f3.length c]] w fun e w'=>e = .returned (.tuple #[.string ⟨#[]⟩,.int .i64 151]) ∧ Below w.heap.size w w':=by
 have hck:=fun (W:World) (hb:Below w.heap.size w W)=>vouchref16_Check.calls 10001 x A c W (by omega) (Nat.le_refl _) hc (Kd.C_below hC hb)
 have he:errT x=151:=by unfold errT;rw [hok];rfl
 rw [he] at hck
 have HK:=Aside0.mk hck
 have e0:=blk_cell (blk_new w (.cells #[.int .u8 x.f0,.string x.f1,.int .i64 x.f2,.slice A x.f3.length c] 24)) 0
 have e1:=blk_cell (blk_new w (.cells #[.int .u8 x.f0,.string x.f1,.int .i64 x.f2,.slice A x.f3.length c] 24)) 1
 have e2:=blk_cell (blk_new w (.cells #[.int .u8 x.f0,.string x.f1,.int .i64 x.f2,.slice A x.f3.length c] 24)) 2
 have e3:=blk_cell (blk_new w (.cells #[.int .u8 x.f0,.string x.f1,.int .i64 x.f2,.slice A x.f3.length c] 24)) 3
 clear hck hC hc hok he
 go_enter Tryz.func9,Tryz.ntmps9
 go_wp2_with (fail)
 go_at_call 18
 refine (HK.out _ ((Below.refl _ w).alloc (Nat.le_refl _) _)).mono ?_
 rintro e_ w1 ⟨rfl,hb⟩
 go_wp2_with (fail)
 refine bodyPost_ret (v:=.tuple #[.string ⟨#[]⟩,.int .i64 151]) ?_ rfl ⟨rfl,((Below.refl _ w).alloc (Nat.le_refl _) _).trans (hb.mono (by simp))⟩
 simp [results,Tryz.results9,go_sem]
set_option maxHeartbeats 4000000 in
set_option maxRecDepth 100000 in
theorem ref_Lic.calls (N:Nat) (hN:N + 1 ≤ 10000) (x:S24) (A:Option Addr) (c:Nat) (w:World) (hx:szT x ≤ N + 1) (hok:okT x=true) (htx:∀ t ∈ leaves x,t.size ≤ 10000) (hc:x.f3.length ≤ c) (hC:Kd.C k24 w A x.f3.length x.f3) (er:Int) (her:er=0 ∨ er=3)
  (hP:∀ w,Calls Tryz.prog 24 #[.string (licN (N + 1) x 0),.slice none 0 0] w (RefErr w er)) :
  Calls Tryz.prog 9 #[.agg #[.int .u8 x.f0,.string x.f1,.int .i64 x.f2,.slice A x.f3.length c]] w fun e w'=>e = .returned (.tuple #[.string (if er=3 then ⟨#[]⟩ else licN (N + 1) x 0),.int .i64 (if er=3 then 3 else 0)]) ∧ Below w.heap.size w w':=by
 have hck:=fun (W:World) (hb:Below w.heap.size w W)=>vouchref16_Check.calls 10001 x A c W (by omega) (Nat.le_refl _) hc (Kd.C_below hC hb)
 have he:errT x=0:=by unfold errT;rw [hok];rfl
 rw [he] at hck
 have hbd:=lic_bound 10000 (N + 1) x 0 hx (by omega) hok htx
 have hsz:(licN (N + 1) x 0).size ≤ 1000000000:=by
  have:szT x * (4 * 10000 + 20) ≤ 10000 * (4 * 10000 + 20):=Nat.mul_le_mul_right _ (by omega)
  omega
 have hW:=fun (W:World) (hb:Below w.heap.size w W)=>ref_lic (N + 1) x 0 hx (by omega) hok (fun t ht=>Nat.le_trans (htx t ht) (by decide)) (by omega) hsz A c W hc (Kd.C_below hC hb)
 generalize licN (N + 1) x 0=s at hP hW ⊢
 have HK:=Aside0.mk hck
 have HW:=Aside0.mk hW
 have HP:=Aside0.mk hP
 have b0:=blk_new w (.cells #[.int .u8 x.f0,.string x.f1,.int .i64 x.f2,.slice A x.f3.length c] 24)
 have e0:=blk_cell b0 0
 have e1:=blk_cell b0 1
 have e2:=blk_cell b0 2
 have e3:=blk_cell b0 3
 have HB0:=Aside0.mk b0
 clear hck hW hP hsz hbd b0 hC hc hok he hx htx
 go_enter Tryz.func9,Tryz.ntmps9
 go_wp2_with (fail)
 go_at_call 18
 refine (HK.out _ ((Below.refl _ w).alloc (Nat.le_refl _) _)).mono ?_
 rintro e_ w1 ⟨rfl,hb⟩
 have b1:=blk_below HB0.out hb
 have B1:Below w.heap.size w w1:=((Below.refl _ w).alloc (Nat.le_refl _) _).trans (hb.mono (by simp))
 have f0:=blk_cell b1 0
 have f1:=blk_cell b1 1
 have f2:=blk_cell b1 2
 have f3:=blk_cell b1 3
 have HB1:=Aside0.mk B1
 clear b1 hb B1
 go_wp2_with (fail)
 go_at_call 23
 refine (HW.out _ HB1.out).mono ?_
 rintro e_ w2 ⟨rfl,hb⟩
 have HB2:=Aside0.mk (HB1.out.trans (hb.mono HB1.out.size))
 clear hb
 go_wp2_with (fail)
 go_at_call 24
 refine (HP.out _).mono ?_
 rintro e_ w3 ⟨v,p,rfl,hb⟩
 have HB3:=Aside0.mk (HB2.out.trans (hb.mono HB2.out.size))
 clear hb
 rcases her with rfl | rfl
 ·go_wp2_with (fail)
  refine bodyPost_ret (v:=.tuple #[.string s,.int .i64 0]) ?_ rfl ⟨rfl,HB3.out⟩
  simp [results,Tryz.results9,go_sem]
 ·go_wp2_with (fail)
  refine bodyPost_ret (v:=.tuple #[.string ⟨#[]⟩,.int .i64 3]) ?_ rfl ⟨rfl,HB3.out⟩
  simp [results,Tryz.results9,go_sem]
end Go.Proofs.YtjapfefiaijfcaaGreatDoor.Q
namespace Go.Proofs.YtjapfefiaijfcaaGreatDoor.Q
open Go.RowKit Go.Proofs.YtjapfefiaijfcaaGreatDoorW.PrintWords Go.Proofs.YtjapfefiaijfcaaGreatDoorW.PrintLast Go.Proofs.YtjapfefiaijfcaaGreatDoorW.PrintMore
set_option linter.unusedVariables false
theorem szT_one (x:S24):szT (⟨x.f0,x.f1,x.f2,x.f3⟩:S24)=szT x:=by cases x;rfl
theorem both_Lic (x:S24) (hx:szT x ≤ 10000) (htx:∀ t ∈ leaves x,t.size ≤ 10000):∃ (t:ByteArray) (f:Int),
  (∀ (A:Option Addr) (c:Nat) (w:World),x.f3.length ≤ c → Kd.C k24 w A x.f3.length x.f3 → Calls Tryz.prog 9 #[.agg #[.int .u8 x.f0,.string x.f1,.int .i64 x.f2,.slice A x.f3.length c]] w fun e w'=>e = .returned (.tuple #[.string t,.int .i64 f]) ∧ Below w.heap.size w w') ∧
  (∀ (A:Option Addr) (c:Nat) (w:World),Lib.TabIs Tryz.prog w "internal/strconv.uint64pow10" .u64 Lib.pow10Tab → x.f3.length ≤ c → Kd.C k24 w A x.f3.length x.f3 → Calls Tryz.prog 10 #[.agg #[.int .u8 x.f0,.string x.f1,.int .i64 x.f2,.slice A x.f3.length c]] w fun e w'=>e = .returned (.tuple #[.string t,.int .i64 f]) ∧ Below w.heap.size w w'):=by
 cases hok:okT x with
 | false=>exact ⟨⟨#[]⟩,151,fun A c w hc hC=>ref_Lic_bad.calls x A c w hx hok hc hC,fun A c w _ hc hC=>print_Lic_bad.calls x A c w hx hok hc hC⟩
 | true =>
  obtain ⟨er1,h1,hP1⟩:=print_Parse.calls 9999 (by omega) x hx hok
  obtain ⟨er2,h2,her,hP2⟩:=ref_print_Parse.calls 9999 (by omega) x hx hok
  have he:er1=3 ↔ er2=3:=h1.trans h2.symm
  refine ⟨if er2=3 then ⟨#[]⟩ else licN 10000 x 0,if er2=3 then 3 else 0,fun A c w hc hC=>ref_Lic.calls 9999 (by omega) x A c w hx hok htx hc hC er2 her hP2,fun A c w htab hc hC=>?_⟩
  have:=print_Lic.calls 9999 (by omega) x A c w htab hx hok htx hc hC er1 hP1
  by_cases h3:er2=3
  ·rw [if_pos (he.2 h3),if_pos (he.2 h3)] at this
   rw [if_pos h3,if_pos h3];exact this
  ·rw [if_neg (fun h=>h3 (he.1 h)),if_neg (fun h=>h3 (he.1 h))] at this
   rw [if_neg h3,if_neg h3];exact this
set_option maxHeartbeats 8000000 in
set_option maxRecDepth 100000 in
theorem prints_no (x:S24) (A:Option Addr) (c:Nat) (w:World) (hc:x.f3.length ≤ c) (hC:Kd.C k24 w A x.f3.length x.f3) (htab:Lib.TabIs Tryz.prog w "internal/strconv.uint64pow10" .u64 Lib.pow10Tab) (k:Nat) (r:Int)
  (hk:vouchref19_LicWeight.f k x.f0 x.f1 x.f2 x.f3 10000=some r) (hr:10000 < r) :
  Calls Tryz.prog 3 #[.agg #[.int .u8 x.f0,.string x.f1,.int .i64 x.f2,.slice A x.f3.length c]] w fun e w'=>e = .returned (.bool true) ∧ Below w.heap.size w w':=by
 have HK:=Aside0.mk hk
 have HC:=Aside0.mk hC
 have Hc:=Aside0.mk hc
 have hb:∀ o:Obj,Below w.heap.size w (w.alloc o):=fun o=>(Below.refl _ _).alloc (Nat.le_refl _) o
 have HB:=Aside0.mk hb
 have HT:=Aside0.mk htab
 have z1:decide ((10000:Int) < r)=true:=decide_eq_true hr
 have b0:=blk_new w (.cells #[.int .u8 x.f0,.string x.f1,.int .i64 x.f2,.slice A x.f3.length c] 24)
 have e0:=blk_cell b0 0
 have e1:=blk_cell b0 1
 have e2:=blk_cell b0 2
 have e3:=blk_cell b0 3
 clear hk hC hc hb htab hr b0
 go_enter Tryz.func3,Tryz.ntmps3
 go_wp2_with (fail)
 go_at_call 6
 refine (vouchref19_LicWeight.calls k _ _ _ _ _ _ _ r _ (Kd.C_below HC.out (HB.out _)) Hc.out HK.out).mono ?_
 rintro e_ w1 ⟨rfl,hb1⟩
 have HB1:=Aside0.mk (below_step (HB.out _) hb1)
 clear hb1
 go_wp2_with (fail)
 go_at_call 7
 refine (vouchlaw19_works.calls _ (tab_below HT.out HB1.out)).mono ?_
 rintro e_ w2 ⟨rfl,hb2⟩
 have HB2:=Aside0.mk (below_step HB1.out hb2)
 clear hb2
 go_wp2_with (fail)
 refine bodyPost_ret (v:=.bool true) ?_ rfl ⟨rfl,HB2.out⟩
 simp [results,Tryz.results3,go_sem]
structure PersP (x:S24) (w:World) (A:Option Addr) (c:Nat) (ad:Addr) (ca:Nat) (bi:Nat) (V:World):Prop where
 b:Below w.heap.size w V
 l:V.heap[w.heap.size]? = some (.cells #[.int .u8 x.f0,.string x.f1,.int .i64 x.f2,.slice A x.f3.length c] 24 (0,0))
 i:V.heap[bi]? = some (.cells #[.int .u8 x.f0,.string x.f1,.int .i64 x.f2,.slice (some ad) x.f3.length ca] 24 (0,0))
 m:Kd.C (optk km) V (some ad) (x.f3.length + 1) (x.f3.map some ++ [none])
 a:Kd.C k24 V A x.f3.length x.f3
theorem PersP.below {x:S24} {w:World} {A:Option Addr} {c:Nat} {ad:Addr} {ca:Nat} {bi:Nat} {V W:World} (h:PersP x w A c ad ca bi V) (hb:Below V.heap.size V W):PersP x w A c ad ca bi W :=
 ⟨below_step h.b hb,blk_below h.l hb,blk_below h.i hb,Kd.C_below h.m hb,Kd.C_below h.a hb⟩
set_option maxHeartbeats 8000000 in
set_option maxRecDepth 100000 in
theorem prints_yes (x:S24) (A:Option Addr) (c:Nat) (w:World) (hc:x.f3.length ≤ c) (hC:Kd.C k24 w A x.f3.length x.f3) (htab:Lib.TabIs Tryz.prog w "internal/strconv.uint64pow10" .u64 Lib.pow10Tab) (k:Nat) (r:Int)
  (hk:vouchref19_LicWeight.f k x.f0 x.f1 x.f2 x.f3 10000=some r) (hr:r ≤ 10000) (hx:szT x ≤ 10000) (htx:∀ t ∈ leaves x,t.size ≤ 10000) :
  Calls Tryz.prog 3 #[.agg #[.int .u8 x.f0,.string x.f1,.int .i64 x.f2,.slice A x.f3.length c]] w fun e w'=>e = .returned (.bool true) ∧ Below w.heap.size w w':=by
 obtain ⟨t,f,hR,hP⟩:=both_Lic x hx htx
 have HR:=Aside0.mk hR
 have HP:=Aside0.mk hP
 have HK:=Aside0.mk hk
 have HC:=Aside0.mk hC
 have Hc:=Aside0.mk hc
 have hb:∀ o:Obj,Below w.heap.size w (w.alloc o):=fun o=>(Below.refl _ _).alloc (Nat.le_refl _) o
 have HB:=Aside0.mk hb
 have HT:=Aside0.mk htab
 have HN:=Aside0.mk hx
 have HNe:Aside0 (szT (⟨x.f0,x.f1,x.f2,x.f3⟩:S24) < 10001):=⟨by rw [szT_one];omega⟩
 have z1:decide ((10000:Int) < r)=false:=decide_eq_false (by omega)
 have HNew:=Aside0.mk (fun o:Obj=>blk_new w o)
 have b0:=blk_new w (.cells #[.int .u8 x.f0,.string x.f1,.int .i64 x.f2,.slice A x.f3.length c] 24)
 have e0:=blk_cell b0 0
 have e1:=blk_cell b0 1
 have e2:=blk_cell b0 2
 have e3:=blk_cell b0 3
 clear hk hC hc hb htab hr b0 hR hP hx htx
 go_enter Tryz.func3,Tryz.ntmps3
 go_wp2_with (fail)
 go_at_call 6
 refine (vouchref19_LicWeight.calls k _ _ _ _ _ _ _ r _ (Kd.C_below HC.out (HB.out _)) Hc.out HK.out).mono ?_
 rintro e_ w1 ⟨rfl,hb1⟩
 have HB1:=Aside0.mk (below_step (HB.out _) hb1)
 have BL1:=Aside0.mk (blk_below (HNew.out _) hb1)
 have fl0:=blk_cell BL1.out 0
 have fl1:=blk_cell BL1.out 1
 have fl2:=blk_cell BL1.out 2
 have fl3:=blk_cell BL1.out 3
 clear hb1 e0 e1 e2 e3
 go_wp2_with (fail)
 go_at_call 8
 refine (vouchkit_LentLic.marks 10001 _ _ _ _ _ _ _ (Kd.C_below HC.out HB1.out) Hc.out HNe.out (Nat.le_refl _)).mono ?_
 rintro e_ w2 ⟨ad,ca,rfl,hr2,hb2⟩
 clear fl0 fl1 fl2 fl3
 have hmm:=(Kd.R_reads' hr2).2
 rw [len_some] at hmm
 have HCa:=Aside0.mk (Nat.le_of_succ_le hmm.1)
 have HCa1:=Aside0.mk hmm.1
 have hB2:=below_step HB1.out hb2
 have P2:Aside0 (PersP x w A c ad ca w2.heap.size (w2.alloc (.cells #[.int .u8 x.f0,.string x.f1,.int .i64 x.f2,.slice (some ad) x.f3.length ca] 24))):=⟨⟨hB2.alloc hB2.size _,blk_alloc (blk_below BL1.out hb2) _,blk_new _ _,Kd.C_alloc hmm.2 _,Kd.C_alloc (Kd.C_below (Kd.C_below HC.out HB1.out) hb2) _⟩⟩
 clear hb2 hr2 hmm hB2
 have fl0:=blk_cell P2.out.l 0
 have fl1:=blk_cell P2.out.l 1
 have fl2:=blk_cell P2.out.l 2
 have fl3:=blk_cell P2.out.l 3
 go_wp2_with (fail)
 go_at_call 9
 refine (HR.out A c _ Hc.out P2.out.a).mono ?_
 rintro e_ w3 ⟨rfl,hb3⟩
 have P3:=Aside0.mk (P2.out.below hb3)
 clear hb3 fl0 fl1 fl2 fl3
 have fi0:=blk_cell P3.out.i 0
 have fi1:=blk_cell P3.out.i 1
 have fi2:=blk_cell P3.out.i 2
 have fi3:=blk_cell P3.out.i 3
 go_wp2_with (fail)
 go_at_call 10
 refine (HP.out (some ad) ca _ (tab_below HT.out P3.out.b) HCa.out (km_C_k24 P3.out.m)).mono ?_
 rintro e_ w4 ⟨rfl,hb4⟩
 have P4:=Aside0.mk (P3.out.below hb4)
 clear hb4 fi0 fi1 fi2 fi3
 have fi0:=blk_cell P4.out.i 0
 have fi1:=blk_cell P4.out.i 1
 have fi2:=blk_cell P4.out.i 2
 have fi3:=blk_cell P4.out.i 3
 have fl0:=blk_cell P4.out.l 0
 have fl1:=blk_cell P4.out.l 1
 have fl2:=blk_cell P4.out.l 2
 have fl3:=blk_cell P4.out.l 3
 go_wp2_with (fail)
 go_at_call 11
 refine (vouchkit_KeptLic.calls 10001 x _ _ _ _ _ (Nat.lt_of_le_of_lt HN.out (by decide)) (Nat.le_refl _) HCa1.out P4.out.m Hc.out P4.out.a).mono ?_
 rintro e_ w5 ⟨rfl,hb5⟩
 have HB5:=Aside0.mk (below_step P4.out.b hb5)
 clear hb5
 go_wp2_with (fail)
 go_at_call 7
 refine (vouchlaw19_works.calls _ (tab_below HT.out HB5.out)).mono ?_
 rintro e_ w6 ⟨rfl,hb6⟩
 have HB6:=Aside0.mk (below_step HB5.out hb6)
 clear hb6
 go_wp2_with (fail)
 refine bodyPost_ret (v:=.bool true) ?_ rfl ⟨rfl,HB6.out⟩
 simp [results,Tryz.results3,go_sem]
theorem prints_all (x:S24) (A:Option Addr) (c:Nat) (w:World) (hc:x.f3.length ≤ c) (hC:Kd.C k24 w A x.f3.length x.f3) (htab:Lib.TabIs Tryz.prog w "internal/strconv.uint64pow10" .u64 Lib.pow10Tab) :
  Calls Tryz.prog 3 #[.agg #[.int .u8 x.f0,.string x.f1,.int .i64 x.f2,.slice A x.f3.length c]] w fun e w'=>e = .returned (.bool true) ∧ Below w.heap.size w w':=by
 obtain ⟨r,⟨K,hK⟩,-,-,h⟩:=weight_some (szT x + 1) x 10000 (Nat.lt_succ_self _) (by omega) (Int.le_refl _)
 by_cases hr:r ≤ 10000
 ·obtain ⟨h1,h2⟩:=h hr
  exact prints_yes x A c w hc hC htab K r (hK K (Nat.le_refl _)) hr (by omega) (fun t ht=>by have:=h2 t ht;omega)
 ·exact prints_no x A c w hc hC htab K r (hK K (Nat.le_refl _)) (by omega)
end Go.Proofs.YtjapfefiaijfcaaGreatDoor.Q
