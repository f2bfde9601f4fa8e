/- A text of the contracts of the printer of licensees. The short call that a great input meets. -/
import Derived.BigRegion
import Derived.Test.YtjapfefiaijfcaaGreatDoorH5
import Derived.Test.YtjapfefiaijfcaaGreatDoorH22
import Derived.Test.YtjapfefiaijfcaaGreatDoorH26
import Derived.Test.YtjapfefiaijfcaaGreatDoorH29
import Derived.Test.YtjapfefiaijfcaaGreatDoorH30
import Derived.Test.YtjapfefiaijfcaaGreatDoorH31
import Derived.Test.YtjapfefiaijfcaaGreatDoorH32
namespace Go.Proofs.YtjapfefiaijfcaaGreatDoor.Q
open Go.RowKit Go.Proofs.YtjapfefiaijfcaaGreatDoorW.PrintWords Go.Proofs.YtjapfefiaijfcaaGreatDoorW.PrintLast Go.Proofs.YtjapfefiaijfcaaGreatDoorW.PrintMore
set_option linter.unusedVariables false
theorem bt_ext {a b:ByteArray} (h:a.size=b.size) (hb:∀ k:Nat,k < a.size → bt a (k:Int)=bt b (k:Int)):a=b:=by
 apply ByteArray.ext
 apply Array.ext
 ·exact h
 ·intro i h1 h2
  have h1':i < a.size:=h1
  have h2':i < b.size:=h2
  have e:=hb i h1
  rw [← bt_atN' a i h1',← bt_atN' b i h2'] at e
  exact UInt8.toNat_inj.mp (Int.ofNat.inj e)
theorem bt_appL (a b:ByteArray) (k:Nat) (h:k < a.size):bt (a ++ b) (k:Int)=bt a (k:Int):=by
 rw [← bt_atN' (a ++ b) k (by rw [ByteArray.size_append];omega),← bt_atN' a k h,ByteArray.getElem_append_left h]
theorem bt_appR (a b:ByteArray) (k:Nat) (h:k < b.size):bt (a ++ b) ((a.size + k:Nat):Int)=bt b (k:Int):=by
 rw [← bt_atN' (a ++ b) (a.size + k) (by rw [ByteArray.size_append];omega),← bt_atN' b k h]
 congr 2
 rw [ByteArray.getElem_append_right (by omega)]
 congr 1
 omega
def AtB (s:ByteArray) (p:Nat) (t:ByteArray):Prop:=p + t.size ≤ s.size ∧ ∀ k:Nat,k < t.size → bt s ((p + k:Nat):Int)=bt t (k:Int)
theorem AtB.left {s:ByteArray} {p:Nat} {a b:ByteArray} (h:AtB s p (a ++ b)):AtB s p a :=
 ⟨by have:=h.1;rw [ByteArray.size_append] at this;omega,fun k hk=>by rw [h.2 k (by rw [ByteArray.size_append];omega),bt_appL a b k hk]⟩
theorem AtB.right {s:ByteArray} {p:Nat} {a b:ByteArray} (h:AtB s p (a ++ b)):AtB s (p + a.size) b :=
 ⟨by have:=h.1;rw [ByteArray.size_append] at this;omega,fun k hk=>by rw [Nat.add_assoc,h.2 (a.size + k) (by rw [ByteArray.size_append];omega),bt_appR a b k hk]⟩
theorem AtB.cut {s:ByteArray} {p:Nat} {t:ByteArray} (h:AtB s p t):s.extract p (p + t.size)=t:=by
 have hs:(s.extract p (p + t.size)).size=t.size:=by have:=h.1;simp [ByteArray.size_extract];omega
 refine bt_ext hs fun k hk=>?_
 rw [bt_cut s p (p + t.size) k h.1 (by omega)]
 exact h.2 k (by omega)
theorem hasPre_bt {x q:ByteArray} (h:hasPre x q=true) (k:Nat) (hk:k < q.size):bt x (k:Int)=bt q (k:Int):=by
 unfold hasPre at h
 rw [Bool.and_eq_true,decide_eq_true_eq,beq_iff_eq,ByteArray.toList_eq,ByteArray.toList_eq] at h
 have e:x.extract 0 q.size=q:=by
  apply ByteArray.ext
  exact Array.toList_inj.mp h.2
 have:=bt_cut x 0 q.size k h.1 (by omega)
 rw [e,Nat.zero_add] at this
 exact this.symm
theorem hasPre_of {x q:ByteArray} (hs:q.size ≤ x.size) (h:∀ k:Nat,k < q.size → bt x (k:Int)=bt q (k:Int)):hasPre x q=true:=by
 have e:x.extract 0 q.size=q:=by
  have hs2:(x.extract 0 q.size).size=q.size:=by simp [ByteArray.size_extract];omega
  refine bt_ext hs2 fun k hk=>?_
  rw [bt_cut x 0 q.size k hs (by omega),Nat.zero_add]
  exact h k (by omega)
 unfold hasPre
 rw [decide_eq_true hs,e];simp
theorem two_head (k:Nat):bt (twoNm k) 0 ≠ 40 ∧ bt (twoNm k) 0 ≠ 41 ∧ bt (twoNm k) 0 ≠ 44:=by
 match k with
 | 0=>decide
 | 1=>decide
 | 2=>decide
 | 3=>decide
 | 4=>decide
 | 5=>decide
 | 6=>decide
 | k + 7=>exact (by decide:bt (⟨#[126,61]⟩:ByteArray) 0 ≠ 40 ∧ bt (⟨#[126,61]⟩:ByteArray) 0 ≠ 41 ∧ bt (⟨#[126,61]⟩:ByteArray) 0 ≠ 44)
theorem hasTwo_no (x:ByteArray) (h:bt x 0=40 ∨ bt x 0=41 ∨ bt x 0=44):∀ d k,hasTwo x d k=false:=by
 intro d
 induction d with
 | zero=>intro k;rfl
 | succ d ih =>
  intro k
  show (hasPre x (twoNm k) || hasTwo x d (k + 1))=false
  rw [ih,Bool.or_false]
  cases hp:hasPre x (twoNm k) with
  | false=>rfl
  | true =>
   have hz:0 < (twoNm k).size:=by
    match k with
    | 0=>decide
    | 1=>decide
    | 2=>decide
    | 3=>decide
    | 4=>decide
    | 5=>decide
    | 6=>decide
    | k + 7=>exact (by decide:0 < (⟨#[126,61]⟩:ByteArray).size)
   have e:bt x 0=bt (twoNm k) 0:=hasPre_bt hp 0 hz
   have:=two_head k
   omega
theorem extract_bt0 (s:ByteArray) (i:Nat) (hi:i < s.size):bt (s.extract i s.size) 0=bt s (i:Int):=by
 have:=bt_cut s i s.size 0 (Nat.le_refl _) (by omega)
 simpa using this
theorem signS_one (s:ByteArray) (i:Nat) (hi:i < s.size) (h:bt s (i:Int)=40 ∨ bt s (i:Int)=41 ∨ bt s (i:Int)=44):signS s i=1:=by
 unfold signS
 rw [hasTwo_no _ (by rw [extract_bt0 s i hi];omega),if_neg (by simp)]
 rcases h with h | h | h <;> rw [h] <;> decide
theorem signS_two (s:ByteArray) (i:Nat) (k:Nat) (hk:k=1 ∨ k=2) (h:AtB s i (twoNm k)):signS s i=2:=by
 have hz:(twoNm k).size=2:=by rcases hk with rfl | rfl <;> rfl
 have hs:=h.1
 rw [hz] at hs
 have hp:hasPre (s.extract i s.size) (twoNm k)=true:=by
  refine hasPre_of (by simp [ByteArray.size_extract];omega) fun j hj=>?_
  rw [bt_cut s i s.size j (Nat.le_refl _) (by omega)]
  exact h.2 j hj
 have ht:hasTwo (s.extract i s.size) 8 0=true:=by
  rcases hk with rfl | rfl <;> simp [hasTwo,hp]
 unfold signS
 rw [if_pos ht]
theorem while_at (p:Int → Bool) (s:ByteArray):∀ d i:Nat,(∀ j:Nat,j < d → p (bt s ((i + j:Nat):Int))=true) → i + d < s.size → p (bt s ((i + d:Nat):Int))=false → whileS p s i=i + d:=by
 intro d
 induction d with
 | zero =>
  intro i _ hi hp
  have hp':p (bt s (i:Int))=false:=hp
  rw [whileS_step p s i (by omega),hp'];simp
 | succ d ih =>
  intro i ha hi hp
  have h0:p (bt s (i:Int))=true:=ha 0 (by omega)
  rw [whileS_step p s i (by omega),if_pos h0]
  have:=ih (i + 1) (fun j hj=>by have:=ha (j + 1) (by omega);rwa [show i + (j + 1)=i + 1 + j by omega] at this) (by omega) (by rwa [show i + 1 + d=i + (d + 1) by omega])
  omega
theorem nums_bt (c:Int) (h:0 ≤ c ∧ c ≤ 255):bt (strOfNums [c]) 0=c:=by
 have e:((strOfNums [c])[0]'(by rw [nums_size];simp)).toNat=c.toNat:=by
  show (UInt8.ofNat c.toNat).toNat=c.toNat
  rw [UInt8.toNat_ofNat'];omega
 have:=bt_atN' (strOfNums [c]) 0 (by rw [nums_size];simp)
 rw [e] at this
 have h2:bt (strOfNums [c]) ((0:Nat):Int)=bt (strOfNums [c]) 0:=rfl
 omega
theorem numB_dig (n:Nat):0 < (numB (n:Int)).size ∧ ∀ k:Nat,k < (numB (n:Int)).size → 48 ≤ bt (numB (n:Int)) (k:Int) ∧ bt (numB (n:Int)) (k:Int) ≤ 57:=by
 induction n using Nat.strongRecOn with
 | _ n ih =>
  by_cases h:n < 10
  ·rw [numB_small n h,nums_size]
   refine ⟨by simp,fun k hk=>?_⟩
   obtain rfl:k=0:=by simp at hk;omega
   have:=nums_bt ((48 + n:Nat):Int) (by omega)
   have h2:bt (strOfNums [((48 + n:Nat):Int)]) ((0:Nat):Int)=bt (strOfNums [((48 + n:Nat):Int)]) 0:=rfl
   omega
  ·obtain ⟨h1,h2⟩:=ih (n / 10) (by omega)
   rw [numB_step n h]
   refine ⟨by rw [ByteArray.size_append];omega,fun k hk=>?_⟩
   rw [ByteArray.size_append,nums_size,List.length_singleton] at hk
   by_cases hlt:k < (numB ((n / 10:Nat):Int)).size
   ·rw [bt_appL _ _ k hlt];exact h2 k hlt
   ·obtain rfl:k=(numB ((n / 10:Nat):Int)).size + 0:=by omega
    rw [bt_appR _ _ 0 (by rw [nums_size];simp)]
    have:=nums_bt ((48 + n % 10:Nat):Int) (by omega)
    have h3:bt (strOfNums [((48 + n % 10:Nat):Int)]) ((0:Nat):Int)=bt (strOfNums [((48 + n % 10:Nat):Int)]) 0:=rfl
    omega
theorem of_next (s:ByteArray) (i n:Nat) (h:AtB s i (numB (n:Int) ++ ⟨#[45,111,102,40]⟩)):nextS s i=(⟨5,numB (n:Int),i,((i + (numB (n:Int)).size + 3:Nat):Int)⟩,0,0):=by
 obtain ⟨hz,hd⟩:=numB_dig n
 have hl:=h.left
 have hr:=h.right
 have hrs:i + (numB (n:Int)).size + 4 ≤ s.size:=hr.1
 have q0:bt s ((i + (numB (n:Int)).size:Nat):Int)=45:=hr.2 0 (by decide)
 have q1:bt s ((i + (numB (n:Int)).size + 1:Nat):Int)=111:=hr.2 1 (by decide)
 have q2:bt s ((i + (numB (n:Int)).size + 2:Nat):Int)=102:=hr.2 2 (by decide)
 have q3:bt s ((i + (numB (n:Int)).size + 3:Nat):Int)=40:=hr.2 3 (by decide)
 have hw:whileS isDigit s i=i + (numB (n:Int)).size:=by
  refine while_at isDigit s _ i (fun j hj=>?_) (by omega) (by rw [q0];decide)
  rw [hl.2 j hj]
  have:=hd j hj
  simp [isDigit,this]
 have hfirst:bt s (i:Int)=bt (numB (n:Int)) ((0:Nat):Int):=hl.2 0 hz
 have h0:=hd 0 hz
 unfold nextS
 rw [if_neg (by simp only [isLetter,Bool.or_eq_true,Bool.and_eq_true,decide_eq_true_eq,beq_iff_eq];omega),if_pos (by simp only [isDigit,Bool.and_eq_true,decide_eq_true_eq];omega)]
 have hdec:isDec s (i + (numB (n:Int)).size)=false:=by unfold isDec;rw [q0];simp
 have hof:isOf s (i + (numB (n:Int)).size)=true:=by
  unfold isOf
  rw [q0,q1,q2,q3,decide_eq_true (by omega:i + (numB (n:Int)).size + 3 ≤ s.size)]
  simp [isName,isLetter,isDigit]
 unfold numberS
 simp only [hw]
 rw [hdec,hof,if_neg (by simp),if_pos rfl,hl.cut]
 rfl
theorem sign_next (s:ByteArray) (i:Nat) (t:ByteArray) (n:Nat) (h:AtB s i t) (hn:t.size=n) (h1:0 < n) (hc:isLetter (bt t 0)=false ∧ isDigit (bt t 0)=false ∧ bt t 0 ≠ 34) (hs:signS s i=(n:Int)):nextS s i=(⟨6,t,i,((i + n:Nat):Int)⟩,0,0):=by
 have hf:bt s (i:Int)=bt t 0:=h.2 0 (by omega)
 unfold nextS
 rw [hf,hc.1,hc.2.1,hs,if_neg (by simp),if_neg (by simp),if_neg hc.2.2,if_pos (by omega)]
 have e:s.extract i (i + ((n:Nat):Int).toNat)=t:=by rw [Int.toNat_natCast,← hn];exact h.cut
 rw [e]
 rfl
def Lay (s:ByteArray) (i:Nat) (ks:List (Int × ByteArray)) (j:Nat):Prop :=
 ∃ toks:List S70,toks.map (fun t=>(t.f0,t.f1))=ks ∧ ∀ xs st,ToksX s j xs st → ToksX s i (toks ++ xs) st
theorem Lay.nil (s:ByteArray) (i:Nat):Lay s i [] i:=⟨[],rfl,fun _ _ h=>h⟩
theorem Lay.trans {s:ByteArray} {i j k:Nat} {a b:List (Int × ByteArray)} (h:Lay s i a j) (g:Lay s j b k):Lay s i (a ++ b) k:=by
 obtain ⟨t1,e1,f1⟩:=h;obtain ⟨t2,e2,f2⟩:=g
 exact ⟨t1 ++ t2,by rw [List.map_append,e1,e2],fun xs st h=>by rw [List.append_assoc];exact f1 _ _ (f2 _ _ h)⟩
theorem Lay.blank {s:ByteArray} {i:Nat} (hi:i < s.size) (h:bt s (i:Int)=32):Lay s i [] (i + 1):=by
 refine ⟨[],rfl,fun xs st hx=>?_⟩
 have hb:∀ j,SkipTo s (i + 1) j → SkipTo s i j:=fun j hj=>.blk hi (by omega) (by rw [h];decide) hj
 cases hx with
 | nil _ j h1 h2=>exact .nil i j (hb j h1) h2
 | stop _ j h1 h2=>exact .stop i j (hb j h1) h2
 | cons _ j e t xs st h1 h2 h3 h4 h5 h6 h7=>exact .cons i j e t xs st (hb j h1) h2 h3 h4 h5 h6 h7
theorem Lay.tok {s:ByteArray} {i e:Nat} {t:S70} (hi:i < s.size) (h1:bt s (i:Int) ≠ 35) (h2:isBlk (bt s (i:Int))=false) (hn:nextS s i=(t,0,0)) (h3:t.f3=(e:Int)) (h4:i < e) (h5:e ≤ s.size):Lay s i [(t.f0,t.f1)] e :=
 ⟨[t],rfl,fun xs st h=>.cons i i e t xs st (.stop hi h1 h2) hi hn h3 h4 h5 h⟩
theorem lay_one {s:ByteArray} {i:Nat} (c:UInt8) (hc:c=40 ∨ c=41 ∨ c=44) (h:AtB s i ⟨#[c]⟩):Lay s i [(6,⟨#[c]⟩)] (i + 1):=by
 have hs:i + 1 ≤ s.size:=h.1
 have hf:bt s (i:Int)=bt (⟨#[c]⟩:ByteArray) 0:=h.2 0 (Nat.zero_lt_one)
 have hcc:bt (⟨#[c]⟩:ByteArray) 0=40 ∨ bt (⟨#[c]⟩:ByteArray) 0=41 ∨ bt (⟨#[c]⟩:ByteArray) 0=44:=by
  rcases hc with rfl | rfl | rfl
  ·exact .inl (by decide)
  ·exact .inr (.inl (by decide))
  ·exact .inr (.inr (by decide))
 have hn:=sign_next s i ⟨#[c]⟩ 1 h rfl (by decide) (by rcases hc with rfl | rfl | rfl <;> decide) (signS_one s i (by omega) (by omega))
 exact Lay.tok (t:=⟨6,⟨#[c]⟩,i,((i + 1:Nat):Int)⟩) (by omega) (by omega) (by rw [hf];rcases hc with rfl | rfl | rfl <;> decide) hn rfl (by omega) hs
theorem lay_two {s:ByteArray} {i k:Nat} (hk:k=1 ∨ k=2) (h:AtB s i (twoNm k)):Lay s i [(6,twoNm k)] (i + 2):=by
 have hz:(twoNm k).size=2:=by rcases hk with rfl | rfl <;> rfl
 have hs:=h.1
 rw [hz] at hs
 have hf:bt s (i:Int)=bt (twoNm k) 0:=h.2 0 (by omega)
 have hn:=sign_next s i (twoNm k) 2 h hz (by decide) (by rcases hk with rfl | rfl <;> decide) (signS_two s i k hk h)
 exact Lay.tok (t:=⟨6,twoNm k,i,((i + 2:Nat):Int)⟩) (by omega) (by rw [hf];rcases hk with rfl | rfl <;> decide) (by rw [hf];rcases hk with rfl | rfl <;> decide) hn rfl (by omega) hs
theorem lay_of {s:ByteArray} {i n:Nat} (h:AtB s i (numB (n:Int) ++ ⟨#[45,111,102,40]⟩)):Lay s i [(5,numB (n:Int)),(6,⟨#[40]⟩)] (i + (numB (n:Int)).size + 4):=by
 have hz:=(numB_dig n).1
 have hr:=h.right
 have hrs:i + (numB (n:Int)).size + 4 ≤ s.size:=hr.1
 have hf:bt s (i:Int)=bt (numB (n:Int)) ((0:Nat):Int):=h.left.2 0 hz
 have h0:=(numB_dig n).2 0 hz
 have hp:AtB s (i + (numB (n:Int)).size + 3) ⟨#[40]⟩:=⟨hrs,fun k hk=>by
  have hk0:k=0:=by have:k < 1:=hk;omega
  subst hk0
  exact hr.2 3 (by decide)⟩
 refine (Lay.tok (t:=⟨5,numB (n:Int),i,((i + (numB (n:Int)).size + 3:Nat):Int)⟩) (by omega) (by omega) ?_ (of_next s i n h) rfl (by omega) (by omega)).trans (lay_one 40 (.inl rfl) hp)
 rw [hf]
 have:∀ c:Int,48 ≤ c → c ≤ 57 → isBlk c=false:=fun c h1 h2=>by
  have:c=48 ∨ c=49 ∨ c=50 ∨ c=51 ∨ c=52 ∨ c=53 ∨ c=54 ∨ c=55 ∨ c=56 ∨ c=57:=by omega
  rcases this with rfl | rfl | rfl | rfl | rfl | rfl | rfl | rfl | rfl | rfl <;> decide
 exact this _ h0.1 h0.2
theorem nums_bt_all (l:List Int) (h:∀ c ∈ l,0 ≤ c ∧ c ≤ 255) (k:Nat) (hk:k < l.length):bt (strOfNums l) (k:Int)=l[k]:=by
 rw [← bt_atN' (strOfNums l) k (by rw [nums_size];exact hk)]
 have e:((strOfNums l)[k]'(by rw [nums_size];exact hk))=UInt8.ofNat (l[k]).toNat:=by
  have e2:(l.map fun n=>UInt8.ofNat n.toNat)[k]'(by rw [List.length_map];exact hk)=UInt8.ofNat (l[k]).toNat:=List.getElem_map _
  exact e2
 rw [e,UInt8.toNat_ofNat']
 have:=h _ (List.getElem_mem hk)
 omega
theorem escS_byte (c:Int) (hc:0 ≤ c ∧ c ≤ 255):∀ d ∈ escS c,0 ≤ d ∧ d ≤ 255:=by
 unfold escS
 repeat' split
 all_goals intro d hd
 all_goals simp at hd
 all_goals omega
theorem quoteN_byte (t:ByteArray) (k:Nat):∀ d ∈ quoteN t k,0 ≤ d ∧ d ≤ 255:=by
 induction k with
 | zero=>intro d hd;simp [quoteN] at hd;omega
 | succ k ih =>
  intro d hd
  rw [quoteN,List.mem_append] at hd
  exact hd.elim (ih d) (escS_byte _ (bt_range t _) d)
theorem quoteS_bt (t:ByteArray) (k:Nat) (hk:k < (quoteN t t.size ++ [34]).length):bt (quoteS t) (k:Int)=(quoteN t t.size ++ [34])[k] :=
 nums_bt_all _ (fun c hc=>by rw [List.mem_append] at hc;exact hc.elim (quoteN_byte t _ c) (fun h=>by simp at h;omega)) k hk
theorem quoteN_head0 (t:ByteArray) (k:Nat):(quoteN t k)[0]? = some 34:=by
 induction k with
 | zero=>rfl
 | succ k ih=>rw [quoteN,List.getElem?_append_left (quoteN_pos t k),ih]
theorem quoteN_head (t:ByteArray):(quoteN t t.size ++ [34])[0]'(by simp)=34:=by
 have h2:(quoteN t t.size ++ [34])[0]? = some 34:=by rw [List.getElem?_append_left (quoteN_pos t t.size)];exact quoteN_head0 t _
 rw [List.getElem?_eq_getElem (by simp)] at h2
 exact Option.some.inj h2
theorem lay_str {s:ByteArray} {i:Nat} (t:ByteArray) (h:AtB s i (quoteS t)):Lay s i [(4,t)] (i + (quoteS t).size):=by
 have hsz:(quoteS t).size=(quoteN t t.size).length + 1:=by unfold quoteS;rw [nums_size,List.length_append];rfl
 have hb:∀ k (hk:k < (quoteN t t.size ++ [34]).length),bt s ((i + k:Nat):Int)=(quoteN t t.size ++ [34])[k]:=by
  intro k hk
  have hk':k < (quoteS t).size:=by rw [hsz];simpa using hk
  rw [h.2 k hk']
  exact quoteS_bt t k hk
 have h34:bt s (i:Int)=34:=by
  have:=hb 0 (by simp)
  exact this.trans (quoteN_head t)
 exact Lay.tok (t:=⟨4,t,i,((i + (quoteS t).size:Nat):Int)⟩) (by have:=h.1;omega) (by omega) (by rw [h34];decide) (quote_next s i t h.1 hb) rfl (by omega) h.1
end Go.Proofs.YtjapfefiaijfcaaGreatDoor.Q
namespace Go.Proofs.YtjapfefiaijfcaaGreatDoor.Q
open Go.RowKit Go.Proofs.YtjapfefiaijfcaaGreatDoorW.PrintWords Go.Proofs.YtjapfefiaijfcaaGreatDoorW.PrintLast Go.Proofs.YtjapfefiaijfcaaGreatDoorW.PrintMore
set_option linter.unusedVariables false
def parK (p:Bool) (l:List (Int × ByteArray)):List (Int × ByteArray):=if p=true then (6,⟨#[40]⟩) :: l ++ [(6,⟨#[41]⟩)] else l
def joinK (f:S24 → List (Int × ByteArray)) (ys:List S24):Nat → List (Int × ByteArray)
 | 0=>[]
 | k + 1=>joinK f ys k ++ (if 0 < k then [(6,⟨#[44]⟩)] else []) ++ f (rd_T24 ys (k:Int))
def shN:Nat → S24 → Int → List (Int × ByteArray)
 | 0,_,_=>[]
 | n + 1,x,want =>
  if x.f0=3 then parK (decide (0 < want)) (shN n (rd_T24 x.f3 0) 0 ++ [(6,⟨#[124,124]⟩)] ++ shN n (rd_T24 x.f3 1) 1)
  else if x.f0=2 then parK (decide (1 < want)) (shN n (rd_T24 x.f3 0) 1 ++ [(6,⟨#[38,38]⟩)] ++ shN n (rd_T24 x.f3 1) 2)
  else if x.f0=4 then (5,numB x.f2) :: (6,⟨#[40]⟩) :: joinK (fun y=>shN n y 0) x.f3 x.f3.length ++ [(6,⟨#[41]⟩)]
  else [(4,x.f1)]
theorem Lay.to {s:ByteArray} {i j j':Nat} {ks:List (Int × ByteArray)} (h:Lay s i ks j) (e:j=j'):Lay s i ks j':=e ▸ h
theorem AtB.to {s:ByteArray} {i j:Nat} {t:ByteArray} (h:AtB s i t) (e:i=j):AtB s j t:=e ▸ h
theorem lay_sep {s:ByteArray} {i k:Nat} (hk:k=1 ∨ k=2) (c:ByteArray) (hc:c=⟨#[32]⟩ ++ twoNm k ++ ⟨#[32]⟩) (h:AtB s i c):Lay s i [(6,twoNm k)] (i + 4):=by
 subst hc
 have hz:(twoNm k).size=2:=by rcases hk with rfl | rfl <;> rfl
 have e1:(⟨#[32]⟩:ByteArray).size=1:=rfl
 have h1:=h.left.left
 have h2:=h.left.right
 have h3:AtB s (i + 3) ⟨#[32]⟩:=h.right.to (by rw [ByteArray.size_append,hz,e1])
 have h2':AtB s (i + 1) (twoNm k):=h2
 have b1:bt s (i:Int)=32:=h1.2 0 (by decide)
 have b3:bt s ((i + 3:Nat):Int)=32:=h3.2 0 (by decide)
 have s3:i + 3 + 1 ≤ s.size:=h3.1
 have q1:Lay s i [] (i + 1):=Lay.blank (by omega) b1
 have q2:Lay s (i + 1) [(6,twoNm k)] (i + 3):=lay_two hk h2'
 have q3:Lay s (i + 3) [] (i + 4):=Lay.blank (by omega) b3
 simpa using (q1.trans q2).trans q3
theorem lay_par {s:ByteArray} (p:Bool) (t:ByteArray) (ks:List (Int × ByteArray)) (i:Nat) (h:AtB s i (parS p t)) (hk:∀ j,AtB s j t → Lay s j ks (j + t.size)):Lay s i (parK p ks) (i + (parS p t).size):=by
 cases p with
 | false=>exact hk i h
 | true =>
  have e0:(⟨#[40]⟩:ByteArray).size=1:=rfl
  have e1:(⟨#[41]⟩:ByteArray).size=1:=rfl
  have h':AtB s i (⟨#[40]⟩ ++ t ++ ⟨#[41]⟩):=h
  have h1:=h'.left.left
  have h2:=h'.left.right
  have h3:=h'.right
  have h2':AtB s (i + 1) t:=h2
  have h3':AtB s (i + 1 + t.size) ⟨#[41]⟩:=h3.to (by rw [ByteArray.size_append,e0];omega)
  have q1:=lay_one 40 (.inl rfl) h1
  have q2:=hk _ h2'
  have q3:=lay_one 41 (.inr (.inl rfl)) h3'
  have e:(parS true t).size=1 + t.size + 1:=by show (⟨#[40]⟩ ++ t ++ ⟨#[41]⟩:ByteArray).size=_;rw [ByteArray.size_append,ByteArray.size_append,e0,e1]
  exact ((q1.trans q2).trans q3).to (by rw [e];omega)
theorem lay_join {s:ByteArray} (f:S24 → ByteArray) (g:S24 → List (Int × ByteArray)) (ys:List S24) (h:∀ y ∈ ys,∀ j,AtB s j (f y) → Lay s j (g y) (j + (f y).size)) (i:Nat) :
  ∀ k,k ≤ ys.length → AtB s i (joinF f ys k) → Lay s i (joinK g ys k) (i + (joinF f ys k).size):=by
 intro k
 induction k with
 | zero=>intro _ _;exact Lay.nil s i
 | succ k ih =>
  intro hk ha
  have hlt:k < ys.length:=by omega
  have hy:rd_T24 ys (k:Int) ∈ ys:=by rw [rd_nat hlt];exact List.getElem_mem hlt
  have ha':AtB s i (joinF f ys k ++ (if 0 < k then ⟨#[44,32]⟩ else ⟨#[]⟩) ++ f (rd_T24 ys (k:Int))):=ha
  have h1:=ih (by omega) ha'.left.left
  have h2:=ha'.left.right
  have hst:=joinF_step f ys k
  show Lay s i (joinK g ys k ++ (if 0 < k then [(6,⟨#[44]⟩)] else []) ++ g (rd_T24 ys (k:Int))) _
  by_cases h0:0 < k
  ·rw [if_pos h0] at h2 hst ⊢
   have e2:(⟨#[44,32]⟩:ByteArray).size=2:=rfl
   have hc:AtB s (i + (joinF f ys k).size) (⟨#[44]⟩ ++ ⟨#[32]⟩):=h2
   have b1:bt s ((i + (joinF f ys k).size + 1:Nat):Int)=32:=h2.2 1 (by decide)
   have s1:i + (joinF f ys k).size + 2 ≤ s.size:=h2.1
   have ha3:AtB s (i + (joinF f ys k).size + 1 + 1) (f (rd_T24 ys (k:Int))):=ha'.right.to (by rw [if_pos h0,ByteArray.size_append,e2];omega)
   have q3:=(h _ hy _ ha3).to (j':=i + (joinF f ys (k + 1)).size) (by rw [hst];omega)
   have q:=((h1.trans (lay_one 44 (.inr (.inr rfl)) hc.left)).trans (Lay.blank (by omega) b1)).trans q3
   simpa using q
  ·rw [if_neg h0] at hst ⊢
   have ha3:AtB s (i + (joinF f ys k).size) (f (rd_T24 ys (k:Int))):=ha'.right.to (by rw [if_neg h0,ByteArray.size_append];have:(⟨#[]⟩:ByteArray).size=0:=rfl;omega)
   have q3:=(h _ hy _ ha3).to (j':=i + (joinF f ys (k + 1)).size) (by rw [hst];omega)
   simpa using h1.trans q3
theorem lay_lic (s:ByteArray) (N:Nat):∀ (x:S24) (want:Int) (i:Nat),szT x ≤ N → okT x=true → AtB s i (licN N x want) → Lay s i (shN N x want) (i + (licN N x want).size):=by
 induction N with
 | zero=>intro x want i h;have:=szT_pos x;omega
 | succ N ih =>
  intro x want i hN hok ha
  have hkid:∀ y ∈ x.f3,∀ wt j,AtB s j (licN N y wt) → Lay s j (shN N y wt) (j + (licN N y wt).size):=by
   intro y hy wt j
   refine ih y wt j (by have:=kid_le hy;omega) ?_
   rw [okT_eq,Bool.and_eq_true] at hok
   exact List.all_eq_true.1 hok.2 y hy
  have hhead:headT x.f0 x.f1 x.f2 x.f3.length=true:=by rw [okT_eq,Bool.and_eq_true] at hok;exact hok.1
  unfold headT at hhead
  by_cases a3:x.f0=3
  ·have hs:licN (N + 1) x want=parS (decide (0 < want)) (licN N (rd_T24 x.f3 0) 0 ++ ⟨#[32,124,124,32]⟩ ++ licN N (rd_T24 x.f3 1) 1):=by
    show (if x.f0=3 then _ else if x.f0=2 then _ else _)=_
    rw [if_pos a3]
   have hk:shN (N + 1) x want=parK (decide (0 < want)) (shN N (rd_T24 x.f3 0) 0 ++ [(6,⟨#[124,124]⟩)] ++ shN N (rd_T24 x.f3 1) 1):=by
    show (if x.f0=3 then _ else if x.f0=2 then _ else _)=_
    rw [if_pos a3]
   have hl2:x.f3.length=2:=by simp [a3] at hhead;omega
   have hkids:=two_kids x hl2
   have m0:rd_T24 x.f3 0 ∈ x.f3:=by rw [hkids];simp [rd_T24]
   have m1:rd_T24 x.f3 1 ∈ x.f3:=by rw [hkids];simp [rd_T24]
   rw [hs] at ha ⊢
   rw [hk]
   refine lay_par _ _ _ i ha fun j hj=>?_
   have q0:=hkid _ m0 0 j hj.left.left
   have q1:=lay_sep (k:=2) (.inr rfl) _ rfl hj.left.right
   have q2:=hkid _ m1 1 _ (hj.right.to (j:=j + (licN N (rd_T24 x.f3 0) 0).size + 4) (by rw [ByteArray.size_append];have e:(⟨#[32,124,124,32]⟩:ByteArray).size=4:=rfl;omega))
   exact ((q0.trans q1).trans q2).to (by simp only [ByteArray.size_append];have e:(⟨#[32,124,124,32]⟩:ByteArray).size=4:=rfl;omega)
  by_cases a2:x.f0=2
  ·have hs:licN (N + 1) x want=parS (decide (1 < want)) (licN N (rd_T24 x.f3 0) 1 ++ ⟨#[32,38,38,32]⟩ ++ licN N (rd_T24 x.f3 1) 2):=by
    show (if x.f0=3 then _ else if x.f0=2 then _ else _)=_
    rw [if_neg a3,if_pos a2]
   have hk:shN (N + 1) x want=parK (decide (1 < want)) (shN N (rd_T24 x.f3 0) 1 ++ [(6,⟨#[38,38]⟩)] ++ shN N (rd_T24 x.f3 1) 2):=by
    show (if x.f0=3 then _ else if x.f0=2 then _ else _)=_
    rw [if_neg a3,if_pos a2]
   have hl2:x.f3.length=2:=by simp [a2] at hhead;omega
   have hkids:=two_kids x hl2
   have m0:rd_T24 x.f3 0 ∈ x.f3:=by rw [hkids];simp [rd_T24]
   have m1:rd_T24 x.f3 1 ∈ x.f3:=by rw [hkids];simp [rd_T24]
   rw [hs] at ha ⊢
   rw [hk]
   refine lay_par _ _ _ i ha fun j hj=>?_
   have q0:=hkid _ m0 1 j hj.left.left
   have q1:=lay_sep (k:=1) (.inl rfl) _ rfl hj.left.right
   have q2:=hkid _ m1 2 _ (hj.right.to (j:=j + (licN N (rd_T24 x.f3 0) 1).size + 4) (by rw [ByteArray.size_append];have e:(⟨#[32,38,38,32]⟩:ByteArray).size=4:=rfl;omega))
   exact ((q0.trans q1).trans q2).to (by simp only [ByteArray.size_append];have e:(⟨#[32,38,38,32]⟩:ByteArray).size=4:=rfl;omega)
  by_cases a4:x.f0=4
  ·have hs:licN (N + 1) x want=numB x.f2 ++ ⟨#[45,111,102,40]⟩ ++ joinF (fun y=>licN N y 0) x.f3 x.f3.length ++ ⟨#[41]⟩:=by
    show (if x.f0=3 then _ else if x.f0=2 then _ else if x.f0=4 then _ else _)=_
    rw [if_neg a3,if_neg a2,if_pos a4]
   have hk:shN (N + 1) x want=(5,numB x.f2) :: (6,⟨#[40]⟩) :: joinK (fun y=>shN N y 0) x.f3 x.f3.length ++ [(6,⟨#[41]⟩)]:=by
    show (if x.f0=3 then _ else if x.f0=2 then _ else if x.f0=4 then _ else _)=_
    rw [if_neg a3,if_neg a2,if_pos a4]
   have hkk:1 ≤ x.f2 ∧ x.f2 ≤ (x.f3.length:Int):=by
    simp [a4] at hhead
    exact hhead.2
   obtain ⟨n,hn⟩:=Int.eq_ofNat_of_zero_le (show 0 ≤ x.f2 by omega)
   rw [hs] at ha ⊢
   rw [hk]
   rw [hn] at ha ⊢
   have e4:(⟨#[45,111,102,40]⟩:ByteArray).size=4:=rfl
   have e1:(⟨#[41]⟩:ByteArray).size=1:=rfl
   have q0:=lay_of ha.left.left
   have q1:=lay_join (fun y=>licN N y 0) (fun y=>shN N y 0) x.f3 (fun y hy j hj=>hkid y hy 0 j hj) (i + (numB (n:Int)).size + 4) x.f3.length (Nat.le_refl _) (ha.left.right.to (by rw [ByteArray.size_append,e4];omega))
   have q2:=lay_one 41 (.inr (.inl rfl)) (ha.right.to (j:=i + (numB (n:Int)).size + 4 + (joinF (fun y=>licN N y 0) x.f3 x.f3.length).size) (by simp only [ByteArray.size_append,e4];omega))
   exact ((q0.trans q1).trans q2).to (by simp only [ByteArray.size_append,e4,e1];omega)
  ·have hs:licN (N + 1) x want=quoteS x.f1:=by
    show (if x.f0=3 then _ else if x.f0=2 then _ else if x.f0=4 then _ else _)=_
    rw [if_neg a3,if_neg a2,if_neg a4]
   have hk:shN (N + 1) x want=[(4,x.f1)]:=by
    show (if x.f0=3 then _ else if x.f0=2 then _ else if x.f0=4 then _ else _)=_
    rw [if_neg a3,if_neg a2,if_neg a4]
   rw [hs] at ha ⊢
   rw [hk]
   exact lay_str x.f1 ha
end Go.Proofs.YtjapfefiaijfcaaGreatDoor.Q
namespace Go.Proofs.YtjapfefiaijfcaaGreatDoor.Q
open Go.RowKit Go.Proofs.YtjapfefiaijfcaaGreatDoorW.PrintWords Go.Proofs.YtjapfefiaijfcaaGreatDoorW.PrintLast Go.Proofs.YtjapfefiaijfcaaGreatDoorW.PrintMore
set_option linter.unusedVariables false
def depK (p:Bool) (d:Nat):Nat:=if p=true then d + 1 else d
def maxF (f:S24 → Nat) (ys:List S24):Nat:=(ys.map f).foldl max 0
def depN:Nat → S24 → Int → Nat
 | 0,_,_=>0
 | n + 1,x,want =>
  if x.f0=3 then depK (decide (0 < want)) (max (depN n (rd_T24 x.f3 0) 0) (depN n (rd_T24 x.f3 1) 1))
  else if x.f0=2 then depK (decide (1 < want)) (max (depN n (rd_T24 x.f3 0) 1) (depN n (rd_T24 x.f3 1) 2))
  else if x.f0=4 then maxF (fun y=>depN n y 0) x.f3 + 1
  else 0
def AtK (toks:List S70) (i:Nat) (ks:List (Int × ByteArray)):Prop:=∀ k (h:k < ks.length),∃ h2:i + k < toks.length,(toks[i + k].f0,toks[i + k].f1)=ks[k]
theorem AtK.left {toks:List S70} {i:Nat} {a b:List (Int × ByteArray)} (h:AtK toks i (a ++ b)):AtK toks i a:=fun k hk=>by
 obtain ⟨h2,e⟩:=h k (by rw [List.length_append];omega)
 exact ⟨h2,by rw [e,List.getElem_append_left hk]⟩
theorem AtK.right {toks:List S70} {i:Nat} {a b:List (Int × ByteArray)} (h:AtK toks i (a ++ b)):AtK toks (i + a.length) b:=fun k hk=>by
 obtain ⟨h2,e⟩:=h (a.length + k) (by rw [List.length_append];omega)
 have h3:i + a.length + k < toks.length:=by omega
 refine ⟨h3,?_⟩
 rw [List.getElem_append_right (by omega)] at e
 simp only [Nat.add_sub_cancel_left] at e
 rw [← e]
 simp only [Nat.add_assoc]
theorem sign_yes (toks:List S70) (cs:List S138) (i:Nat) (dp:Int) (t:ByteArray) (h:AtK toks i [(6,t)]):lics_reader_sign.f toks cs i dp t=some (true,(i:Int),dp):=by
 obtain ⟨h2,e⟩:=h 0 (by simp)
 have h2':i < toks.length:=h2
 have e0:toks[i].f0=6:=(Prod.mk.inj e).1
 have e1:toks[i].f1=t:=(Prod.mk.inj e).2
 have er:rd_T70 toks (i:Int)=toks[i]:=by simp [rd_T70,h2']
 unfold lics_reader_sign.f
 rw [if_pos (by omega),if_pos (by omega),er,if_pos e0,e1]
 simp
theorem sign_not (toks:List S70) (cs:List S138) (i:Nat) (dp:Int) (t:ByteArray) (h:∀ h2:i < toks.length,toks[i].f0 ≠ 6 ∨ toks[i].f1.toList ≠ t.toList):lics_reader_sign.f toks cs i dp t=some (false,(i:Int),dp):=by
 unfold lics_reader_sign.f
 by_cases hl:i < toks.length
 ·have er:rd_T70 toks (i:Int)=toks[i]:=by simp [rd_T70,hl]
  rw [if_pos (by omega),if_pos (by omega),er]
  rcases h hl with h | h
  ·rw [if_neg h]
  ·split
   ·rw [beq_eq_false_iff_ne.mpr h]
   ·rfl
 ·rw [if_neg (by omega)]
def Res (toks:List S70) (cs:List S138) (fn i:Nat) (dp:Int) (x:S24) (j:Nat) (good:Prop):Prop:=(good → PartOK toks cs fn i dp x j) ∧ (¬ good → PartNo3 toks cs fn i dp)
def ResC (toks:List S70) (cs:List S138) (pf:Nat) (s:ByteArray) (op:Int) (i:Nat) (dp:Int) (x:S24) (j:Nat) (good:Prop):Prop :=
 (good → ∃ (l0:S24) (j0:Nat),PartOK toks cs pf i dp l0 j0 ∧ (∀ r n,Chain toks cs pf s op dp x j r n → Chain toks cs pf s op dp l0 j0 r n) ∧ (ChainBad3 toks cs pf s dp j → ChainBad3 toks cs pf s dp j0)) ∧
 (¬ good → PartNo3 toks cs pf i dp ∨ ∃ (l0:S24) (j0:Nat),PartOK toks cs pf i dp l0 j0 ∧ ChainBad3 toks cs pf s dp j0)
theorem Res.chain {toks:List S70} {cs:List S138} {pf i:Nat} {dp:Int} {x:S24} {j:Nat} {good:Prop} (s:ByteArray) (op:Int) (h:Res toks cs pf i dp x j good):ResC toks cs pf s op i dp x j good :=
 ⟨fun g=>⟨x,j,h.1 g,fun _ _ c=>c,fun c=>c⟩,fun g=>.inl (h.2 g)⟩
theorem resC_all {toks:List S70} {cs:List S138} (hm:toks.length ≤ 8192) {i:Nat} {dp:Int} {x:S24} {j:Nat} {good:Prop} (h:ResC toks cs 81 ⟨#[38,38]⟩ 2 i dp x j good) (hs:lics_reader_sign.f toks cs j dp ⟨#[38,38]⟩=some (false,(j:Int),dp)):Res toks cs 59 i dp x j good:=by
 refine ⟨fun g=>?_,fun g=>?_⟩
 ·obtain ⟨l0,j0,h1,h2,-⟩:=h.1 g
  exact lics_all.calls toks cs hm i dp l0 j0 x j h1 (h2 _ _ (.stop x j hs))
 ·rcases h.2 g with h1 | ⟨l0,j0,h1,h2⟩
  ·exact lics_all_no3.calls toks cs i dp h1
  ·exact lics_all_bad3.calls toks cs hm i dp l0 j0 h1 h2
theorem resC_some {toks:List S70} {cs:List S138} (hm:toks.length ≤ 8192) {i:Nat} {dp:Int} {x:S24} {j:Nat} {good:Prop} (h:ResC toks cs 59 ⟨#[124,124]⟩ 3 i dp x j good) (hs:lics_reader_sign.f toks cs j dp ⟨#[124,124]⟩=some (false,(j:Int),dp)):Res toks cs 36 i dp x j good:=by
 refine ⟨fun g=>?_,fun g=>?_⟩
 ·obtain ⟨l0,j0,h1,h2,-⟩:=h.1 g
  exact lics_some.calls toks cs hm i dp l0 j0 x j h1 (h2 _ _ (.stop x j hs))
 ·rcases h.2 g with h1 | ⟨l0,j0,h1,h2⟩
  ·exact lics_some_no3.calls toks cs i dp h1
  ·exact lics_some_bad3.calls toks cs hm i dp l0 j0 h1 h2
theorem resC_more {toks:List S70} {cs:List S138} {pf:Nat} {s:ByteArray} {op:Int} {i:Nat} {dp:Int} {a b:S24} {j k:Nat} {ga gb:Prop} (h:ResC toks cs pf s op i dp a j ga) (hj:j < toks.length) (hs:lics_reader_sign.f toks cs j dp s=some (true,(j:Int),dp)) (hb:Res toks cs pf (j + 1) dp b k gb) (hk:j < k) :
  ResC toks cs pf s op i dp ⟨op,⟨#[]⟩,0,[a,b]⟩ k (ga ∧ gb):=by
 refine ⟨fun g=>?_,fun g=>?_⟩
 ·obtain ⟨l0,j0,h1,h2,h3⟩:=h.1 g.1
  have hp:PartOK toks cs pf ((j:Int) + 1) dp b k:=hb.1 g.2
  exact ⟨l0,j0,h1,fun r n c=>h2 r n (.more a j b k r n hj hs hp (by omega) c),fun c=>h3 (.more hj hs hp hk c)⟩
 ·by_cases g1:ga
  ·obtain ⟨l0,j0,h1,h2,h3⟩:=h.1 g1
   have hp:PartNo3 toks cs pf ((j:Int) + 1) dp:=hb.2 (fun q=>g ⟨g1,q⟩)
   exact .inr ⟨l0,j0,h1,h3 (.bad hj hs hp)⟩
  ·exact h.2 g1
theorem Res.par {toks:List S70} {cs:List S138} (hm:toks.length ≤ 8192) {i:Nat} {dp:Int} {x:S24} {j:Nat} {good:Prop} (h0:0 ≤ dp) (h1:dp ≤ 64) (hi:AtK toks i [(6,⟨#[40]⟩)]) (hj:AtK toks j [(6,⟨#[41]⟩)]) (h:dp < 64 → Res toks cs 36 (i + 1) (dp + 1) x j good):Res toks cs 81 i dp x (j + 1) (dp < 64 ∧ good):=by
 obtain ⟨hi2,ei⟩:=hi 0 (by simp)
 obtain ⟨hj2,-⟩:=hj 0 (by simp)
 have hi2':i < toks.length:=hi2
 have hj2':j < toks.length:=hj2
 have e0:toks[i].f0=6:=(Prod.mk.inj ei).1
 have er:rd_T70 toks (i:Int)=toks[i]:=by simp [rd_T70,hi2']
 have s1:=sign_yes toks cs i dp _ hi
 have s2:=sign_yes toks cs j (dp + 1) _ hj
 have w1:wrap64 ((i:Int) + 1)=(i:Int) + 1:=by unfold wrap64;omega
 have w2:wrap64 (dp + 1)=dp + 1:=by unfold wrap64;omega
 have w3:wrap64 ((j:Int) + 1)=(j:Int) + 1:=by unfold wrap64;omega
 have w4:wrap64 dp=dp:=by unfold wrap64;omega
 by_cases hd:dp < 64
 ·have hE:lics_reader_enter.f toks cs i dp=some (0,(i:Int) + 1,dp + 1):=by
   unfold lics_reader_enter.f;rw [s1];simp [w1,w2,show ¬ dp=64 by omega]
  have hL:lics_reader_leave.f toks cs j (dp + 1)=some (0,((j + 1:Nat):Int),dp):=by
   unfold lics_reader_leave.f;rw [s2];simp [w3,w4]
  refine ⟨fun g=>?_,fun g=>?_⟩
  ·have hp:PartOK toks cs 36 ((i:Int) + 1) (dp + 1) x j:=(h hd).1 g.2
   exact lics_one_in.calls toks cs i dp _ hi2' hm er.symm (by omega) (by omega) (by omega) x j _ hE hp hL
  ·have hp:PartNo3 toks cs 36 ((i:Int) + 1) (dp + 1):=(h hd).2 (fun q=>g ⟨hd,q⟩)
   exact lics_one_in_no3.calls toks cs i dp _ hi2' hm er.symm (by omega) (by omega) (by omega) hE hp
 ·have hE:lics_reader_enter.f toks cs i dp=some (3,(i:Int),dp):=by
   unfold lics_reader_enter.f;rw [s1];simp [show dp=64 by omega]
  exact ⟨fun g=>absurd g.1 hd,fun _=>lics_one_shut3.calls toks cs i dp _ hi2' hm er.symm (by omega) (by omega) (by omega) 3 hE rfl⟩
theorem decFrom_app (l:List UInt8) (b:UInt8):∀ acc n,Lib.decFrom acc l=some n → Lib.decFrom acc (l ++ [b])=(Lib.digitVal b).map (fun d=>n * 10 + d):=by
 induction l with
 | nil =>
  intro acc n h
  obtain rfl:=Option.some.inj h
  show (match Lib.digitVal b with | some d=>Lib.decFrom (acc * 10 + d) [] | none=>none)=_
  cases Lib.digitVal b <;> rfl
 | cons a l ih =>
  intro acc n h
  simp only [Lib.decFrom,List.cons_append] at h ⊢
  cases ha:Lib.digitVal a with
  | none=>rw [ha] at h;cases h
  | some d=>rw [ha] at h;exact ih _ _ h
theorem decDigits_from (n:Nat):Lib.decFrom 0 (Lib.decDigits n)=some n:=by
 induction n using Nat.strongRecOn with
 | _ n ih =>
  rw [Lib.decDigits]
  have hv:∀ m:Nat,m < 10 → Lib.digitVal (UInt8.ofNat (48 + m))=some m:=by
   intro m hm
   have:m=0 ∨ m=1 ∨ m=2 ∨ m=3 ∨ m=4 ∨ m=5 ∨ m=6 ∨ m=7 ∨ m=8 ∨ m=9:=by omega
   rcases this with rfl | rfl | rfl | rfl | rfl | rfl | rfl | rfl | rfl | rfl <;> decide
  by_cases h:n < 10
  ·rw [dif_pos h]
   show (match Lib.digitVal (UInt8.ofNat (48 + n)) with | some d=>Lib.decFrom (0 * 10 + d) [] | none=>none)=_
   rw [hv n h]
   show some (0 * 10 + n)=some n
   rw [Nat.zero_mul,Nat.zero_add]
  ·rw [dif_neg h,decFrom_app _ _ 0 _ (ih (n / 10) (by omega)),hv _ (by omega)]
   show some (n / 10 * 10 + n % 10)=some n
   congr 1;omega
theorem decDigits_head (n:Nat) (hn:1 ≤ n):∃ b r,Lib.decDigits n=b :: r ∧ 49 ≤ b.toNat ∧ b.toNat ≤ 57:=by
 induction n using Nat.strongRecOn with
 | _ n ih =>
  rw [Lib.decDigits]
  by_cases h:n < 10
  ·rw [dif_pos h]
   refine ⟨_,_,rfl,?_⟩
   have:n=1 ∨ n=2 ∨ n=3 ∨ n=4 ∨ n=5 ∨ n=6 ∨ n=7 ∨ n=8 ∨ n=9:=by omega
   rcases this with rfl | rfl | rfl | rfl | rfl | rfl | rfl | rfl | rfl <;> decide
  ·rw [dif_neg h]
   obtain ⟨b,r,e,hb⟩:=ih (n / 10) (by omega) (by omega)
   exact ⟨b,r ++ [UInt8.ofNat (48 + n % 10)],by rw [e];rfl,hb⟩
theorem numB_trim (n:Nat) (hn:1 ≤ n):Lib.trimLeftB (numB (n:Int)).data.toList 48=Lib.decDigits n ∧ Lib.atoi (Lib.decDigits n)=some (n:Int) ∧ Lib.decDigits n ≠ []:=by
 have e:(numB (n:Int)).data.toList=Lib.decDigits n:=by
  unfold numB Lib.itoa
  rw [if_neg (by omega),Int.toNat_natCast]
 obtain ⟨b,r,eb,hb⟩:=decDigits_head n hn
 have n48:(b == 48)=false:=by rw [beq_eq_false_iff_ne];rintro rfl;revert hb;decide
 have n45:(b == 45)=false:=by rw [beq_eq_false_iff_ne];rintro rfl;revert hb;decide
 have n43:(b == 43)=false:=by rw [beq_eq_false_iff_ne];rintro rfl;revert hb;decide
 refine ⟨?_,?_,by rw [eb];simp⟩
 ·rw [e,eb];unfold Lib.trimLeftB;rw [List.dropWhile_cons,n48];simp
 ·have h2:=decDigits_from n
  rw [eb] at h2 ⊢
  simp only [Lib.atoi,n45,n43,Bool.false_eq_true,if_false,Lib.decNat,List.isEmpty_cons,h2,Option.map_some]
theorem of_args3 {toks:List S70} {cs:List S138} {dp kk:Int} (ys:List S24) (p q:Nat → Nat) (g:Nat → Prop)
  (hp:∀ k,k < ys.length → Res toks cs 36 (p k) (dp + 1) (rd_T24 ys (k:Int)) (q k) (g k)) (hlt:∀ k,k < ys.length → p k ≤ q k ∧ p k < toks.length ∧ q k < toks.length)
  (hc:∀ k,k + 1 < ys.length → AtK toks (q k) [(6,⟨#[44]⟩)] ∧ p (k + 1)=q k + 1) (hl:AtK toks (q (ys.length - 1)) [(6,⟨#[41]⟩)]) :
  ∀ d k,k + d + 1=ys.length → ((∀ m,k ≤ m → m < ys.length → g m) → OfArgs toks cs (dp + 1) (ys.take k) (p k) ys (q (ys.length - 1))) ∧ (¬ (∀ m,k ≤ m → m < ys.length → g m) → OfBad3 toks cs dp kk (ys.take k) (p k)):=by
 intro d
 induction d with
 | zero =>
  intro k hk
  have hkl:k < ys.length:=by omega
  have hres:=hp k hkl
  have h3:=hlt k hkl
  have e1:ys.take k ++ [rd_T24 ys (k:Int)]=ys:=by
   rw [rd_nat hkl]
   rw [← List.take_succ_eq_append_getElem hkl,List.take_of_length_le (by omega)]
  refine ⟨fun ha=>?_,fun hn=>?_⟩
  ·obtain rfl:k=ys.length - 1:=by omega
   have hs:lics_reader_sign.f toks cs (q (ys.length - 1)) (dp + 1) ⟨#[44]⟩=some (false,(q (ys.length - 1):Int),dp + 1):=by
    refine sign_not toks cs _ _ _ fun h2=>.inr ?_
    obtain ⟨h4,e⟩:=hl 0 (by simp)
    have e2:toks[q (ys.length - 1)].f1=⟨#[41]⟩:=(Prod.mk.inj e).2
    rw [e2,ByteArray.toList_eq,ByteArray.toList_eq];decide
   have:=OfArgs.last (toks:=toks) (cs:=cs) (dp:=dp + 1) (ys.take (ys.length - 1)) (p (ys.length - 1)) _ (q (ys.length - 1):Int) h3.2.1 (hres.1 (ha _ (Nat.le_refl _) hkl)) hs
   rwa [e1] at this
  ·have:¬ g k:=fun hg=>hn (fun m h1 h2=>by
    have e:m=k:=by omega
    exact e ▸ hg)
   exact .part (by omega) (hres.2 this)
 | succ d ih =>
  intro k hk
  have hkl:k < ys.length:=by omega
  have hres:=hp k hkl
  have h3:=hlt k hkl
  have h5:=hlt (k + 1) (by omega)
  obtain ⟨hcm,hpq⟩:=hc k (by omega)
  obtain ⟨i1,i2⟩:=ih (k + 1) (by omega)
  have e1:ys.take k ++ [rd_T24 ys (k:Int)]=ys.take (k + 1):=by
   rw [rd_nat hkl];exact (List.take_succ_eq_append_getElem hkl).symm
  have hs:=sign_yes toks cs (q k) (dp + 1) _ hcm
  rw [hpq,← e1] at i1 i2
  by_cases hg:g k
  ·refine ⟨fun ha=>?_,fun hn=>?_⟩
   ·have:=i1 (fun m h1 h2=>ha m (by omega) h2)
    exact .more _ (p k) _ (q k) _ _ h3.2.1 h3.2.2 h3.1 (hres.1 hg) hs this
   ·have:=i2 (fun ha=>hn (fun m h1 h2=>by
     by_cases e:m=k
     ·exact e ▸ hg
     ·exact ha m (by omega) h2))
    exact .more h3.2.1 h3.2.2 h3.1 (hres.1 hg) hs this
  ·exact ⟨fun ha=>absurd (ha k (Nat.le_refl _) hkl) hg,fun _=>.part (by omega) (hres.2 hg)⟩
theorem Res.iff {toks:List S70} {cs:List S138} {fn i:Nat} {dp:Int} {x:S24} {j j':Nat} {g g':Prop} (h:Res toks cs fn i dp x j g) (e:j=j') (hg:g ↔ g'):Res toks cs fn i dp x j' g' :=
 e ▸ ⟨fun a=>h.1 (hg.2 a),fun a=>h.2 (fun b=>a (hg.1 b))⟩
theorem ResC.iff {toks:List S70} {cs:List S138} {pf:Nat} {s:ByteArray} {op:Int} {i:Nat} {dp:Int} {x:S24} {j j':Nat} {g g':Prop} (h:ResC toks cs pf s op i dp x j g) (e:j=j') (hg:g ↔ g'):ResC toks cs pf s op i dp x j' g' :=
 e ▸ ⟨fun a=>h.1 (hg.2 a),fun a=>h.2 (fun b=>a (hg.1 b))⟩
theorem sign_other {toks:List S70} (cs:List S138) {j:Nat} (dp:Int) {t:ByteArray} (u:ByteArray) (h:AtK toks j [(6,t)]) (hne:t.data.toList ≠ u.data.toList):lics_reader_sign.f toks cs j dp u=some (false,(j:Int),dp):=by
 refine sign_not toks cs _ _ _ fun h2=>.inr ?_
 obtain ⟨h4,e⟩:=h 0 (by simp)
 have e2:toks[j].f1=t:=(Prod.mk.inj e).2
 rw [e2,ByteArray.toList_eq,ByteArray.toList_eq];exact hne
theorem AtK.lt {toks:List S70} {j:Nat} {a:Int × ByteArray} {l:List (Int × ByteArray)} (h:AtK toks j (a :: l)):j < toks.length:=(h 0 (by simp)).1
theorem AtK.to {toks:List S70} {i j:Nat} {l:List (Int × ByteArray)} (h:AtK toks i l) (e:i=j):AtK toks j l:=e ▸ h
theorem maxF_le (f:S24 → Nat) (ys:List S24) (c:Nat):maxF f ys ≤ c ↔ ∀ y ∈ ys,f y ≤ c:=by
 have:∀ (l:List Nat) a,l.foldl max a ≤ c ↔ a ≤ c ∧ ∀ y ∈ l,y ≤ c:=by
  intro l
  induction l with
  | nil=>intro a;simp
  | cons b l ih=>intro a;rw [List.foldl_cons,ih];simp [Nat.max_le,and_assoc]
 unfold maxF
 rw [this];simp
structure Lvl (toks:List S70) (cs:List S138) (N:Nat) (x:S24):Prop where
 two:∀ (i:Nat) (dp:Int),0 ≤ dp → dp ≤ 64 → AtK toks i (shN N x 2) → Res toks cs 81 i dp x (i + (shN N x 2).length) (dp + depN N x 2 ≤ 64)
 one:∀ (i:Nat) (dp:Int),0 ≤ dp → dp ≤ 64 → AtK toks i (shN N x 1) → ResC toks cs 81 ⟨#[38,38]⟩ 2 i dp x (i + (shN N x 1).length) (dp + depN N x 1 ≤ 64)
 nil:∀ (i:Nat) (dp:Int),0 ≤ dp → dp ≤ 64 → AtK toks i (shN N x 0) → lics_reader_sign.f toks cs ((i + (shN N x 0).length:Nat):Int) dp ⟨#[38,38]⟩=some (false,((i + (shN N x 0).length:Nat):Int),dp) →
  ResC toks cs 59 ⟨#[124,124]⟩ 3 i dp x (i + (shN N x 0).length) (dp + depN N x 0 ≤ 64)
theorem lvl_same {toks:List S70} {cs:List S138} (hm:toks.length ≤ 8192) {N:Nat} {x:S24} (h1:∀ w,0 ≤ w → w ≤ 2 → shN N x w=shN N x 2 ∧ depN N x w=depN N x 2)
  (h:∀ (i:Nat) (dp:Int),0 ≤ dp → dp ≤ 64 → AtK toks i (shN N x 2) → Res toks cs 81 i dp x (i + (shN N x 2).length) (dp + depN N x 2 ≤ 64)):Lvl toks cs N x:=by
 obtain ⟨a1,b1⟩:=h1 1 (by omega) (by omega)
 obtain ⟨a0,b0⟩:=h1 0 (by omega) (by omega)
 refine ⟨h,fun i dp h0 h6 ha=>?_,fun i dp h0 h6 ha hs=>?_⟩
 ·rw [a1] at ha ⊢;rw [b1]
  exact (h i dp h0 h6 ha).chain _ _
 ·rw [a0] at ha hs ⊢;rw [b0]
  exact (resC_all hm ((h i dp h0 h6 ha).chain _ _) hs).chain _ _
theorem par_res {toks:List S70} {cs:List S138} (hm:toks.length ≤ 8192) {x:S24} (K:List (Int × ByteArray)) (D:Nat)
  (inner:∀ (i:Nat) (dp:Int),0 ≤ dp → dp ≤ 64 → AtK toks i K → lics_reader_sign.f toks cs ((i + K.length:Nat):Int) dp ⟨#[38,38]⟩=some (false,((i + K.length:Nat):Int),dp) → ResC toks cs 59 ⟨#[124,124]⟩ 3 i dp x (i + K.length) (dp + D ≤ 64))
  (i:Nat) (dp:Int) (h0:0 ≤ dp) (h6:dp ≤ 64) (ha:AtK toks i (parK true K)):Res toks cs 81 i dp x (i + (parK true K).length) (dp + (D + 1:Nat) ≤ 64):=by
 have ha':AtK toks i ([(6,⟨#[40]⟩)] ++ K ++ [(6,⟨#[41]⟩)]):=ha
 have hK:AtK toks (i + 1) K:=ha'.left.right
 have hc:AtK toks (i + 1 + K.length) [(6,⟨#[41]⟩)]:=ha'.right.to (by simp only [List.length_append,List.length_singleton];omega)
 have hl:(parK true K).length=K.length + 2:=by show ([(6,⟨#[40]⟩)] ++ K ++ [(6,⟨#[41]⟩)]:List (Int × ByteArray)).length=_;simp only [List.length_append,List.length_singleton];omega
 refine (Res.par hm h0 h6 ha'.left.left hc (fun hd=>resC_some hm (inner (i + 1) (dp + 1) (by omega) (by omega) hK (sign_other cs (dp + 1) _ hc (by decide))) (sign_other cs (dp + 1) _ hc (by decide)))).iff (by rw [hl];omega) ?_
 constructor
 ·rintro ⟨h1,h2⟩;omega
 ·intro h;omega
theorem lvl_or {toks:List S70} {cs:List S138} (hm:toks.length ≤ 8192) (N:Nat) (x:S24) (hx:x=⟨3,⟨#[]⟩,0,[rd_T24 x.f3 0,rd_T24 x.f3 1]⟩) (hf:x.f0=3) (ha:Lvl toks cs N (rd_T24 x.f3 0)) (hb:Lvl toks cs N (rd_T24 x.f3 1)):Lvl toks cs (N + 1) x:=by
 have hsh:∀ w,shN (N + 1) x w=parK (decide (0 < w)) (shN N (rd_T24 x.f3 0) 0 ++ [((6:Int),(⟨#[124,124]⟩:ByteArray))] ++ shN N (rd_T24 x.f3 1) 1):=fun w=>by
  show (if x.f0=3 then _ else if x.f0=2 then _ else _)=_
  rw [if_pos hf]
 have hde:∀ w,depN (N + 1) x w=depK (decide (0 < w)) (max (depN N (rd_T24 x.f3 0) 0) (depN N (rd_T24 x.f3 1) 1)):=fun w=>by
  show (if x.f0=3 then _ else if x.f0=2 then _ else _)=_
  rw [if_pos hf]
 generalize rd_T24 x.f3 0=a at hx ha hsh hde
 generalize rd_T24 x.f3 1=b at hx hb hsh hde
 have inner:∀ (i:Nat) (dp:Int),0 ≤ dp → dp ≤ 64 → AtK toks i (shN N a 0 ++ [((6:Int),(⟨#[124,124]⟩:ByteArray))] ++ shN N b 1) → lics_reader_sign.f toks cs ((i + (shN N a 0 ++ [((6:Int),(⟨#[124,124]⟩:ByteArray))] ++ shN N b 1).length:Nat):Int) dp ⟨#[38,38]⟩=some (false,((i + (shN N a 0 ++ [((6:Int),(⟨#[124,124]⟩:ByteArray))] ++ shN N b 1).length:Nat):Int),dp) →
   ResC toks cs 59 ⟨#[124,124]⟩ 3 i dp x (i + (shN N a 0 ++ [((6:Int),(⟨#[124,124]⟩:ByteArray))] ++ shN N b 1).length) (dp + (max (depN N a 0) (depN N b 1):Nat) ≤ 64):=by
  intro i dp h0 h6 hK hs
  have hsg:=hK.left.right
  have hA:=ha.nil i dp h0 h6 hK.left.left (sign_other cs dp _ hsg (by decide))
  have hl:(shN N a 0 ++ [((6:Int),(⟨#[124,124]⟩:ByteArray))] ++ shN N b 1).length=(shN N a 0).length + 1 + (shN N b 1).length:=by simp only [List.length_append,List.length_singleton]
  rw [hl] at hs ⊢
  have hBk:AtK toks (i + (shN N a 0).length + 1) (shN N b 1):=hK.right.to (by simp only [List.length_append,List.length_singleton];omega)
  have e:i + (shN N a 0).length + 1 + (shN N b 1).length=i + ((shN N a 0).length + 1 + (shN N b 1).length):=by omega
  have hB:=resC_all hm (hb.one (i + (shN N a 0).length + 1) dp h0 h6 hBk) (by rw [e];exact hs)
  have hR:=resC_more hA hsg.lt (sign_yes toks cs _ dp _ hsg) hB (by omega)
  rw [← hx] at hR
  refine hR.iff e ?_
  constructor
  ·rintro ⟨h1,h2⟩;omega
  ·intro h;omega
 refine ⟨fun i dp h0 h6 hK=>?_,fun i dp h0 h6 hK=>?_,fun i dp h0 h6 hK hs=>?_⟩
 ·rw [hsh] at hK ⊢;rw [hde]
  exact par_res hm _ _ inner i dp h0 h6 hK
 ·rw [hsh] at hK ⊢;rw [hde]
  exact (par_res hm _ _ inner i dp h0 h6 hK).chain _ _
 ·rw [hsh] at hK hs ⊢;rw [hde]
  exact inner i dp h0 h6 hK hs
theorem lvl_and {toks:List S70} {cs:List S138} (hm:toks.length ≤ 8192) (N:Nat) (x:S24) (hx:x=⟨2,⟨#[]⟩,0,[rd_T24 x.f3 0,rd_T24 x.f3 1]⟩) (hf:x.f0=2) (ha:Lvl toks cs N (rd_T24 x.f3 0)) (hb:Lvl toks cs N (rd_T24 x.f3 1)):Lvl toks cs (N + 1) x:=by
 have hsh:∀ w,shN (N + 1) x w=parK (decide (1 < w)) (shN N (rd_T24 x.f3 0) 1 ++ [((6:Int),(⟨#[38,38]⟩:ByteArray))] ++ shN N (rd_T24 x.f3 1) 2):=fun w=>by
  show (if x.f0=3 then _ else if x.f0=2 then _ else _)=_
  rw [if_neg (by omega),if_pos hf]
 have hde:∀ w,depN (N + 1) x w=depK (decide (1 < w)) (max (depN N (rd_T24 x.f3 0) 1) (depN N (rd_T24 x.f3 1) 2)):=fun w=>by
  show (if x.f0=3 then _ else if x.f0=2 then _ else _)=_
  rw [if_neg (by omega),if_pos hf]
 generalize rd_T24 x.f3 0=a at hx ha hsh hde
 generalize rd_T24 x.f3 1=b at hx hb hsh hde
 have inner:∀ (i:Nat) (dp:Int),0 ≤ dp → dp ≤ 64 → AtK toks i (shN N a 1 ++ [((6:Int),(⟨#[38,38]⟩:ByteArray))] ++ shN N b 2) →
   ResC toks cs 81 ⟨#[38,38]⟩ 2 i dp x (i + (shN N a 1 ++ [((6:Int),(⟨#[38,38]⟩:ByteArray))] ++ shN N b 2).length) (dp + (max (depN N a 1) (depN N b 2):Nat) ≤ 64):=by
  intro i dp h0 h6 hK
  have hsg:=hK.left.right
  have hA:=ha.one i dp h0 h6 hK.left.left
  have hl:(shN N a 1 ++ [((6:Int),(⟨#[38,38]⟩:ByteArray))] ++ shN N b 2).length=(shN N a 1).length + 1 + (shN N b 2).length:=by simp only [List.length_append,List.length_singleton]
  rw [hl]
  have hBk:AtK toks (i + (shN N a 1).length + 1) (shN N b 2):=hK.right.to (by simp only [List.length_append,List.length_singleton];omega)
  have hB:=hb.two (i + (shN N a 1).length + 1) dp h0 h6 hBk
  have hR:=resC_more hA hsg.lt (sign_yes toks cs _ dp _ hsg) hB (by omega)
  rw [← hx] at hR
  refine hR.iff (by omega) ?_
  constructor
  ·rintro ⟨h1,h2⟩;omega
  ·intro h;omega
 have inner2:=fun i dp h0 h6 hK hs=>(resC_all hm (inner i dp h0 h6 hK) hs).chain ⟨#[124,124]⟩ 3
 refine ⟨fun i dp h0 h6 hK=>?_,fun i dp h0 h6 hK=>?_,fun i dp h0 h6 hK hs=>?_⟩
 ·rw [hsh] at hK ⊢;rw [hde]
  exact par_res hm _ _ inner2 i dp h0 h6 hK
 ·rw [hsh] at hK ⊢;rw [hde]
  exact inner i dp h0 h6 hK
 ·rw [hsh] at hK hs ⊢;rw [hde]
  exact inner2 i dp h0 h6 hK hs
theorem lvl_leaf {toks:List S70} {cs:List S138} (hm:toks.length ≤ 8192) (N:Nat) (x:S24) (hx:x=⟨1,x.f1,0,[]⟩):Lvl toks cs (N + 1) x:=by
 have hf:x.f0=1:=by rw [hx]
 have hsh:∀ w,shN (N + 1) x w=[(4,x.f1)]:=fun w=>by
  show (if x.f0=3 then _ else if x.f0=2 then _ else if x.f0=4 then _ else _)=_
  rw [if_neg (by omega),if_neg (by omega),if_neg (by omega)]
 have hde:∀ w,depN (N + 1) x w=0:=fun w=>by
  show (if x.f0=3 then _ else if x.f0=2 then _ else if x.f0=4 then _ else _)=_
  rw [if_neg (by omega),if_neg (by omega),if_neg (by omega)]
 refine lvl_same hm (fun w _ _=>⟨by rw [hsh,hsh],by rw [hde,hde]⟩) (fun i dp h0 h6 hK=>?_)
 rw [hsh] at hK ⊢
 rw [hde]
 obtain ⟨h2,e⟩:=hK 0 (by simp)
 have hi:i < toks.length:=h2
 have e0:toks[i].f0=4:=(Prod.mk.inj e).1
 have e1:toks[i].f1=x.f1:=(Prod.mk.inj e).2
 have er:rd_T70 toks (i:Int)=toks[i]:=by simp [rd_T70,hi]
 refine ⟨fun _=>?_,fun h=>absurd (by omega) h⟩
 have:=lics_one_str.calls toks cs i dp _ hi hm er.symm e0
 rw [e1,← hx] at this
 exact this
theorem joinK_pre (f:S24 → List (Int × ByteArray)) (ys:List S24) (k:Nat):∀ d,∃ r,joinK f ys (k + d)=joinK f ys k ++ r:=by
 intro d
 induction d with
 | zero=>exact ⟨[],by simp⟩
 | succ d ih =>
  obtain ⟨r,hr⟩:=ih
  exact ⟨r ++ (if 0 < k + d then [(6,⟨#[44]⟩)] else []) ++ f (rd_T24 ys ((k + d:Nat):Int)),by
   show joinK f ys (k + d) ++ (if 0 < k + d then [((6:Int),(⟨#[44]⟩:ByteArray))] else []) ++ f (rd_T24 ys ((k + d:Nat):Int))=_
   rw [hr];simp only [List.append_assoc]⟩
theorem join_at {toks:List S70} (f:S24 → List (Int × ByteArray)) (ys:List S24) (hy:0 < ys.length) (i:Nat) (h:AtK toks i (joinK f ys ys.length)) :
  ∃ P Q:Nat → Nat,P 0=i ∧ Q (ys.length - 1)=i + (joinK f ys ys.length).length ∧ (∀ k,k < ys.length → P k + (f (rd_T24 ys (k:Int))).length=Q k ∧ AtK toks (P k) (f (rd_T24 ys (k:Int)))) ∧
   (∀ k,k + 1 < ys.length → AtK toks (Q k) [((6:Int),(⟨#[44]⟩:ByteArray))] ∧ P (k + 1)=Q k + 1):=by
 have hJ1:∀ k,joinK f ys (k + 1)=joinK f ys k ++ (if 0 < k then [((6:Int),(⟨#[44]⟩:ByteArray))] else []) ++ f (rd_T24 ys (k:Int)):=fun k=>rfl
 have hJ0:joinK f ys 0=[]:=rfl
 have hpre:∀ k,k ≤ ys.length → AtK toks i (joinK f ys k):=fun k hk0=>by
  obtain ⟨r,hr⟩:=joinK_pre f ys k (ys.length - k)
  rw [show k + (ys.length - k)=ys.length by omega] at hr
  exact AtK.left (hr ▸ h)
 generalize joinK f ys=J at h hJ1 hJ0 hpre
 have hsep:∀ k,((if 0 < k then [((6:Int),(⟨#[44]⟩:ByteArray))] else []):List (Int × ByteArray)).length=if 0 < k then 1 else 0:=fun k=>by split <;> rfl
 obtain ⟨P,hP⟩:∃ P:Nat → Nat,∀ k,P k=i + (J k).length + (if 0 < k then 1 else 0):=⟨_,fun _=>rfl⟩
 obtain ⟨Q,hQ⟩:∃ Q:Nat → Nat,∀ k,Q k=i + (J (k + 1)).length:=⟨_,fun _=>rfl⟩
 refine ⟨P,Q,?_,?_,fun k hk=>⟨?_,?_⟩,fun k hk=>⟨?_,?_⟩⟩
 ·rw [hP,hJ0];simp
 ·rw [hQ,show ys.length - 1 + 1=ys.length by omega]
 ·rw [hP,hQ,hJ1 k,List.length_append,List.length_append,hsep];omega
 ·have h2:=hpre (k + 1) hk
  rw [hJ1 k] at h2
  exact h2.right.to (by rw [hP,List.length_append,hsep];omega)
 ·have h2:=hpre (k + 2) (by omega)
  rw [hJ1 (k + 1),if_pos (by omega)] at h2
  rw [hQ]
  exact h2.left.right
 ·rw [hP,hQ,if_pos (by omega)]
set_option maxHeartbeats 2000000 in
theorem lvl_of {toks:List S70} {cs:List S138} (hm:toks.length ≤ 8192) (N:Nat) (x:S24) (n:Nat) (hx:x=⟨4,⟨#[]⟩,(n:Int),x.f3⟩) (hn:1 ≤ n ∧ n ≤ x.f3.length) (hn4:n < 10000) (hk:∀ y ∈ x.f3,Lvl toks cs N y):Lvl toks cs (N + 1) x:=by
 have hf:x.f0=4:=by rw [hx]
 have hf2:x.f2=(n:Int):=by rw [hx]
 have hsh:∀ w,shN (N + 1) x w=(5,numB (n:Int)) :: (6,⟨#[40]⟩) :: joinK (fun y=>shN N y 0) x.f3 x.f3.length ++ [(6,⟨#[41]⟩)]:=fun w=>by
  show (if x.f0=3 then _ else if x.f0=2 then _ else if x.f0=4 then _ else _)=_
  rw [if_neg (by omega),if_neg (by omega),if_pos hf,hf2]
 have hde:∀ w,depN (N + 1) x w=maxF (fun y=>depN N y 0) x.f3 + 1:=fun w=>by
  show (if x.f0=3 then _ else if x.f0=2 then _ else if x.f0=4 then _ else _)=_
  rw [if_neg (by omega),if_neg (by omega),if_pos hf]
 generalize hys:x.f3=ys at hx hn hk hsh hde
 refine lvl_same hm (fun w _ _=>⟨by rw [hsh,hsh],by rw [hde,hde]⟩) (fun i dp h0 h6 hK=>?_)
 rw [hsh] at hK ⊢
 rw [hde]
 have hK':AtK toks i ([((5:Int),numB (n:Int))] ++ [((6:Int),(⟨#[40]⟩:ByteArray))] ++ joinK (fun y=>shN N y 0) ys ys.length ++ [((6:Int),(⟨#[41]⟩:ByteArray))]):=hK
 have hlen:(((5:Int),numB (n:Int)) :: ((6:Int),(⟨#[40]⟩:ByteArray)) :: joinK (fun y=>shN N y 0) ys ys.length ++ [((6:Int),(⟨#[41]⟩:ByteArray))]).length=(joinK (fun y=>shN N y 0) ys ys.length).length + 3:=by
  show ([((5:Int),numB (n:Int))] ++ [((6:Int),(⟨#[40]⟩:ByteArray))] ++ joinK (fun y=>shN N y 0) ys ys.length ++ [((6:Int),(⟨#[41]⟩:ByteArray))]).length=_
  simp only [List.length_append,List.length_singleton];omega
 rw [hlen]
 obtain ⟨h2,e⟩:=hK'.left.left.left 0 (by simp)
 have hi:i < toks.length:=h2
 have e0:toks[i].f0=5:=(Prod.mk.inj e).1
 have e1:toks[i].f1=numB (n:Int):=(Prod.mk.inj e).2
 have er:rd_T70 toks (i:Int)=toks[i]:=by simp [rd_T70,hi]
 have hop:AtK toks (i + 1) [((6:Int),(⟨#[40]⟩:ByteArray))]:=hK'.left.left.right
 have hJ:AtK toks (i + 2) (joinK (fun y=>shN N y 0) ys ys.length):=hK'.left.right.to (by simp)
 have hcl:AtK toks (i + 2 + (joinK (fun y=>shN N y 0) ys ys.length).length) [((6:Int),(⟨#[41]⟩:ByteArray))]:=hK'.right.to (by simp only [List.length_append,List.length_singleton];omega)
 obtain ⟨t1,t2,t3⟩:=numB_trim n hn.1
 have hd:(⟨(Lib.decDigits n).toArray⟩:ByteArray)=⟨(Lib.trimLeftB (toks[i]).f1.data.toList 48).toArray⟩:=by rw [e1,t1]
 have hd0:(⟨(Lib.decDigits n).toArray⟩:ByteArray).toList ≠ []:=by rw [ByteArray.toList_eq];exact t3
 have hnb:(⟨(Lib.decDigits n).toArray⟩:ByteArray)=numB (n:Int):=by unfold numB Lib.itoa;rw [if_neg (by omega),Int.toNat_natCast]
 have hd4:(⟨(Lib.decDigits n).toArray⟩:ByteArray).size ≤ 4:=by rw [hnb];exact numB_size n 4 (by omega) (by omega)
 have s1:=sign_yes toks cs (i + 1) dp _ hop
 have w1:wrap64 (((i + 1:Nat):Int) + 1)=(i:Int) + 2:=by have:=hop.lt;unfold wrap64;omega
 have w2:wrap64 (dp + 1)=dp + 1:=by unfold wrap64;omega
 by_cases hdp:dp < 64
 ·have hE:lics_reader_enter.f toks cs ((i + 1:Nat):Int) dp=some (0,(i:Int) + 2,dp + 1):=by
   unfold lics_reader_enter.f;rw [s1];simp only [Option.bind_some];rw [if_pos trivial,if_neg (by omega),w1,w2]
  have hE':lics_reader_enter.f toks cs ((i:Int) + 1) dp=some (0,(i:Int) + 2,dp + 1):=hE
  obtain ⟨P,Q,hP0,hQe,hPQ,hcm⟩:=join_at (fun y=>shN N y 0) ys (by omega) (i + 2) hJ
  generalize joinK (fun y=>shN N y 0) ys ys.length=J at hJ hcl hQe hlen
  have hend:∀ k,k < ys.length → ∃ t:ByteArray,AtK toks (Q k) [((6:Int),t)] ∧ t.data.toList ≠ (⟨#[38,38]⟩:ByteArray).data.toList ∧ t.data.toList ≠ (⟨#[124,124]⟩:ByteArray).data.toList:=fun k hk0=>by
   by_cases hl:k + 1 < ys.length
   ·exact ⟨_,(hcm k hl).1,by decide,by decide⟩
   ·have e:k=ys.length - 1:=by omega
    rw [e,hQe]
    exact ⟨_,hcl,by decide,by decide⟩
  have key:=of_args3 (toks:=toks) (cs:=cs) (dp:=dp) (kk:=(n:Int)) ys P Q (fun k=>dp + 1 + depN N (rd_T24 ys (k:Int)) 0 ≤ 64)
   (fun k hk0=>by
    obtain ⟨t,ht,n1,n2⟩:=hend k hk0
    have hm':rd_T24 ys (k:Int) ∈ ys:=by rw [rd_nat hk0];exact List.getElem_mem _
    have hq0:=(hPQ k hk0).1
    have h:=resC_some hm ((hk _ hm').nil _ (dp + 1) (by omega) (by omega) (hPQ k hk0).2 (by rw [hq0];exact sign_other cs (dp + 1) _ ht n1)) (by rw [hq0];exact sign_other cs (dp + 1) _ ht n2)
    exact h.iff hq0 Iff.rfl)
   (fun k hk0=>by
    obtain ⟨t,ht,-,-⟩:=hend k hk0
    have h1:=ht.lt
    have h2:=(hPQ k hk0).1
    have h2':P k + (shN N (rd_T24 ys (k:Int)) 0).length=Q k:=h2
    exact ⟨by omega,by omega,h1⟩)
   (fun k hk0=>hcm k hk0)
   (by rw [hQe];exact hcl)
   (ys.length - 1) 0 (by omega)
  rw [hP0,hQe,List.take_zero] at key
  have hall:(∀ m,0 ≤ m → m < ys.length → dp + 1 + (depN N (rd_T24 ys (m:Int)) 0:Int) ≤ 64) ↔ dp + ((maxF (fun y=>depN N y 0) ys + 1:Nat):Int) ≤ 64:=by
   have h1:=maxF_le (fun y=>depN N y 0) ys (63 - dp).toNat
   constructor
   ·intro h
    have:maxF (fun y=>depN N y 0) ys ≤ (63 - dp).toNat:=h1.2 fun y hy=>by
     obtain ⟨m,hm0,rfl⟩:=List.getElem_of_mem hy
     have:=h m (Nat.zero_le _) hm0
     rw [rd_nat hm0] at this
     show depN N ys[m] 0 ≤ _
     omega
    omega
   ·intro h m _ hm0
    have h2:=h1.1 (by omega) ys[m] (List.getElem_mem hm0)
    have h3:depN N ys[m] 0 ≤ (63 - dp).toNat:=h2
    rw [rd_nat hm0]
    omega
  have s2:=sign_yes toks cs _ (dp + 1) _ hcl
  have hclt:=hcl.lt
  have w3:wrap64 (((i + 2 + (J).length:Nat):Int) + 1)=((i + ((J).length + 3):Nat):Int):=by unfold wrap64;omega
  have w4:wrap64 dp=dp:=by unfold wrap64;omega
  have hL:lics_reader_leave.f toks cs ((i + 2 + (J).length:Nat):Int) (dp + 1)=some (0,((i + ((J).length + 3):Nat):Int),dp):=by
   unfold lics_reader_leave.f;rw [s2];simp only [Option.bind_some];rw [if_pos trivial,w3,show dp + 1 - 1=dp by omega,w4]
  have hi2:i + 2 < toks.length:=Nat.lt_of_le_of_lt (Nat.le_add_right _ _) hclt
  have hnl:(n:Int) ≤ ys.length:=Int.ofNat_le.2 hn.2
  refine ⟨fun g=>?_,fun g=>?_⟩
  ·have hA:=key.1 (hall.2 g)
   have h1:PartOK toks cs 104 i dp ⟨4,⟨#[]⟩,(n:Int),ys⟩ ((i + (J.length + 3):Nat):Int):=lics_of.calls toks cs hm i dp _ _ (n:Int) ys _ _ hi2 er.symm hd hd0 hd4 t2 hE' hA hnl hL
   rw [hx];exact lics_one_of.calls toks cs i dp _ _ _ hi hm er.symm e0 h1
  ·have hA:=key.2 (fun h=>g (hall.1 h))
   exact lics_one_of_no3.calls toks cs i dp _ hi hm er.symm e0 (lics_of_bad3.calls toks cs hm i dp _ _ (n:Int) hi er.symm hd hd0 hd4 t2 hE' hA)
 ·have hE:lics_reader_enter.f toks cs ((i + 1:Nat):Int) dp=some (3,((i + 1:Nat):Int),dp):=by
   unfold lics_reader_enter.f;rw [s1];simp only [Option.bind_some];rw [if_pos trivial,if_pos (by omega)]
  have hE':lics_reader_enter.f toks cs ((i:Int) + 1) dp=some (3,(i:Int) + 1,dp):=hE
  refine ⟨fun g=>absurd g (by omega),fun _=>?_⟩
  exact lics_one_of_no3.calls toks cs i dp _ hi hm er.symm e0 (lics_of_shut3.calls toks cs hm i dp _ _ (n:Int) 3 hi er.symm hd hd0 hd4 t2 rfl hE')
theorem s24_eta (x:S24):x=⟨x.f0,x.f1,x.f2,x.f3⟩:=by cases x;rfl
theorem lvl_all {toks:List S70} {cs:List S138} (hm:toks.length ≤ 8192) (N:Nat) (hN0:N ≤ 10000):∀ x:S24,szT x ≤ N → okT x=true → Lvl toks cs N x:=by
 induction N with
 | zero=>intro x h;have:=szT_pos x;omega
 | succ N ih =>
  intro x hN hok
  have hkid:∀ y ∈ x.f3,Lvl toks cs N y:=by
   intro y hy
   refine ih (by omega) y (by have:=kid_le hy;omega) ?_
   rw [okT_eq,Bool.and_eq_true] at hok
   exact List.all_eq_true.1 hok.2 y hy
  have hhead:headT x.f0 x.f1 x.f2 x.f3.length=true:=by rw [okT_eq,Bool.and_eq_true] at hok;exact hok.1
  have hlen:=szT_len x
  unfold headT at hhead
  have nil_of:∀ b:ByteArray,(b.toList == [])=true → b=⟨#[]⟩:=fun b hb=>by
   rw [beq_iff_eq,ByteArray.toList_eq] at hb
   apply ByteArray.ext
   exact Array.toList_eq_nil_iff.1 hb
  by_cases a3:x.f0=3
  ·rw [if_neg (by omega),if_pos (by omega),Bool.and_eq_true,Bool.and_eq_true] at hhead
   have h1:=nil_of _ hhead.1
   have h2:x.f2=0:=beq_iff_eq.1 hhead.2.1
   have h3:x.f3.length=2:=by have:=of_decide_eq_true hhead.2.2;omega
   have hk:=two_kids x h3
   have m0:rd_T24 x.f3 0 ∈ x.f3:=by rw [hk];simp [rd_T24]
   have m1:rd_T24 x.f3 1 ∈ x.f3:=by rw [hk];simp [rd_T24]
   refine lvl_or hm N x ?_ a3 (hkid _ m0) (hkid _ m1)
   rw [← hk,← a3,← h1,← h2];exact s24_eta x
  by_cases a2:x.f0=2
  ·rw [if_neg (by omega),if_pos (by omega),Bool.and_eq_true,Bool.and_eq_true] at hhead
   have h1:=nil_of _ hhead.1
   have h2:x.f2=0:=beq_iff_eq.1 hhead.2.1
   have h3:x.f3.length=2:=by have:=of_decide_eq_true hhead.2.2;omega
   have hk:=two_kids x h3
   have m0:rd_T24 x.f3 0 ∈ x.f3:=by rw [hk];simp [rd_T24]
   have m1:rd_T24 x.f3 1 ∈ x.f3:=by rw [hk];simp [rd_T24]
   refine lvl_and hm N x ?_ a2 (hkid _ m0) (hkid _ m1)
   rw [← hk,← a2,← h1,← h2];exact s24_eta x
  by_cases a4:x.f0=4
  ·rw [if_neg (by omega),if_neg (by omega),if_pos a4,Bool.and_eq_true,Bool.and_eq_true] at hhead
   have h1:=nil_of _ hhead.1
   have h2:=of_decide_eq_true hhead.2.1
   have h3:=of_decide_eq_true hhead.2.2
   obtain ⟨n,hn⟩:=Int.eq_ofNat_of_zero_le (show 0 ≤ x.f2 by omega)
   refine lvl_of hm N x n ?_ ⟨by omega,by omega⟩ (by omega) hkid
   rw [← hn,← a4,← h1];exact s24_eta x
  ·have a1:x.f0=1:=by
    by_cases a1:x.f0=1
    ·exact a1
    ·rw [if_neg a1,if_neg (by omega),if_neg a4] at hhead;cases hhead
   rw [if_pos a1,Bool.and_eq_true] at hhead
   have h2:x.f2=0:=beq_iff_eq.1 hhead.1
   have h3:x.f3=[]:=List.eq_nil_of_length_eq_zero (by have:=of_decide_eq_true hhead.2;omega)
   refine lvl_leaf hm N x ?_
   rw [← a1,← h2,← h3];exact s24_eta x
theorem back_lic {toks:List S70} {cs:List S138} (hm:toks.length ≤ 8192) (N:Nat) (hN0:N ≤ 10000) (x:S24) (hx:szT x ≤ N) (hok:okT x=true) (hk:AtK toks 0 (shN N x 0)) (hl:toks.length=(shN N x 0).length) :
  Res toks cs 36 0 0 x toks.length (depN N x 0 ≤ 64):=by
 have hs:∀ t,lics_reader_sign.f toks cs ((0 + (shN N x 0).length:Nat):Int) 0 t=some (false,((0 + (shN N x 0).length:Nat):Int),0):=fun t=>sign_not toks cs _ _ _ fun h2=>by omega
 have h:=resC_some hm ((lvl_all (cs:=cs) hm N hN0 x hx hok).nil 0 0 (by omega) (by omega) hk (hs _)) (hs _)
 exact h.iff (by omega) (by omega)
end Go.Proofs.YtjapfefiaijfcaaGreatDoor.Q
namespace Go.Proofs.YtjapfefiaijfcaaGreatDoor.Q
open Go.RowKit Go.Proofs.YtjapfefiaijfcaaGreatDoorW.PrintWords Go.Proofs.YtjapfefiaijfcaaGreatDoorW.PrintLast Go.Proofs.YtjapfefiaijfcaaGreatDoorW.PrintMore
set_option linter.unusedVariables false
set_option maxHeartbeats 8000000 in
set_option maxRecDepth 100000 in
theorem lics_Parse_bad3.calls (s:ByteArray) (cs:List S138) (xs:List S70) (hne:0 < xs.length) (hT:∀ w,Calls Tryz.prog 35 #[.string s] w (TokPost (.inl xs) w)) (hP:PartNo3 xs cs 36 0 0) (Ac:Option Addr) (c:Nat) (w:World) (hC:Kd.C k138 w Ac cs.length cs) :
  Calls Tryz.prog 19 #[.string s,.slice Ac cs.length c] w (fun e w'=>∃ p,ParsePost ([],p,3) w e w'):=by
 have HT:=Aside0.mk hT
 have HP:=Aside0.mk hP
 have HC:=Aside0.mk hC
 have z0:((xs.length:Int) == 0)=false:=beq_eq_false_iff_ne.mpr (by omega)
 have z1:(xs.length == 0)=false:=beq_eq_false_iff_ne.mpr (by omega)
 clear hT hP hC hne
 go_enter Tryz.func19,Tryz.ntmps19
 go_wp2_with (fail)
 go_at_call 35
 refine (HT.out _).mono ?_
 rintro e_ w1 ⟨v0,rfl,hr,hb⟩
 obtain ⟨A,cp,rfl,hc,hC1⟩:=Kd.R_reads hr
 have HB1:=Aside0.mk hb
 have HC1:=Aside0.mk hC1
 have HI1:=Aside0.mk (IsS67.new w1 w1 A cp Ac c xs cs 0 0 (Below.refl _ _) hC1 (Kd.C_below HC.out hb))
 have HBn:=Aside0.mk (below_alloc (Below.refl w1.heap.size w1) (.cells #[.slice A xs.length cp,.slice Ac cs.length c,.int .i64 0,.int .i64 0] 67))
 clear hb hr hc hC1
 go_wp2_with (fail)
 go_at_call 36
 refine (HP.out w1.heap.size w1 _ HI1.out HBn.out).mono ?_
 rintro e_ w3 ⟨a,b,cc,A3,n3,cp3,er,j,dp1,rfl,her,hj,hi,hb,hk⟩
 obtain rfl:er=3:=her
 have HB3:=Aside0.mk hb
 obtain ⟨A0',c0',A1',c1',hG,-,-,-⟩:=hi
 have gg2:=fun o=>cellS67_2 (blk_alloc hG o)
 have ggf:=fun o=>blk_frozen (blk_alloc hG o) 2
 by_cases hlt:j < xs.length
 ·have z2:decide ((j:Int) < (xs.length:Int))=true:=decide_eq_true (by omega)
  have p1:(0 ≤ (j:Int))=True:=eq_true (by omega)
  have p2:((j:Int) < (xs.length:Int))=True:=eq_true (by omega)
  have p3:(j < xs.length)=True:=eq_true (by omega)
  obtain ⟨ad,ea,x0,x1,x2,x3⟩:=at_T70 (Kd.C_below HC1.out hb) (j:Int) (by omega) (by omega)
  subst ea
  rw [Int.toNat_natCast] at x2
  have y2:=fun o=>pw_cell_below ((Below.refl _ w3).alloc (Nat.le_refl _) o) x2
  clear hb hk hG x0 x1 x2 x3 hj hlt
  go_wp2_with (fail)
  go_region
  all_goals go_wp2_with (fail)
  refine bodyPost_ret (v:=.tuple #[.slice none 0 0,.int .i64 (rd_T70 xs (j:Int)).f2,.int .i64 3]) ?_ rfl ⟨_,_,rfl,Kd.R_nil _ _ _ _ _,?_⟩
  ·simp [results,Tryz.results19,go_sem]
  ·exact below_drew1 ((HB1.out.trans (HB3.out.mono HB1.out.size)).alloc (by have:=HB1.out.size;have:=HB3.out.size;omega) _)
 ·have z2:decide ((j:Int) < (xs.length:Int))=false:=decide_eq_false (by omega)
  have p2:((j:Int) < (xs.length:Int))=False:=eq_false (by omega)
  have p3:(j < xs.length)=False:=eq_false (by omega)
  clear hb hk hG hj hlt
  go_wp2_with (fail)
  refine bodyPost_ret (v:=.tuple #[.slice none 0 0,.int .i64 (s.size:Int),.int .i64 3]) ?_ rfl ⟨_,_,rfl,Kd.R_nil _ _ _ _ _,?_⟩
  ·simp [results,Tryz.results19,go_sem]
  ·exact (HB1.out.trans (HB3.out.mono HB1.out.size)).alloc (by have:=HB1.out.size;have:=HB3.out.size;omega) _
theorem toksX_take {s:ByteArray} {i:Nat} {xs:List S70} {st:Option Nat} (h:ToksX s i xs st):∀ n,n < xs.length → ∃ j,ToksX s i (xs.take n) (some j):=by
 induction h with
 | nil=>intro n hn;simp at hn
 | stop=>intro n hn;simp at hn
 | cons i j e t xs st h1 h2 h3 h4 h5 h6 h7 ih =>
  intro n hn
  cases n with
  | zero=>exact ⟨j,.stop i j h1 h2⟩
  | succ n =>
   obtain ⟨j2,h⟩:=ih n (by simpa using hn)
   exact ⟨j2,.cons i j e t _ _ h1 h2 h3 h4 h5 h6 h⟩
theorem lay_toks {s:ByteArray} {ks:List (Int × ByteArray)} (h:Lay s 0 ks s.size):∃ xs:List S70,xs.map (fun t=>(t.f0,t.f1))=ks ∧ ToksX s 0 xs none:=by
 obtain ⟨xs,e,f⟩:=h
 refine ⟨xs,e,?_⟩
 have:=f [] none (.nil s.size s.size (.fin (Nat.le_refl _)) (Nat.le_refl _))
 rwa [List.append_nil] at this
theorem atK_map {toks:List S70} {ks:List (Int × ByteArray)} (h:toks.map (fun t=>(t.f0,t.f1))=ks):AtK toks 0 ks ∧ toks.length=ks.length:=by
 have hl:toks.length=ks.length:=by rw [← h,List.length_map]
 refine ⟨fun k hk=>⟨by omega,?_⟩,hl⟩
 subst h
 rw [List.getElem_map]
 simp
theorem lay_Tokens {s:ByteArray} {ks:List (Int × ByteArray)} (h:Lay s 0 ks s.size) (hs:s.size ≤ 65536) (hk:ks.length ≤ 8192) :
  ∃ xs:List S70,xs.map (fun t=>(t.f0,t.f1))=ks ∧ ∀ w,Calls Tryz.prog 35 #[.string s] w (TokPost (.inl xs) w):=by
 obtain ⟨xs,e,hx⟩:=lay_toks h
 refine ⟨xs,e,fun w=>(tokens_Tokens_any.calls s hs xs none hx (by rw [(atK_map e).2];exact hk) (fun j hj=>nomatch hj) w).mono ?_⟩
 rintro e_ w' (⟨-,h⟩ | ⟨j,hj,-⟩)
 ·exact h
 ·exact nomatch hj
theorem lay_Tokens_no {s:ByteArray} {ks:List (Int × ByteArray)} (h:Lay s 0 ks s.size) (hk:¬ (s.size ≤ 65536 ∧ ks.length ≤ 8192)) :
  ∃ p:Int,∀ w,Calls Tryz.prog 35 #[.string s] w (TokPost (.inr (p,3)) w):=by
 by_cases hs:s.size ≤ 65536
 ·obtain ⟨xs,e,hx⟩:=lay_toks h
  have hl:8192 < xs.length:=by rw [(atK_map e).2];omega
  obtain ⟨j,hj⟩:=toksX_take hx 8192 hl
  have hn:(xs.take 8192).length=8192:=by rw [List.length_take];omega
  refine ⟨(j:Int),fun w=>(tokens_Tokens_any.calls s hs _ _ hj (by omega) (fun _ _=>.inl hn) w).mono ?_⟩
  rintro e_ w' (⟨h,-⟩ | ⟨j',h,he,hb⟩)
  ·exact nomatch h
  ·cases h
   have e1:tokPE s (xs.take 8192) j=((j:Int),3):=by unfold tokPE;rw [if_pos hn]
   rw [e1] at he
   exact ⟨he,hb⟩
 ·exact ⟨0,fun w=>tokens_Tokens_long.calls s (by omega) w⟩
def Fits (N:Nat) (x:S24):Prop:=(licN N x 0).size ≤ 65536 ∧ (shN N x 0).length ≤ 8192 ∧ depN N x 0 ≤ 64
theorem shN_pos (N:Nat) (x:S24) (w:Int):0 < (shN (N + 1) x w).length:=by
 show 0 < (if x.f0=3 then parK _ _ else if x.f0=2 then parK _ _ else if x.f0=4 then _ else _:List (Int × ByteArray)).length
 have hp:∀ (p:Bool) (l:List (Int × ByteArray)),0 < l.length → 0 < (parK p l).length:=fun p l h=>by cases p <;> simp [parK] <;> omega
 split
 ·exact hp _ _ (by simp only [List.length_append,List.length_singleton];omega)
 ·split
  ·exact hp _ _ (by simp only [List.length_append,List.length_singleton];omega)
  ·split <;> simp
theorem print_Parse.calls (N:Nat) (hN:N + 1 ≤ 10000) (x:S24) (hx:szT x ≤ N + 1) (hok:okT x=true):∃ er:Int,(er=3 ↔ ¬ Fits (N + 1) x) ∧
  ∀ w,Calls Tryz.prog 19 #[.string (licN (N + 1) x 0),.slice none 0 0] w (fun e w'=>∃ xs p,ParsePost (xs,p,er) w e w'):=by
 have hlay:Lay (licN (N + 1) x 0) 0 (shN (N + 1) x 0) (licN (N + 1) x 0).size:=by
  have:=lay_lic (licN (N + 1) x 0) (N + 1) x 0 0 hx hok ⟨by omega,fun k hk=>by rw [Nat.zero_add]⟩
  rwa [Nat.zero_add] at this
 have hC:∀ w:World,Kd.C k138 w none ([]:List S138).length []:=fun w=>Kd.C_nil _ _
 by_cases hsz:(licN (N + 1) x 0).size ≤ 65536 ∧ (shN (N + 1) x 0).length ≤ 8192
 ·obtain ⟨xs,e,hT⟩:=lay_Tokens hlay hsz.1 hsz.2
  obtain ⟨ha,hl⟩:=atK_map e
  have hne:0 < xs.length:=by rw [hl];exact shN_pos N x 0
  have hR:=back_lic (toks:=xs) (cs:=[]) (by omega) (N + 1) hN x hx hok ha hl
  by_cases hd:depN (N + 1) x 0 ≤ 64
  ·refine ⟨0,⟨fun h=>absurd h (by decide),fun h=>absurd ⟨hsz.1,hsz.2,hd⟩ h⟩,fun w=>?_⟩
   exact (lics_Parse_ok.calls _ [] xs hne x 0 hT (hR.1 hd) none 0 w (hC w)).mono fun e w' h=>⟨_,_,h⟩
  ·refine ⟨3,⟨fun _ h=>hd h.2.2,fun _=>rfl⟩,fun w=>?_⟩
   exact (lics_Parse_bad3.calls _ [] xs hne hT (hR.2 hd) none 0 w (hC w)).mono fun e w' ⟨p,h⟩=>⟨_,_,h⟩
 ·obtain ⟨p,hT⟩:=lay_Tokens_no hlay hsz
  refine ⟨3,⟨fun _ h=>hsz ⟨h.1,h.2.1⟩,fun _=>rfl⟩,fun w=>?_⟩
  exact (lics_Parse_err.calls _ [] p 3 (by decide) hT none 0 w).mono fun e w' h=>⟨_,_,h⟩
end Go.Proofs.YtjapfefiaijfcaaGreatDoor.Q
namespace Go.Proofs.YtjapfefiaijfcaaGreatDoor.Q
open Go.RowKit Go.Proofs.YtjapfefiaijfcaaGreatDoorW.PrintWords Go.Proofs.YtjapfefiaijfcaaGreatDoorW.PrintLast Go.Proofs.YtjapfefiaijfcaaGreatDoorW.PrintMore
set_option linter.unusedVariables false
theorem parS_size (p:Bool) (t:ByteArray):(parS p t).size ≤ t.size + 2:=by
 cases p with
 | false=>exact Nat.le_add_right _ _
 | true =>
  show (⟨#[40]⟩ ++ t ++ ⟨#[41]⟩:ByteArray).size ≤ _
  rw [ByteArray.size_append,ByteArray.size_append]
  have e0:(⟨#[40]⟩:ByteArray).size=1:=rfl
  have e1:(⟨#[41]⟩:ByteArray).size=1:=rfl
  omega
theorem join_bound (f:S24 → ByteArray) (W:Nat) (ys:List S24) (h:∀ y ∈ ys,(f y).size + 2 ≤ szT y * W):∀ k,k ≤ ys.length → (joinF f ys k).size ≤ ((ys.take k).map szT).sum * W:=by
 intro k
 induction k with
 | zero=>intro _;exact Nat.zero_le _
 | succ k ih =>
  intro hk
  have hlt:k < ys.length:=by omega
  have h1:=ih (by omega)
  have h2:=joinF_step f ys k
  have h3:=h _ (List.getElem_mem hlt)
  rw [List.take_succ_eq_append_getElem hlt,List.map_append,List.sum_append,Nat.add_mul]
  rw [rd_nat hlt] at h2
  have e:(List.map szT [ys[k]]).sum=szT ys[k]:=by simp
  rw [e]
  split at h2 <;> omega
theorem lic_bound (M:Nat) (N:Nat):∀ (x:S24) (want:Int),szT x ≤ N → N ≤ 100000 → okT x=true → (∀ t ∈ leaves x,t.size ≤ M) → (licN N x want).size + 2 ≤ szT x * (4 * M + 20):=by
 induction N with
 | zero=>intro x want h;have:=szT_pos x;omega
 | succ N ih =>
  intro x want hN hN2 hok htx
  have hkid:∀ y ∈ x.f3,∀ wt,(licN N y wt).size + 2 ≤ szT y * (4 * M + 20):=by
   intro y hy wt
   refine ih y wt (by have:=kid_le hy;omega) (by omega) ?_ ?_
   ·rw [okT_eq,Bool.and_eq_true] at hok
    exact List.all_eq_true.1 hok.2 y hy
   ·exact fun s hs=>htx s (by rw [leaves_eq];exact List.mem_append_right _ (List.mem_flatten.2 ⟨_,List.mem_map.2 ⟨y,hy,rfl⟩,hs⟩))
  have hhead:headT x.f0 x.f1 x.f2 x.f3.length=true:=by rw [okT_eq,Bool.and_eq_true] at hok;exact hok.1
  unfold headT at hhead
  have hW:1 * (4 * M + 20) ≤ szT x * (4 * M + 20):=Nat.mul_le_mul_right _ (szT_pos x)
  by_cases a3:x.f0=3
  ·have hs:licN (N + 1) x want=parS (decide (0 < want)) (licN N (rd_T24 x.f3 0) 0 ++ ⟨#[32,124,124,32]⟩ ++ licN N (rd_T24 x.f3 1) 1):=by
    show (if x.f0=3 then _ else if x.f0=2 then _ else _)=_
    rw [if_pos a3]
   have hl2:x.f3.length=2:=by simp [a3] at hhead;omega
   have hkids:=two_kids x hl2
   have m0:rd_T24 x.f3 0 ∈ x.f3:=by rw [hkids];simp [rd_T24]
   have m1:rd_T24 x.f3 1 ∈ x.f3:=by rw [hkids];simp [rd_T24]
   have e:szT x=1 + (szT (rd_T24 x.f3 0) + szT (rd_T24 x.f3 1)):=by rw [szT_eq x];conv=>{ lhs;rw [hkids] };simp
   have p:=parS_size (decide (0 < want)) (licN N (rd_T24 x.f3 0) 0 ++ ⟨#[32,124,124,32]⟩ ++ licN N (rd_T24 x.f3 1) 1)
   rw [ByteArray.size_append,ByteArray.size_append] at p
   have e4:(⟨#[32,124,124,32]⟩:ByteArray).size=4:=rfl
   have k0:=hkid _ m0 0
   have k1:=hkid _ m1 1
   rw [hs,e,Nat.add_mul,Nat.add_mul]
   omega
  by_cases a2:x.f0=2
  ·have hs:licN (N + 1) x want=parS (decide (1 < want)) (licN N (rd_T24 x.f3 0) 1 ++ ⟨#[32,38,38,32]⟩ ++ licN N (rd_T24 x.f3 1) 2):=by
    show (if x.f0=3 then _ else if x.f0=2 then _ else _)=_
    rw [if_neg a3,if_pos a2]
   have hl2:x.f3.length=2:=by simp [a2] at hhead;omega
   have hkids:=two_kids x hl2
   have m0:rd_T24 x.f3 0 ∈ x.f3:=by rw [hkids];simp [rd_T24]
   have m1:rd_T24 x.f3 1 ∈ x.f3:=by rw [hkids];simp [rd_T24]
   have e:szT x=1 + (szT (rd_T24 x.f3 0) + szT (rd_T24 x.f3 1)):=by rw [szT_eq x];conv=>{ lhs;rw [hkids] };simp
   have p:=parS_size (decide (1 < want)) (licN N (rd_T24 x.f3 0) 1 ++ ⟨#[32,38,38,32]⟩ ++ licN N (rd_T24 x.f3 1) 2)
   rw [ByteArray.size_append,ByteArray.size_append] at p
   have e4:(⟨#[32,38,38,32]⟩:ByteArray).size=4:=rfl
   have k0:=hkid _ m0 1
   have k1:=hkid _ m1 2
   rw [hs,e,Nat.add_mul,Nat.add_mul]
   omega
  by_cases a4:x.f0=4
  ·have hs:licN (N + 1) x want=numB x.f2 ++ ⟨#[45,111,102,40]⟩ ++ joinF (fun y=>licN N y 0) x.f3 x.f3.length ++ ⟨#[41]⟩:=by
    show (if x.f0=3 then _ else if x.f0=2 then _ else if x.f0=4 then _ else _)=_
    rw [if_neg a3,if_neg a2,if_pos a4]
   have hkk:1 ≤ x.f2 ∧ x.f2 ≤ (x.f3.length:Int):=by
    simp [a4] at hhead
    exact hhead.2
   obtain ⟨n,hn⟩:=Int.eq_ofNat_of_zero_le (show 0 ≤ x.f2 by omega)
   have hlen:=szT_len x
   have hnb:(numB (n:Int)).size ≤ 6:=numB_size n 6 (by omega) (by omega)
   have e4:(⟨#[45,111,102,40]⟩:ByteArray).size=4:=rfl
   have e1:(⟨#[41]⟩:ByteArray).size=1:=rfl
   have hj:=join_bound (fun y=>licN N y 0) (4 * M + 20) x.f3 (fun y hy=>hkid y hy 0) x.f3.length (Nat.le_refl _)
   rw [List.take_length] at hj
   rw [hs,hn,szT_eq x,Nat.add_mul]
   simp only [ByteArray.size_append,e4,e1]
   omega
  ·have hs:licN (N + 1) x want=quoteS x.f1:=by
    show (if x.f0=3 then _ else if x.f0=2 then _ else if x.f0=4 then _ else _)=_
    rw [if_neg a3,if_neg a2,if_neg a4]
   have a1:x.f0=1:=by
    by_cases a1:x.f0=1
    ·exact a1
    ·rw [if_neg a1,if_neg (by omega),if_neg a4] at hhead;cases hhead
   have ht:x.f1.size ≤ M:=htx x.f1 (by rw [leaves_eq];unfold headL;rw [if_pos a1];simp)
   have q:=quoteN_len x.f1 x.f1.size
   rw [hs]
   unfold quoteS
   rw [nums_size,List.length_append,List.length_singleton]
   omega
set_option maxHeartbeats 2000000 in
set_option maxRecDepth 100000 in
theorem told_text.calls (B b g cap:Nat) (t:ByteArray) (ht:t.size ≠ 0) (er:Int) (her:er ≠ 3) (w:World) (h:BldRd 52 B b g cap t w) :
  Calls Tryz.prog 27 #[.pointer (some ⟨b,0,none⟩),.int .i64 er] w fun e w'=>e = .returned (.tuple #[.string t,.int .i64 0]) ∧ Below B w w':=by
 have q0:(er == 3)=false:=beq_eq_false_iff_ne.mpr her
 have H:=Aside0.mk h
 go_enter Tryz.func27,Tryz.ntmps27
 go_wp2_with (fail)
 go_at_call 26
 refine (builder_text_calls 52 B b g cap t ht _ H.out).mono ?_
 rintro e_ w1 ⟨rfl,-,hb⟩
 go_wp2_with (fail)
 refine bodyPost_ret (v:=.tuple #[.string t,.int .i64 0]) ?_ rfl ⟨rfl,hb⟩
 simp [results,Tryz.results27,go_sem]
set_option maxHeartbeats 2000000 in
set_option maxRecDepth 100000 in
theorem told_lim.calls (b:Nat) (w:World) :
  Calls Tryz.prog 27 #[.pointer (some ⟨b,0,none⟩),.int .i64 3] w fun e w'=>e = .returned (.tuple #[.string ⟨#[]⟩,.int .i64 3]) ∧ Below w.heap.size w w':=by
 go_enter Tryz.func27,Tryz.ntmps27
 go_wp2_with (fail)
 refine bodyPost_ret (v:=.tuple #[.string ⟨#[]⟩,.int .i64 3]) ?_ rfl ⟨rfl,Below.refl _ _⟩
 simp [results,Tryz.results27,go_sem]
theorem licN_pos (N:Nat) (x:S24) (w:Int):(licN (N + 1) x w).size ≠ 0:=by
 have hp:∀ (p:Bool) (t:ByteArray),t.size ≠ 0 → (parS p t).size ≠ 0:=fun p t h=>by have:=par_size p t;omega
 show (if x.f0=3 then parS _ _ else if x.f0=2 then parS _ _ else if x.f0=4 then _ else _:ByteArray).size ≠ 0
 split
 ·refine hp _ _ ?_
  rw [ByteArray.size_append,ByteArray.size_append]
  have e:(⟨#[32,124,124,32]⟩:ByteArray).size=4:=rfl
  omega
 ·split
  ·refine hp _ _ ?_
   rw [ByteArray.size_append,ByteArray.size_append]
   have e:(⟨#[32,38,38,32]⟩:ByteArray).size=4:=rfl
   omega
  ·split
   ·rw [ByteArray.size_append]
    have e:(⟨#[41]⟩:ByteArray).size=1:=rfl
    omega
   ·unfold quoteS
    rw [nums_size,List.length_append,List.length_singleton]
    omega
set_option maxHeartbeats 2000000 in
set_option maxRecDepth 100000 in
theorem print_Lic_bad.calls (x:S24) (A:Option Addr) (c:Nat) (w:World) (hx:szT x ≤ 10000) (hok:okT x=false) (hc:x.f3.length ≤ c) (hC:Kd.C k24 w A x.f3.length x.f3) :
  Calls Tryz.prog 10 #[.agg #[.int .u8 x.f0,.string x.f1,.int .i64 x.f2,.slice A x.f3.length c]] w fun e w'=>e = .returned (.tuple #[.string ⟨#[]⟩,.int .i64 151]) ∧ Below w.heap.size w w':=by
 have hck:=fun (W:World) (hb:Below w.heap.size w W)=>lics_Check.calls 10001 x A c W (by omega) (Nat.le_refl _) hc (Kd.C_below hC hb)
 have he:errT x=151:=by unfold errT;rw [hok];rfl
 rw [he] at hck
 have HK:=Aside0.mk hck
 have e0:=blk_cell (blk_new w (.cells #[.int .u8 x.f0,.string x.f1,.int .i64 x.f2,.slice A x.f3.length c] 24)) 0
 have e1:=blk_cell (blk_new w (.cells #[.int .u8 x.f0,.string x.f1,.int .i64 x.f2,.slice A x.f3.length c] 24)) 1
 have e2:=blk_cell (blk_new w (.cells #[.int .u8 x.f0,.string x.f1,.int .i64 x.f2,.slice A x.f3.length c] 24)) 2
 have e3:=blk_cell (blk_new w (.cells #[.int .u8 x.f0,.string x.f1,.int .i64 x.f2,.slice A x.f3.length c] 24)) 3
 clear hck hC hc hok he
 go_enter Tryz.func10,Tryz.ntmps10
 go_wp2_with (fail)
 go_at_call 17
 refine (HK.out _ ((Below.refl _ w).alloc (Nat.le_refl _) _)).mono ?_
 rintro e_ w1 ⟨rfl,hb⟩
 go_wp2_with (fail)
 refine bodyPost_ret (v:=.tuple #[.string ⟨#[]⟩,.int .i64 151]) ?_ rfl ⟨rfl,((Below.refl _ w).alloc (Nat.le_refl _) _).trans (hb.mono (by simp))⟩
 simp [results,Tryz.results10,go_sem]
set_option maxHeartbeats 4000000 in
set_option maxRecDepth 100000 in
theorem print_Lic.calls (N:Nat) (hN:N + 1 ≤ 10000) (x:S24) (A:Option Addr) (c:Nat) (w:World) (htab:Lib.TabIs Tryz.prog w "internal/strconv.uint64pow10" .u64 Lib.pow10Tab) (hx:szT x ≤ N + 1) (hok:okT x=true) (htx:∀ t ∈ leaves x,t.size ≤ 10000) (hc:x.f3.length ≤ c) (hC:Kd.C k24 w A x.f3.length x.f3) (er:Int)
  (hP:∀ w,Calls Tryz.prog 19 #[.string (licN (N + 1) x 0),.slice none 0 0] w (fun e w'=>∃ xs p,ParsePost (xs,p,er) w e w')) :
  Calls Tryz.prog 10 #[.agg #[.int .u8 x.f0,.string x.f1,.int .i64 x.f2,.slice A x.f3.length c]] w fun e w'=>e = .returned (.tuple #[.string (if er=3 then ⟨#[]⟩ else licN (N + 1) x 0),.int .i64 (if er=3 then 3 else 0)]) ∧ Below w.heap.size w w':=by
 have hck:=fun (W:World) (hb:Below w.heap.size w W)=>lics_Check.calls 10001 x A c W (by omega) (Nat.le_refl _) hc (Kd.C_below hC hb)
 have he:errT x=0:=by unfold errT;rw [hok];rfl
 rw [he] at hck
 have hbd:=lic_bound 10000 (N + 1) x 0 hx (by omega) hok htx
 have hsz:(licN (N + 1) x 0).size ≤ 1000000000:=by
  have:szT x * (4 * 10000 + 20) ≤ 10000 * (4 * 10000 + 20):=Nat.mul_le_mul_right _ (by omega)
  omega
 have hW:=fun b=>print_lic w htab b (N + 1) x 0 hx (by omega) hok (fun t ht=>Nat.le_trans (htx t ht) (by decide)) A c hc hC
 have hne:=licN_pos N x 0
 generalize licN (N + 1) x 0=s at hP hW hsz hne ⊢
 have HK:=Aside0.mk hck
 have HW:=Aside0.mk hW
 have HP:=Aside0.mk hP
 have HS:=Aside0.mk hsz
 have HN:=Aside0.mk hne
 have b0:=blk_new w (.cells #[.int .u8 x.f0,.string x.f1,.int .i64 x.f2,.slice A x.f3.length c] 24)
 have e0:=blk_cell b0 0
 have e1:=blk_cell b0 1
 have e2:=blk_cell b0 2
 have e3:=blk_cell b0 3
 have HB0:=Aside0.mk b0
 clear hck hW hP hsz hne hbd b0 htab hC hc hok he hx htx
 go_enter Tryz.func10,Tryz.ntmps10
 go_wp2_with (fail)
 go_at_call 17
 refine (HK.out _ ((Below.refl _ w).alloc (Nat.le_refl _) _)).mono ?_
 rintro e_ w1 ⟨rfl,hb⟩
 have b1:=blk_below HB0.out hb
 have B1:Below w.heap.size w w1:=((Below.refl _ w).alloc (Nat.le_refl _) _).trans (hb.mono (by simp))
 have f0:=blk_cell b1 0
 have f1:=blk_cell b1 1
 have f2:=blk_cell b1 2
 have f3:=blk_cell b1 3
 have g:=blk_alloc b1 (.cells #[.pointer none,.slice none 0 0] 52)
 have g0:=blk_cell g 0
 have g1:=blk_cell g 1
 have g2:=blk_cell g 2
 have g3:=blk_cell g 3
 have HB1:=Aside0.mk B1
 clear b1 hb g B1
 go_wp2_with (fail)
 go_at_call 25
 have hB2:=HB1.out.alloc HB1.out.size (.cells #[.pointer none,.slice none 0 0] 52)
 refine (HW.out w1.heap.size (.slice none 0 0) ⟨#[]⟩ _ hB2 ⟨HB1.out.size,.inl (blk_new _ _),World.ownsRow_nil _ _ _ _,by simp [Value.ownBlock]⟩ (by have:=HS.out;have e:(⟨#[]⟩:ByteArray).size=0:=rfl;omega)).mono ?_
 rintro e_ w2 ⟨rfl,v2,hw⟩
 rw [show (⟨#[]⟩:ByteArray) ++ s=s from ByteArray.ext (by simp)] at hw
 have HB2:=Aside0.mk (hB2.trans hw.below)
 obtain ⟨gg,cap,hrd⟩:=hw.at_.rd HN.out
 have HR2:=Aside0.mk hrd
 clear hw hrd hB2
 go_wp2_with (fail)
 go_at_call 26
 refine (builder_text_calls 52 _ _ gg cap s HN.out _ HR2.out).mono ?_
 rintro e_ w3 ⟨rfl,hrd,hb⟩
 have HR3:=Aside0.mk hrd
 have HB3:=Aside0.mk (HB2.out.trans hb)
 clear hrd hb
 go_wp2_with (fail)
 go_at_call 19
 refine (HP.out _).mono ?_
 rintro e_ w4 ⟨xs,p,v4,rfl,-,hb⟩
 have HR4:=Aside0.mk (HR3.out.below hb)
 have HB4:=Aside0.mk (HB3.out.trans (hb.mono HB3.out.size))
 clear hb
 go_wp2_with (fail)
 go_at_call 27
 by_cases h3:er=3
 ·subst h3
  refine (told_lim.calls w1.heap.size _).mono ?_
  rintro e_ w5 ⟨rfl,hb⟩
  go_wp2_with (fail)
  refine bodyPost_ret (v:=.tuple #[.string ⟨#[]⟩,.int .i64 3]) ?_ rfl ⟨rfl,HB4.out.trans (hb.mono HB4.out.size)⟩
  simp [results,Tryz.results10,go_sem]
 ·refine (told_text.calls _ _ gg cap s HN.out er h3 _ HR4.out).mono ?_
  rintro e_ w5 ⟨rfl,hb⟩
  go_wp2_with (fail)
  refine bodyPost_ret (v:=.tuple #[.string s,.int .i64 0]) ?_ rfl ⟨rfl,HB4.out.trans hb⟩
  simp [results,Tryz.results10,go_sem]
end Go.Proofs.YtjapfefiaijfcaaGreatDoor.Q
namespace Go.Proofs.YtjapfefiaijfcaaGreatDoor.Q
open Go.RowKit Go.Proofs.YtjapfefiaijfcaaGreatDoorW.PrintWords Go.Proofs.YtjapfefiaijfcaaGreatDoorW.PrintLast Go.Proofs.YtjapfefiaijfcaaGreatDoorW.PrintMore
set_option linter.unusedVariables false
def wkA:S24:=⟨1,⟨#[97]⟩,0,[]⟩
def wkB:S24:=⟨1,⟨#[98]⟩,0,[]⟩
def wkX:S24:=⟨4,⟨#[]⟩,2,[wkA,wkB]⟩
def wkT:ByteArray:=⟨#[50,45,111,102,40,34,97,34,44,32,34,98,34,41]⟩
theorem wk_num:numB 2=⟨#[50]⟩:=by
 unfold numB Lib.itoa
 rw [if_neg (by omega)]
 show (⟨(Lib.decDigits 2).toArray⟩:ByteArray)=_
 rw [Lib.decDigits];rfl
theorem wk_text:licN 10 wkX 0=wkT:=by
 show numB 2 ++ ⟨#[45,111,102,40]⟩ ++ joinF (fun y=>licN 9 y 0) [wkA,wkB] 2 ++ ⟨#[41]⟩=wkT
 rw [wk_num]
 have e1:quoteS ⟨#[97]⟩=⟨#[34,97,34]⟩:=by decide
 have e2:quoteS ⟨#[98]⟩=⟨#[34,98,34]⟩:=by decide
 have a1:licN 9 (rd_T24 [wkA,wkB] ((0:Nat):Int)) 0=⟨#[34,97,34]⟩:=by rw [← e1];rfl
 have a2:licN 9 (rd_T24 [wkA,wkB] ((1:Nat):Int)) 0=⟨#[34,98,34]⟩:=by rw [← e2];rfl
 simp only [joinF,a1,a2]
 decide
theorem wk_sizeA:szT wkA=1:=by rw [szT_eq];rfl
theorem wk_sizeB:szT wkB=1:=by rw [szT_eq];rfl
theorem wk_size:szT wkX ≤ 10:=by
 rw [szT_eq]
 show 1 + ([wkA,wkB].map szT).sum ≤ 10
 simp [wk_sizeA,wk_sizeB]
theorem wk_okA:okT wkA=true:=by rw [okT_eq];decide
theorem wk_okB:okT wkB=true:=by rw [okT_eq];decide
theorem wk_ok:okT wkX=true:=by
 rw [okT_eq]
 show (headT 4 ⟨#[]⟩ 2 2 && ([wkA,wkB].all okT))=true
 have e:(⟨#[]⟩:ByteArray).toList=[]:=by rw [ByteArray.toList_eq]
 simp [wk_okA,wk_okB,headT,e]
theorem wk_fits:Fits 10 wkX:=by
 refine ⟨?_,?_,?_⟩
 ·rw [wk_text];decide
 ·decide
 ·decide
theorem wk_leaves:∀ t ∈ leaves wkX,t.size ≤ 10000:=by
 have e:leaves wkX=[⟨#[97]⟩,⟨#[98]⟩]:=by
  rw [leaves_eq]
  show headL wkX ++ ([wkA,wkB].map leaves).flatten=_
  have a:leaves wkA=[⟨#[97]⟩]:=leaves_leaf _
  have b:leaves wkB=[⟨#[98]⟩]:=leaves_leaf _
  have c:headL wkX=[]:=by decide
  rw [c];simp [a,b]
 rw [e]
 intro t ht
 simp only [List.mem_cons,List.not_mem_nil,or_false] at ht
 rcases ht with rfl | rfl <;> decide
set_option maxHeartbeats 4000000 in
set_option maxRecDepth 100000 in
theorem vouchlaw19_works.calls (w:World) (htab:Lib.TabIs Tryz.prog w "internal/strconv.uint64pow10" .u64 Lib.pow10Tab):Calls Tryz.prog 7 #[] w fun e w'=>e = .returned (.bool true) ∧ Below w.heap.size w w':=by
 obtain ⟨er,h3,hP⟩:=print_Parse.calls 9 (by omega) wkX wk_size wk_ok
 have her:er ≠ 3:=fun h=>(h3.1 h) wk_fits
 have hp:=pair_row (W:=w) (base:=w.heap.size) (ok:=fun _=>True) (l:=wkA) (m:=wkB) (va:=.slice none 0 0) (vm:=.slice none 0 0) (Kd.R_nil _ _ _ _ _) (Kd.R_nil _ _ _ _ _) (Nat.le_refl _) trivial
 obtain ⟨A,c,hA,hc,hC⟩:=Kd.R_reads hp
 cases hA
 have hL:=print_Lic.calls 9 (by omega) wkX _ _ _ (Lib.tabIs_alloc htab _) wk_size wk_ok wk_leaves hc hC er hP
 rw [wk_text,if_neg her,if_neg her] at hL
 obtain ⟨tx,ht⟩:∃ tx,wkT=tx:=⟨_,rfl⟩
 rw [ht] at hL
 have HL:=Aside0.mk hL
 have hb:=(Below.refl w.heap.size w).alloc (Nat.le_refl _) (.cells #[.int .u8 wkA.f0,.string wkA.f1,.int .i64 wkA.f2,.slice none 0 0,.int .u8 wkB.f0,.string wkB.f1,.int .i64 wkB.f2,.slice none 0 0] 24)
 have HB:=Aside0.mk hb
 clear hP h3 her hp hc hC hL hb
 go_enter Tryz.func7,Tryz.ntmps7
 rw [show (⟨#[50,45,111,102,40,34,97,34,44,32,34,98,34,41]⟩:ByteArray)=wkT from rfl,ht]
 clear ht
 go_wp2_with (fail)
 go_at_call 10
 refine HL.out.mono ?_
 rintro e_ w1 ⟨rfl,hb⟩
 have HB1:=Aside0.mk (HB.out.trans (hb.mono HB.out.size))
 clear hb
 go_wp2_with (fail)
 refine bodyPost_ret (v:=.bool true) ?_ rfl ⟨rfl,HB1.out⟩
 simp [results,Tryz.results7,go_sem]
end Go.Proofs.YtjapfefiaijfcaaGreatDoor.Q
