/- The weight of licensees: within the bound the tree is small and its texts are short. -/
import Derived.Test.YtjapfefiaijfcaaGreatDoorH10
import Derived.Test.YtjapfefiaijfcaaGreatDoorH16
import Derived.Test.YtjapfefiaijfcaaGreatDoorH22
namespace Go.Proofs.YtjapfefiaijfcaaGreatDoor.Q
open Go.RowKit Go.Proofs.YtjapfefiaijfcaaGreatDoorW.PrintWords Go.Proofs.YtjapfefiaijfcaaGreatDoorW.PrintLast Go.Proofs.YtjapfefiaijfcaaGreatDoorW.PrintMore
set_option linter.unusedVariables false
theorem weight_some (N:Nat):∀ (x:S24) (m:Int),szT x < N → 0 ≤ m → m ≤ 10000 → ∃ r:Int,Ev (fun k=>vouchref19_LicWeight.f k x.f0 x.f1 x.f2 x.f3 m) r ∧ 1 ≤ r ∧ r ≤ m + 1 ∧ (r ≤ m → (szT x:Int) ≤ r ∧ ∀ t ∈ leaves x,(t.size:Int) ≤ r):=by
 induction N with
 | zero=>exact fun _ _ h=>absurd h (Nat.not_lt_zero _)
 | succ N ih =>
  intro x m hx h0 h1
  have hkid:∀ y ∈ x.f3,szT y < N:=fun y hy=>by have:=szT_mem hy;omega
  have hloop:∀ (d i:Nat) (n:Int),i + d=x.f3.length → (i:Int) + 1 ≤ n → n ≤ m + 1 → ∃ r:Int,Ev (fun k=>vouchref19_LicWeight.l0 k m n (i:Int) x.f0 x.f1 x.f2 x.f3) r ∧ n ≤ r ∧ r ≤ m + 1 ∧
    (r ≤ m → ((((x.f3.drop i).map szT).sum:Nat):Int) + n ≤ r ∧ ∀ y ∈ x.f3.drop i,∀ t ∈ leaves y,(t.size:Int) ≤ r):=by
   intro d
   induction d with
   | zero =>
    intro i n hi n0 n1
    refine ⟨n,Ev.here fun k=>?_,Int.le_refl _,n1,fun _=>?_⟩
    ·rw [vouchref19_LicWeight.l0,if_neg (by omega)]
    ·rw [List.drop_eq_nil_of_le (by omega)]
     exact ⟨by simp,fun y hy=>absurd hy (by simp)⟩
   | succ d ihd =>
    intro i n hi n0 n1
    have hil:i < x.f3.length:=by omega
    by_cases hn:n ≤ m
    ·have hy:rd_T24 x.f3 (i:Int)=x.f3[i]:=rd_nat hil
     have hmem:x.f3[i] ∈ x.f3:=List.getElem_mem _
     obtain ⟨ry,e1,a1,b1,c1⟩:=ih x.f3[i] (m - n) (hkid _ hmem) (by omega) (by omega)
     obtain ⟨r,e2,a2,b2,c2⟩:=ihd (i + 1) (n + ry) (by omega) (by omega) (by omega)
     refine ⟨r,Ev.step (Ev.bind e1 (g:=fun k t358=>vouchref19_LicWeight.l0 k m (wrap64 (n + t358)) (wrap64 ((i:Int) + 1)) x.f0 x.f1 x.f2 x.f3) (e2.same fun k=>?_)) fun k=>?_,by omega,b2,fun hr=>?_⟩
     ·rw [w64 (by omega) (by omega),show wrap64 ((i:Int) + 1)=((i + 1:Nat):Int) by rw [w64 (by omega) (by omega)];rfl]
     ·rw [vouchref19_LicWeight.l0,if_pos (by omega),if_pos hn,if_pos (by omega),hy,w64 (by omega) (by omega)]
     ·obtain ⟨c3,c4⟩:=c2 hr
      obtain ⟨c5,c6⟩:=c1 (by omega)
      rw [List.drop_eq_getElem_cons hil,List.map_cons,List.sum_cons]
      refine ⟨by omega,fun y hy t ht=>?_⟩
      rcases List.mem_cons.1 hy with rfl | hy
      ·have:=c6 t ht;omega
      ·exact c4 y hy t ht
    ·refine ⟨n,Ev.here fun k=>?_,Int.le_refl _,n1,fun h=>absurd h hn⟩
     rw [vouchref19_LicWeight.l0,if_pos (by omega),if_neg hn]
  have hmn:mn (x.f1.size:Int) m=if m < (x.f1.size:Int) then m else (x.f1.size:Int):=rfl
  have hmn2:0 ≤ mn (x.f1.size:Int) m ∧ mn (x.f1.size:Int) m ≤ m ∧ (mn (x.f1.size:Int) m < m → mn (x.f1.size:Int) m=x.f1.size):=by rw [hmn];split <;> omega
  obtain ⟨r,e,a,b,c⟩:=hloop x.f3.length 0 (1 + mn (x.f1.size:Int) m) (Nat.zero_add _) (by omega) (by omega)
  refine ⟨r,e.step fun k=>?_,by omega,b,fun hr=>?_⟩
  ·rw [vouchref19_LicWeight.f,w64 (by omega) (by omega)];rfl
  ·obtain ⟨c1,c2⟩:=c hr
   rw [List.drop_zero] at c1 c2
   refine ⟨by rw [szT_eq];omega,fun t ht=>?_⟩
   rw [leaves_eq,List.mem_append] at ht
   rcases ht with ht | ht
   ·have:t=x.f1:=by
     unfold headL at ht
     split at ht
     ·simpa using ht
     ·simp at ht
    subst this
    have:=hmn2.2.2 (by omega)
    omega
   ·obtain ⟨l,hl,ht⟩:=List.mem_flatten.1 ht
    obtain ⟨y,hy,rfl⟩:=List.mem_map.1 hl
    exact c2 y hy t ht
end Go.Proofs.YtjapfefiaijfcaaGreatDoor.Q
