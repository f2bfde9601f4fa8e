/- A tree, and a list of texts, that read as data, as rows of their kinds. -/
import Derived.ChangeArms
import Derived.DataReads
import Derived.Deep.Slices
import Derived.Lib.SmallJoins
import Derived.Test.YtjapfefiaijfcaaGreatDoorH5
namespace Go.Proofs.YtjapfefiaijfcaaGreatDoor.Q
open Go.RowKit Go.Proofs.YtjapfefiaijfcaaGreatDoorW.PrintWords Go.Proofs.YtjapfefiaijfcaaGreatDoorW.PrintLast Go.Proofs.YtjapfefiaijfcaaGreatDoorW.PrintMore
open Go.ChangeShapes Go.WideShapes
set_option maxRecDepth 100000
set_option linter.unusedVariables false
section
variable {H:Type} {enc:TypeId × Value → H} {P:Program} {w:World} {base:Nat} {spare:Nat → Bool} {held:Bool}
theorem slice_reads {α:Type} (d:Kd α) {t e:TypeId} {fuel:Nat} {cs:List Value} {x:DataW H × List MemPlace} (ht:P.underlying t=some (.slice e)) (hsz:P.cellsOf e=d.sz)
  (h:DataW.trod enc P w base spare held fuel t cs=some x) (ih:∀ n,n < fuel → ∀ cs y,DataW.trod enc P w base spare held n e cs=some y → ∃ z,d.K w z cs) :
  ∃ (A:Option Addr) (cap:Nat) (xs:List α),cs=[.slice A xs.length cap] ∧ xs.length ≤ cap ∧ cap ≤ maxLen ∧ Kd.C d w A xs.length xs:=by
 classical
 rcases DataW.trod_slice ht h with ⟨rfl,-⟩ | ⟨a,len,cap,elems,rest,n,rfl,rfl,-,-,hl,hm,hlen,hel,-,-⟩
 ·exact ⟨none,0,[],rfl,Nat.le_refl _,by unfold maxLen;omega,rfl,by simp,fun h=>absurd h (Nat.lt_irrefl _)⟩
 ·have hx:∀ i,i < len → ∃ z c,c.length=d.sz ∧ d.K w z c ∧ ∀ j u,c[j]? = some u → w.cell? (a.add (i * d.sz + j))=some u:=by
   intro i hi
   have hi':i < elems.length:=by omega
   have q:=hel i hi
   rw [List.getElem?_eq_getElem hi'] at q
   obtain ⟨c,hc,hd⟩:=Option.bind_eq_some_iff.mp q
   obtain ⟨z,hz⟩:=ih n (Nat.lt_succ_self n) _ _ hd
   obtain ⟨-,hcl,hcc⟩:=World.cells?_some hc
   rw [hsz] at hcl
   refine ⟨z,c,hcl,hz,fun j u hj=>?_⟩
   have hjl:=(List.getElem?_eq_some_iff.1 hj).1
   rw [← hj,← hcc j (by rw [hsz];omega),Deep.add_add,hsz]
  have hne:∀ i:Fin len,∃ z c,c.length=d.sz ∧ d.K w z c ∧ ∀ j u,c[j]? = some u → w.cell? (a.add (i.1 * d.sz + j))=some u:=fun i=>hx i.1 i.2
  have hlen2:((List.finRange len).map fun i=>Classical.choose (hne i)).length=len:=by simp
  refine ⟨some a,cap,(List.finRange len).map fun i=>Classical.choose (hne i),by rw [hlen2],by rw [hlen2];exact hl,hm,rfl,by rw [hlen2];unfold maxLen at hm;omega,fun _=>⟨a,rfl,fun j p hj=>?_⟩⟩
  have hjl:j < len:=by have:=(List.getElem?_eq_some_iff.1 hj).1;rw [hlen2] at this;exact this
  have e:p=Classical.choose (hne ⟨j,hjl⟩):=by
   rw [List.getElem?_map,List.getElem?_eq_getElem (by simpa using hjl)] at hj
   simpa using hj.symm
  subst e
  exact Classical.choose_spec (hne ⟨j,hjl⟩)
end
section
variable {H:Type} {enc:TypeId × Value → H} {w:World} {base:Nat} {spare:Nat → Bool} {held:Bool}
theorem k24_reads (N:Nat):∀ (fuel:Nat),fuel < N → ∀ (cs:List Value) (x:DataW H × List MemPlace),DataW.trod enc Tryz.prog w base spare held fuel 24 cs=some x → ∃ z:S24,k24.K w z cs:=by
 induction N with
 | zero=>exact fun _ h=>absurd h (Nat.not_lt_zero _)
 | succ N ih =>
  intro fuel hf cs x h
  obtain ⟨xs,n,rfl,-,hlen,hxl,hx⟩:=DataW.trod_struct Tryz.underlying24 h
  have c24:Tryz.prog.cellsOf 24=4:=by kernel_rfl
  have c5:Tryz.prog.cellsOf 5=1:=by kernel_rfl
  have c9:Tryz.prog.cellsOf 9=1:=by kernel_rfl
  have c3:Tryz.prog.cellsOf 3=1:=by kernel_rfl
  have c22:Tryz.prog.cellsOf 22=1:=by kernel_rfl
  rw [c24] at hlen
  match cs,hlen with
  | [v0,v1,v2,v3],_ =>
   match xs,hxl with
   | [x0,x1,x2,x3],_ =>
    have h0:DataW.trod enc Tryz.prog w base spare held n 5 (([v0,v1,v2,v3].drop 0).take (Tryz.prog.cellsOf 5))=some x0:=hx 0 _ rfl
    rw [c5] at h0
    have h1:DataW.trod enc Tryz.prog w base spare held n 9 (([v0,v1,v2,v3].drop 1).take (Tryz.prog.cellsOf 9))=some x1:=hx 1 _ rfl
    rw [c9] at h1
    have h2:DataW.trod enc Tryz.prog w base spare held n 3 (([v0,v1,v2,v3].drop 2).take (Tryz.prog.cellsOf 3))=some x2:=hx 2 _ rfl
    rw [c3] at h2
    have h3:DataW.trod enc Tryz.prog w base spare held n 22 (([v0,v1,v2,v3].drop 3).take (Tryz.prog.cellsOf 22))=some x3:=hx 3 _ rfl
    rw [c22] at h3
    obtain ⟨a,e0,-,-⟩:=DataW.trod_int Tryz.underlying5 h0
    obtain ⟨b,e1,-,-⟩:=DataW.trod_string Tryz.underlying9 h1
    obtain ⟨c,e2,-,-⟩:=DataW.trod_int Tryz.underlying3 h2
    obtain ⟨A,cap,ys,e3,l3,-,C3⟩:=slice_reads k24 Tryz.underlying22 c24 h3 (fun m hm cs y hy=>ih m (by omega) cs y hy)
    have q0:[v0]=[.int .u8 a]:=e0
    have q1:[v1]=[.string b]:=e1
    have q2:[v2]=[.int .i64 c]:=e2
    have q3:[v3]=[.slice A ys.length cap]:=e3
    injection q0 with q0;injection q1 with q1;injection q2 with q2;injection q3 with q3
    subst q0;subst q1;subst q2;subst q3
    exact ⟨⟨a,b,c,ys⟩,k24_mk w ⟨a,b,c,ys⟩ l3 C3⟩
theorem tree_reads {r:Reach} {b0:Nat} {v:Value} {d:DataW H} {p:List MemPlace} (hv:Value.okWide Tryz.prog w r b0 24 v) (h:DataW.Trod enc Tryz.prog w base spare held 24 v d p) :
  ∃ (x:S24) (A:Option Addr) (c:Nat),v = .agg #[.int .u8 x.f0,.string x.f1,.int .i64 x.f2,.slice A x.f3.length c] ∧ x.f3.length ≤ c ∧ Kd.C k24 w A x.f3.length x.f3:=by
 obtain ⟨fuel,hf⟩:=h
 obtain ⟨cs,rfl,-⟩:=okWide_struct Tryz.underlying24 hv
 obtain ⟨z,hz⟩:=k24_reads (fuel + 1) fuel (Nat.lt_succ_self _) _ _ hf
 obtain ⟨A,c,e,l,C⟩:=k24_open hz
 refine ⟨z,A,c,?_,l,C⟩
 have e':cs.toList=[.int .u8 z.f0,.string z.f1,.int .i64 z.f2,.slice A z.f3.length c]:=e
 rw [← e',Array.toArray_toList]
end
end Go.Proofs.YtjapfefiaijfcaaGreatDoor.Q
