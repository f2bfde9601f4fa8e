/- The reference's reader of licensees: chains of parts. The reference's reader of licensees: one part. The reference's reader of licensees: so many of some parts. The reference's Parse: the error alone. -/
import Derived.BigRegion
import Derived.Deep.RegionHeld3
import Derived.Test.YtjapfefiaijfcaaGreatDoorH19
import Derived.Test.YtjapfefiaijfcaaGreatDoorH30
namespace Go.Proofs.YtjapfefiaijfcaaGreatDoor.Q
open Go.RowKit Go.Proofs.YtjapfefiaijfcaaGreatDoorW.PrintWords Go.Proofs.YtjapfefiaijfcaaGreatDoorW.PrintLast Go.Proofs.YtjapfefiaijfcaaGreatDoorW.PrintMore
set_option linter.unusedVariables false
def FinR (o:Option Nat) (dp i' dp' er':Int):Prop:=match o with
 | some j=>i' = j ∧ dp' = dp ∧ er' = 0
 | none=>er' = 3
def RefOut (g:Nat) (w0 w:World) (toks:List S70) (cs:List S138) (en dp:Int) (o:Option Nat) (e:Ending) (w':World):Prop :=
 ∃ (l:S24) (v:Value) (i' dp' er' pl':Int),e = .returned (.agg #[.int .u8 l.f0,.string l.f1,.int .i64 l.f2,v]) ∧ IsS76 w0 w' g toks cs i' en dp' er' pl' ∧ FinR o dp i' dp' er' ∧ Below w0.heap.size w0 w' ∧ KeepBut w w' g none ∧ Kd.R k24 24 w' w.heap.size (fun _=>True) v l.f3
def RefP (toks:List S70) (cs:List S138) (en:Int) (fn:Nat) (i:Nat) (dp:Int) (o:Option Nat):Prop :=
 ∀ (g:Nat) (w0 w:World) (pl:Int),IsS76 w0 w g toks cs (i:Int) en dp 0 pl → Below w0.heap.size w0 w → Calls Tryz.prog fn #[.pointer (some ⟨g,0,none⟩)] w (RefOut g w0 w toks cs en dp o)
def isB (toks:List S70) (j:Nat) (t:ByteArray):Bool:=decide (j < toks.length) && (decide ((rd_T70 toks (j:Int)).f0=6) && ((rd_T70 toks (j:Int)).f1.toList == t.toList))
theorem is_b (toks:List S70) (cs:List S138) (j:Nat) (en dp pl:Int) (t:ByteArray):vouchref16_reader_is.f toks cs j en dp 0 pl t=some (isB toks j t,(j:Int),en,dp,0,pl):=by
 unfold vouchref16_reader_is.f isB
 rw [if_pos rfl]
 by_cases h1:j < toks.length
 ·rw [if_pos (by omega),if_pos (by omega),decide_eq_true h1]
  by_cases h2:(rd_T70 toks (j:Int)).f0=6
  ·rw [if_pos h2,decide_eq_true h2];rfl
  ·rw [if_neg h2,decide_eq_false h2];rfl
 ·rw [if_neg (by omega),decide_eq_false h1];rfl
inductive RChain (toks:List S70) (cs:List S138) (en:Int) (pf:Nat) (s:ByteArray) (dp:Int):Nat → Option Nat → Prop
 | stop (j:Nat):isB toks j s=false → RChain toks cs en pf s dp j (some j)
 | more (j:Nat) (o2 o:Option Nat):isB toks j s=true → j < toks.length → RefP toks cs en pf (j + 1) dp o2 → (o2=none → o=none) → (∀ k,o2=some k → j < k) → (∀ k,o2=some k → RChain toks cs en pf s dp k o) → RChain toks cs en pf s dp j o
def RcAt (toks:List S70) (cs:List S138) (en:Int) (pf:Nat) (s:ByteArray) (dp:Int) (o:Option Nat) (j dp' er:Int):Prop:=(er=3 ∧ o=none) ∨ (er=0 ∧ dp' = dp ∧ ∃ jn:Nat,j=jn ∧ RChain toks cs en pf s dp jn o)
def rdEr (w:World) (g:Nat):Int:=match w.cell? ⟨g,5,none⟩ with | some (.int _ n)=>n | _=>0
theorem IsS76.at_eq {w0 W:World} {g:Nat} {f0:List S70} {f1:List S138} {f2 f3 f4 f5 f6:Int} (h:IsS76 w0 W g f0 f1 f2 f3 f4 f5 f6):rdAt W g=f2:=by
 obtain ⟨A0,c0,A1,c1,hG,_⟩:=h
 unfold rdAt;rw [cellS76_2 hG]
theorem IsS76.er_eq {w0 W:World} {g:Nat} {f0:List S70} {f1:List S138} {f2 f3 f4 f5 f6:Int} (h:IsS76 w0 W g f0 f1 f2 f3 f4 f5 f6):rdEr W g=f5:=by
 obtain ⟨A0,c0,A1,c1,hG,_⟩:=h
 unfold rdEr;rw [cellS76_5 hG]
def rdMu (w:World) (g:Nat):Nat:=if rdEr w g=0 then (8192 - rdAt w g).toNat + 1 else 0
theorem IsS76.four {w0 W:World} {g:Nat} {f0:List S70} {f1:List S138} {f2 f3 f4 f5 f6:Int} (h:IsS76 w0 W g f0 f1 f2 f3 f4 f5 f6) {b:Nat} (hne:g ≠ b) (v0 v1 v2 v3:Value):IsS76 w0 (Q.four W b v0 v1 v2 v3) g f0 f1 f2 f3 f4 f5 f6:=(((h.far hne _).far hne _).far hne _).far hne _
theorem lic_outR {g:Nat} {w0 w w3:World} {toks:List S70} {cs:List S138} {j en dp er pl:Int} {r:S24} {v c0 c1 c2 c3:Value} (hI:IsS76 w0 w3 g toks cs j en dp er pl) (hB:Below w0.heap.size w0 w3) (hK:KeepBut w w3 g none)
  (hb:w3.heap[w.heap.size]? = some (.cells #[c0,c1,c2,c3] 24 (0,0))) (hR:Kd.R k24 24 w3 w.heap.size (fun k=>k ≠ w.heap.size) v r.f3) (hw:w0.heap.size ≤ w.heap.size) (hg:g < w.heap.size) :
  IsS76 w0 (four w3 w.heap.size (.int .u8 r.f0) (.string r.f1) (.int .i64 r.f2) v) g toks cs j en dp er pl ∧
  Below w0.heap.size w0 (four w3 w.heap.size (.int .u8 r.f0) (.string r.f1) (.int .i64 r.f2) v) ∧
  KeepBut w (four w3 w.heap.size (.int .u8 r.f0) (.string r.f1) (.int .i64 r.f2) v) g none ∧
  Kd.R k24 24 (four w3 w.heap.size (.int .u8 r.f0) (.string r.f1) (.int .i64 r.f2) v) w.heap.size (fun _=>True) v r.f3 ∧
  (four w3 w.heap.size (.int .u8 r.f0) (.string r.f1) (.int .i64 r.f2) v).heap[w.heap.size]? = some (.cells #[.int .u8 r.f0,.string r.f1,.int .i64 r.f2,v] 24 (0,0)):=by
 have hgw:g ≠ w.heap.size:=by omega
 exact ⟨hI.four hgw _ _ _ _,below_four hB hw _ _ _ _,keep_four hK (Nat.le_refl _) _ _ _ _,Kd.R_mono (R_four hR (fun k hk=>hk) _ _ _ _) (fun _ _=>trivial),four_at hb _ _ _ _⟩
theorem finR_at {toks:List S70} {cs:List S138} {en:Int} {pf:Nat} {s:ByteArray} {dp j dp' er:Int} {o1 o:Option Nat} (h:FinR o1 dp j dp' er) (h1:o1=none → o=none) (h2:∀ k,o1=some k → RChain toks cs en pf s dp k o):RcAt toks cs en pf s dp o j dp' er:=by
 cases o1 with
 | none=>exact .inl ⟨h,h1 rfl⟩
 | some k=>exact .inr ⟨h.2.2,h.2.1,k,h.1,h2 k rfl⟩
set_option maxHeartbeats 8000000 in
set_option maxRecDepth 100000 in
theorem ref_all.calls (toks:List S70) (cs:List S138) (en:Int) (hm:toks.length ≤ 8192) (i:Nat) (dp:Int) (o1 o:Option Nat) (hP:RefP toks cs en 87 i dp o1) (h1:o1=none → o=none) (h2:∀ k,o1=some k → RChain toks cs en 87 ⟨#[38,38]⟩ dp k o):RefP toks cs en 62 i dp o:=by
 intro g w0 w pl hI hB
 have HI:=Aside0.mk hI
 have HB:=Aside0.mk hB
 have HP:=Aside0.mk hP
 have H1:=Aside0.mk h1
 have H2:=Aside0.mk h2
 clear hI hB hP h1 h2
 go_enter Tryz.func62,Tryz.ntmps62
 have a1:∀ o:Obj,IsS76 w0 (w.alloc o) g toks cs i en dp 0 pl:=fun o=>HI.out.alloc o
 have a2:∀ o:Obj,Below w0.heap.size w0 (w.alloc o):=fun o=>HB.out.alloc HB.out.size o
 have HA1:=Aside0.mk a1
 have HA2:=Aside0.mk a2
 clear a1 a2
 go_wp2_with (first | (go_at_call 87;(refine (HP.out g w0 _ pl (HA1.out _) (HA2.out _)).mono ?_);rintro e_ w1 ⟨l,v1,i1,dp1,er1,pl1,rfl,hi,hf,hb,hk,hr⟩;obtain ⟨A1,cp1,rfl⟩:=Kd.R_slice hr;have HI1:=Aside0.mk hi;have HF1:=Aside0.mk hf;have HB1:=Aside0.mk hb;have HK1:=Aside0.mk hk;have HR1:=Aside0.mk hr;clear hi hf hb hk hr))
 have hz1:w.heap.size + 1 ≤ w1.heap.size:=by have:=HK1.out.1;simpa using this
 have HZ1:=Aside0.mk hz1
 have hr0:w1.heap[w.heap.size]? = some (.cells #[.int .u8 0,.string ⟨#[]⟩,.int .i64 0,.slice none 0 0] 24 (0,0)):=HK1.out.blk (blk_new w _) (by have:=HI.out.lt;omega) (by simp)
 have HR0:=Aside0.mk hr0
 clear hz1 hr0
 go_loopw [] (fun wr=>∃ (l:S24) (j dp' er pl':Int) (v:Value),RcAt toks cs en 87 ⟨#[38,38]⟩ dp o j dp' er ∧ IsS76 w0 wr g toks cs j en dp' er pl' ∧ Below w0.heap.size w0 wr ∧ KeepBut w wr g none ∧ wr.heap[w1.heap.size]? = some (.cells #[.int .u8 l.f0,.string l.f1,.int .i64 l.f2,v] 24 (0,0)) ∧ wr.heap[w.heap.size]? = some (.cells #[.int .u8 0,.string ⟨#[]⟩,.int .i64 0,.slice none 0 0] 24 (0,0)) ∧ Kd.R k24 24 wr w.heap.size (fun k=>k ≠ w.heap.size ∧ k ≠ w1.heap.size) v l.f3) (fun wr=>rdMu wr g)
 case atStart =>
  refine ⟨l,i1,dp1,er1,pl1,.slice A1 l.f3.length cp1,finR_at HF1.out H1.out H2.out,HI1.out.alloc _,HB1.out.alloc HB1.out.size _,?_,blk_new _ _,blk_alloc HR0.out _,?_⟩
  ·exact keep_alloc ((keep_alloc (KeepBut.refl w g none) _).trans HK1.out (.inl rfl)) _
  ·refine Kd.R_mono (Kd.R_alloc (Kd.R_lower (Kd.R_bound HR1.out) (by simp)) _) (fun k hk=>?_)
   have q1:=hk.2.1
   have q2:=hk.2.2.1
   have q3:(w.alloc (.cells #[.int .u8 0,.string ⟨#[]⟩,.int .i64 0,.slice none 0 0] 24)).heap.size=w.heap.size + 1:=by simp
   rw [q3] at q1
   exact ⟨by omega,by omega⟩
 case round =>
  obtain ⟨l,j,dp',er,pl',v,hC,hI,hB,hK,hb1,hb0,hR⟩:=hrel
  obtain ⟨A2,cp2,rfl⟩:=Kd.R_slice hR
  have HIr:=Aside0.mk hI
  have HBr:=Aside0.mk hB
  have HKr:=Aside0.mk hK
  have HR:=Aside0.mk hR
  have Hb1:=Aside0.mk hb1
  have Hb0:=Aside0.mk hb0
  by_cases hgo:er=0 ∧ ∃ jn:Nat,j=jn ∧ isB toks jn ⟨#[38,38]⟩=true
  case neg =>
   have hs:vouchref16_reader_is.f toks cs j en dp' er pl' ⟨#[38,38]⟩=some (false,j,en,dp',er,pl') ∧ FinR o dp j dp' er:=by
    rcases hC with ⟨rfl,rfl⟩ | ⟨rfl,rfl,jn,rfl,hc⟩
    ·exact ⟨is_wrong _ _ _ _ _ _ _ _ (by omega),rfl⟩
    ·have hn:isB toks jn ⟨#[38,38]⟩=false:=Bool.eq_false_iff.mpr fun h=>hgo ⟨rfl,jn,rfl,h⟩
     refine ⟨by rw [is_b,hn],?_⟩
     cases hc with
     | stop _ _=>exact ⟨rfl,rfl,rfl⟩
     | more _ _ _ h=>rw [hn] at h;cases h
   have HS:=Aside0.mk hs.1
   have HF:=Aside0.mk hs.2
   clear hI hB hK hR hb1 hb0 hs hC hgo
   go_wp2_with (first | (go_at_call 63;(refine (vouchref16_reader_is.calls g toks cs _ en dp' er pl' ⟨#[38,38]⟩ false _ en dp' er pl' w0 _ HIr.out HBr.out HS.out).mono ?_);rintro e_ w3 ⟨rfl,hi,hb,hk⟩;have f1:=hk.blk Hb1.out (by have:=HIr.out.ne_blk Hb1.out (by decide);omega) (by simp);have f0:=hk.blk Hb0.out (by have:=HIr.out.ne_blk Hb0.out (by decide);omega) (by simp);have c0:=blk_cell f1 0;have c1:=blk_cell f1 1;have c2:=blk_cell f1 2;have c3:=blk_cell f1 3;have d0:=blk_cell f0 0;have d1:=blk_cell f0 1;have d2:=blk_cell f0 2;have d3:=blk_cell f0 3;have k0:=blk_frozen f0 0;have k1:=blk_frozen f0 1;have k2:=blk_frozen f0 2;have k3:=blk_frozen f0 3;have F0:=Aside0.mk f0;have HI3:=Aside0.mk hi;have HB3:=Aside0.mk hb;have HK3:=Aside0.mk hk;clear f0 f1 hi hb hk))
   have hkw:=HKr.out.trans HK3.out (.inl rfl)
   have hR3:=Kd.R_keep (Kd.R_mono (Kd.R_bound HR.out) (fun k hk=>(⟨hk.1,hk.2.1⟩:(k ≠ w.heap.size ∧ k ≠ w1.heap.size) ∧ w.heap.size ≤ k))) HK3.out (fun k hk=>by have:=HI.out.lt;omega)
   obtain ⟨o1,o2,o3,o4,o5⟩:=lic_outR (r:=l) HI3.out HB3.out hkw F0.out (Kd.R_mono hR3 (fun k hk=>hk.1.1)) HB.out.size HI.out.lt
   have e0:=blk_cell o5 0
   have e1:=blk_cell o5 1
   have e2:=blk_cell o5 2
   have e3:=blk_cell o5 3
   unfold four at e0 e1 e2 e3
   refine bodyPost_ret (v:=.agg #[.int .u8 l.f0,.string l.f1,.int .i64 l.f2,.slice A2 l.f3.length cp2]) ?_ rfl ⟨l,_,_,_,_,_,rfl,o1,HF.out,o2,o3,o4⟩
   simp [results,Tryz.results62,go_sem,e0,e1,e2,e3]
  case pos =>
   obtain ⟨rfl,jn,rfl,hs⟩:=hgo
   obtain ⟨o2,hj,hp,hn,hlt,hch,hdp⟩:∃ o2:Option Nat,jn < toks.length ∧ RefP toks cs en 87 (jn + 1) dp o2 ∧ (o2=none → o=none) ∧ (∀ k,o2=some k → jn < k) ∧ (∀ k,o2=some k → RChain toks cs en 87 ⟨#[38,38]⟩ dp k o) ∧ dp' = dp:=by
    rcases hC with ⟨h,-⟩ | ⟨-,h5,jn',h6,hc⟩
    ·exact absurd h (by omega)
    ·obtain rfl:jn=jn':=by omega
     cases hc with
     | stop _ h=>rw [hs] at h;cases h
     | more _ o2 _ _ a b c d e=>exact ⟨o2,a,b,c,d,e,h5⟩
   subst hdp
   have HS:=Aside0.mk (show vouchref16_reader_is.f toks cs jn en dp' 0 pl' ⟨#[38,38]⟩=some (true,(jn:Int),en,dp',0,pl') by rw [is_b,hs])
   have HP2:=Aside0.mk hp
   have HJ:=Aside0.mk hj
   have HN2:=Aside0.mk hn
   have HL2:=Aside0.mk hlt
   have HC2:=Aside0.mk hch
   have q4:IntKind.i64.wrap ((jn:Int) + 1)=((jn + 1:Nat):Int):=IntWalk.i64_in _ (by omega)
   clear hI hB hK hR hb1 hb0 hs hp hj hn hlt hch hC
   go_wp2_with (first | (go_at_call 63;(refine (vouchref16_reader_is.calls g toks cs _ en dp' 0 pl' ⟨#[38,38]⟩ true _ en dp' 0 pl' w0 _ HIr.out HBr.out HS.out).mono ?_);rintro e_ w3 ⟨rfl,hi,hb,hk⟩;have f1:=hk.blk Hb1.out (by have:=HIr.out.ne_blk Hb1.out (by decide);omega) (by simp);have f0:=hk.blk Hb0.out (by have:=HIr.out.ne_blk Hb0.out (by decide);omega) (by simp);have F0:=Aside0.mk f0;have F1:=Aside0.mk f1;have HI3:=Aside0.mk hi;have HB3:=Aside0.mk hb;have HK3:=Aside0.mk hk;obtain ⟨A0',c0',A1',c1',hG,-,-,-⟩:=hi;have g2:=cellS76_2 hG;have gf:=blk_frozen hG 2;clear f0 f1 hG hb hk) | (go_at_call 87;(refine (HP2.out g w0 _ pl' (HI3.out.set_2 _) (HB3.out.setCell HI.out.ge _)).mono ?_);rintro e_ w4 ⟨m,v2,i4,dp4,er4,pl4,rfl,hi,hf,hb,hk,hr⟩;obtain ⟨A3,cp3,rfl⟩:=Kd.R_slice hr;have HI4:=Aside0.mk hi;have HF4:=Aside0.mk hf;have HB4:=Aside0.mk hb;have HK4:=Aside0.mk hk;have HR4:=Aside0.mk hr;have x10:=hk.blk (blk_far F1.out (p:=⟨g,2,none⟩) (by have:=HIr.out.ne_blk Hb1.out (by decide);simp only;omega) (.int .i64 ((jn + 1:Nat):Int))) (by have:=HIr.out.ne_blk Hb1.out (by decide);omega) (by simp);have x0:=hk.blk (blk_far F0.out (p:=⟨g,2,none⟩) (by have:=HIr.out.ne_blk Hb0.out (by decide);simp only;omega) (.int .i64 ((jn + 1:Nat):Int))) (by have:=HIr.out.ne_blk Hb0.out (by decide);omega) (by simp);have y0:=fun o=>blk_cell (blk_alloc x10 o) 0;have y1:=fun o=>blk_cell (blk_alloc x10 o) 1;have y2:=fun o=>blk_cell (blk_alloc x10 o) 2;have y3:=fun o=>blk_cell (blk_alloc x10 o) 3;have r0:=blk_cell (b3t 24 w4 (.int .u8 m.f0) (.string m.f1) (.int .i64 m.f2) (.slice A3 m.f3.length cp3)) 0;have r1:=blk_cell (b3t 24 w4 (.int .u8 m.f0) (.string m.f1) (.int .i64 m.f2) (.slice A3 m.f3.length cp3)) 1;have r2:=blk_cell (b3t 24 w4 (.int .u8 m.f0) (.string m.f1) (.int .i64 m.f2) (.slice A3 m.f3.length cp3)) 2;have r3:=blk_cell (b3t 24 w4 (.int .u8 m.f0) (.string m.f1) (.int .i64 m.f2) (.slice A3 m.f3.length cp3)) 3;have z0:=fun o o2=>blk_cell (blk_alloc (blk_alloc x10 o) o2) 0;have z1:=fun o o2=>blk_cell (blk_alloc (blk_alloc x10 o) o2) 1;have z2:=fun o o2=>blk_cell (blk_alloc (blk_alloc x10 o) o2) 2;have z3:=fun o o2=>blk_cell (blk_alloc (blk_alloc x10 o) o2) 3;have h0:=fun o o2=>blk_frozen (blk_alloc (blk_alloc x10 o) o2) 0;have h1:=fun o o2=>blk_frozen (blk_alloc (blk_alloc x10 o) o2) 1;have h2:=fun o o2=>blk_frozen (blk_alloc (blk_alloc x10 o) o2) 2;have h3:=fun o o2=>blk_frozen (blk_alloc (blk_alloc x10 o) o2) 3;have X10:=Aside0.mk x10;have X0:=Aside0.mk x0;clear hi hf hb hk hr x10 x0))
   have zr:wr.heap.size ≤ w3.heap.size:=HK3.out.1
   have zw:w.heap.size ≤ wr.heap.size:=HKr.out.1
   have zc:(w3.setCell ⟨g,2,none⟩ (.int .i64 ((jn + 1:Nat):Int))).heap.size=w3.heap.size:=by simp
   have z4:w3.heap.size ≤ w4.heap.size:=by have:=HK4.out.1;rw [zc] at this;exact this
   have gl:=HI.out.lt
   have hz1:=HZ1.out
   have hn1:w1.heap.size < wr.heap.size:=blk_lt Hb1.out
   have sM:(w4.alloc (.cells #[.int .u8 m.f0,.string m.f1,.int .i64 m.f2,.slice A3 m.f3.length cp3] 24)).heap.size=w4.heap.size + 1:=by simp
   have hl:Kd.R k24 24 (w4.alloc (.cells #[.int .u8 m.f0,.string m.f1,.int .i64 m.f2,.slice A3 m.f3.length cp3] 24)) w.heap.size (fun k=>k ≠ w.heap.size ∧ k ≠ w1.heap.size) (.slice A2 l.f3.length cp2) l.f3:=by
    have q:=Kd.R_mono (Kd.R_bound HR.out) (fun k hk=>(⟨hk.1,hk.2.1,hk.2.2.1⟩:(k ≠ w.heap.size ∧ k ≠ w1.heap.size) ∧ w.heap.size ≤ k ∧ k < wr.heap.size))
    have q2:=Kd.R_keep q HK3.out (fun k hk=>by omega)
    have q3:=Kd.R_keep (Kd.R_far (p:=⟨g,2,none⟩) q2 (fun k hk=>by simp only;omega) (.int .i64 ((jn + 1:Nat):Int))) HK4.out (fun k hk=>by omega)
    exact Kd.R_mono (Kd.R_alloc q3 _) (fun k hk=>hk.1)
   have hm':Kd.R k24 24 (w4.alloc (.cells #[.int .u8 m.f0,.string m.f1,.int .i64 m.f2,.slice A3 m.f3.length cp3] 24)) w.heap.size (fun k=>k ≠ w.heap.size ∧ k ≠ w1.heap.size) (.slice A3 m.f3.length cp3) m.f3:=by
    have q:=HR4.out
    rw [zc] at q
    have q2:=Kd.R_mono (Kd.R_bound q) (fun k hk=>(hk.2.1:w3.heap.size ≤ k))
    exact Kd.R_mono (Kd.R_lower (Kd.R_alloc q2 _) (by omega)) (fun k hk=>by omega)
   have hp:=pair_row hl hm' (by rw [sM];omega) (by rw [sM];omega)
   rw [sM] at hp
   have hI7:=((HI4.out.alloc (.cells #[.int .u8 m.f0,.string m.f1,.int .i64 m.f2,.slice A3 m.f3.length cp3] 24)).alloc (.cells #[.int .u8 l.f0,.string l.f1,.int .i64 l.f2,.slice A2 l.f3.length cp2,.int .u8 m.f0,.string m.f1,.int .i64 m.f2,.slice A3 m.f3.length cp3] 24)).four (by omega:g ≠ w1.heap.size) (.int .u8 2) (.string ⟨#[]⟩) (.int .i64 0) (.slice (some ⟨w4.heap.size + 1,0,none⟩) 2 2)
   refine ⟨⟨⟨2,⟨#[]⟩,0,[l,m]⟩,i4,dp4,er4,pl4,.slice (some ⟨w4.heap.size + 1,0,none⟩) 2 2,finR_at HF4.out HN2.out HC2.out,hI7,?_,?_,four_at (blk_alloc (blk_alloc X10.out _) _) _ _ _ _,four_far (blk_alloc (blk_alloc X0.out _) _) (by omega) _ _ _ _,R_four hp (fun k hk=>hk.2) _ _ _ _⟩,?_⟩
   ·exact below_four ((HB4.out.alloc HB4.out.size _).alloc (by rw [sM];have:=HB4.out.size;omega) _) (by have:=HB.out.size;omega) _ _ _ _
   ·exact keep_four (keep_alloc (keep_alloc ((((HKr.out.trans HK3.out (.inl rfl)).set_ _ _)).trans HK4.out (.inl rfl)) _) _) (by omega) _ _ _ _
   ·have e1:=hI7.at_eq
    have e2:=hI7.er_eq
    have e3:=HIr.out.at_eq
    have e4:=HIr.out.er_eq
    have hj:=HJ.out
    have hf:=HF4.out
    have hlt:=HL2.out
    unfold four at e1 e2
    unfold rdMu
    rw [e1,e2,e3,e4,if_pos rfl]
    cases o2 with
    | none=>rw [if_neg (by have:er4=3:=hf;omega)];omega
    | some k =>
     obtain ⟨f1,f2,f3⟩:=hf
     have:=hlt k rfl
     rw [if_pos f3];omega
set_option maxHeartbeats 8000000 in
set_option maxRecDepth 100000 in
theorem ref_some.calls (toks:List S70) (cs:List S138) (en:Int) (hm:toks.length ≤ 8192) (i:Nat) (dp:Int) (o1 o:Option Nat) (hP:RefP toks cs en 62 i dp o1) (h1:o1=none → o=none) (h2:∀ k,o1=some k → RChain toks cs en 62 ⟨#[124,124]⟩ dp k o):RefP toks cs en 42 i dp o:=by
 intro g w0 w pl hI hB
 have HI:=Aside0.mk hI
 have HB:=Aside0.mk hB
 have HP:=Aside0.mk hP
 have H1:=Aside0.mk h1
 have H2:=Aside0.mk h2
 clear hI hB hP h1 h2
 go_enter Tryz.func42,Tryz.ntmps42
 have a1:∀ o:Obj,IsS76 w0 (w.alloc o) g toks cs i en dp 0 pl:=fun o=>HI.out.alloc o
 have a2:∀ o:Obj,Below w0.heap.size w0 (w.alloc o):=fun o=>HB.out.alloc HB.out.size o
 have HA1:=Aside0.mk a1
 have HA2:=Aside0.mk a2
 clear a1 a2
 go_wp2_with (first | (go_at_call 62;(refine (HP.out g w0 _ pl (HA1.out _) (HA2.out _)).mono ?_);rintro e_ w1 ⟨l,v1,i1,dp1,er1,pl1,rfl,hi,hf,hb,hk,hr⟩;obtain ⟨A1,cp1,rfl⟩:=Kd.R_slice hr;have HI1:=Aside0.mk hi;have HF1:=Aside0.mk hf;have HB1:=Aside0.mk hb;have HK1:=Aside0.mk hk;have HR1:=Aside0.mk hr;clear hi hf hb hk hr))
 have hz1:w.heap.size + 1 ≤ w1.heap.size:=by have:=HK1.out.1;simpa using this
 have HZ1:=Aside0.mk hz1
 have hr0:w1.heap[w.heap.size]? = some (.cells #[.int .u8 0,.string ⟨#[]⟩,.int .i64 0,.slice none 0 0] 24 (0,0)):=HK1.out.blk (blk_new w _) (by have:=HI.out.lt;omega) (by simp)
 have HR0:=Aside0.mk hr0
 clear hz1 hr0
 go_loopw [] (fun wr=>∃ (l:S24) (j dp' er pl':Int) (v:Value),RcAt toks cs en 62 ⟨#[124,124]⟩ dp o j dp' er ∧ IsS76 w0 wr g toks cs j en dp' er pl' ∧ Below w0.heap.size w0 wr ∧ KeepBut w wr g none ∧ wr.heap[w1.heap.size]? = some (.cells #[.int .u8 l.f0,.string l.f1,.int .i64 l.f2,v] 24 (0,0)) ∧ wr.heap[w.heap.size]? = some (.cells #[.int .u8 0,.string ⟨#[]⟩,.int .i64 0,.slice none 0 0] 24 (0,0)) ∧ Kd.R k24 24 wr w.heap.size (fun k=>k ≠ w.heap.size ∧ k ≠ w1.heap.size) v l.f3) (fun wr=>rdMu wr g)
 case atStart =>
  refine ⟨l,i1,dp1,er1,pl1,.slice A1 l.f3.length cp1,finR_at HF1.out H1.out H2.out,HI1.out.alloc _,HB1.out.alloc HB1.out.size _,?_,blk_new _ _,blk_alloc HR0.out _,?_⟩
  ·exact keep_alloc ((keep_alloc (KeepBut.refl w g none) _).trans HK1.out (.inl rfl)) _
  ·refine Kd.R_mono (Kd.R_alloc (Kd.R_lower (Kd.R_bound HR1.out) (by simp)) _) (fun k hk=>?_)
   have q1:=hk.2.1
   have q2:=hk.2.2.1
   have q3:(w.alloc (.cells #[.int .u8 0,.string ⟨#[]⟩,.int .i64 0,.slice none 0 0] 24)).heap.size=w.heap.size + 1:=by simp
   rw [q3] at q1
   exact ⟨by omega,by omega⟩
 case round =>
  obtain ⟨l,j,dp',er,pl',v,hC,hI,hB,hK,hb1,hb0,hR⟩:=hrel
  obtain ⟨A2,cp2,rfl⟩:=Kd.R_slice hR
  have HIr:=Aside0.mk hI
  have HBr:=Aside0.mk hB
  have HKr:=Aside0.mk hK
  have HR:=Aside0.mk hR
  have Hb1:=Aside0.mk hb1
  have Hb0:=Aside0.mk hb0
  by_cases hgo:er=0 ∧ ∃ jn:Nat,j=jn ∧ isB toks jn ⟨#[124,124]⟩=true
  case neg =>
   have hs:vouchref16_reader_is.f toks cs j en dp' er pl' ⟨#[124,124]⟩=some (false,j,en,dp',er,pl') ∧ FinR o dp j dp' er:=by
    rcases hC with ⟨rfl,rfl⟩ | ⟨rfl,rfl,jn,rfl,hc⟩
    ·exact ⟨is_wrong _ _ _ _ _ _ _ _ (by omega),rfl⟩
    ·have hn:isB toks jn ⟨#[124,124]⟩=false:=Bool.eq_false_iff.mpr fun h=>hgo ⟨rfl,jn,rfl,h⟩
     refine ⟨by rw [is_b,hn],?_⟩
     cases hc with
     | stop _ _=>exact ⟨rfl,rfl,rfl⟩
     | more _ _ _ h=>rw [hn] at h;cases h
   have HS:=Aside0.mk hs.1
   have HF:=Aside0.mk hs.2
   clear hI hB hK hR hb1 hb0 hs hC hgo
   go_wp2_with (first | (go_at_call 63;(refine (vouchref16_reader_is.calls g toks cs _ en dp' er pl' ⟨#[124,124]⟩ false _ en dp' er pl' w0 _ HIr.out HBr.out HS.out).mono ?_);rintro e_ w3 ⟨rfl,hi,hb,hk⟩;have f1:=hk.blk Hb1.out (by have:=HIr.out.ne_blk Hb1.out (by decide);omega) (by simp);have f0:=hk.blk Hb0.out (by have:=HIr.out.ne_blk Hb0.out (by decide);omega) (by simp);have c0:=blk_cell f1 0;have c1:=blk_cell f1 1;have c2:=blk_cell f1 2;have c3:=blk_cell f1 3;have d0:=blk_cell f0 0;have d1:=blk_cell f0 1;have d2:=blk_cell f0 2;have d3:=blk_cell f0 3;have k0:=blk_frozen f0 0;have k1:=blk_frozen f0 1;have k2:=blk_frozen f0 2;have k3:=blk_frozen f0 3;have F0:=Aside0.mk f0;have HI3:=Aside0.mk hi;have HB3:=Aside0.mk hb;have HK3:=Aside0.mk hk;clear f0 f1 hi hb hk))
   have hkw:=HKr.out.trans HK3.out (.inl rfl)
   have hR3:=Kd.R_keep (Kd.R_mono (Kd.R_bound HR.out) (fun k hk=>(⟨hk.1,hk.2.1⟩:(k ≠ w.heap.size ∧ k ≠ w1.heap.size) ∧ w.heap.size ≤ k))) HK3.out (fun k hk=>by have:=HI.out.lt;omega)
   obtain ⟨o1,o2,o3,o4,o5⟩:=lic_outR (r:=l) HI3.out HB3.out hkw F0.out (Kd.R_mono hR3 (fun k hk=>hk.1.1)) HB.out.size HI.out.lt
   have e0:=blk_cell o5 0
   have e1:=blk_cell o5 1
   have e2:=blk_cell o5 2
   have e3:=blk_cell o5 3
   unfold four at e0 e1 e2 e3
   refine bodyPost_ret (v:=.agg #[.int .u8 l.f0,.string l.f1,.int .i64 l.f2,.slice A2 l.f3.length cp2]) ?_ rfl ⟨l,_,_,_,_,_,rfl,o1,HF.out,o2,o3,o4⟩
   simp [results,Tryz.results42,go_sem,e0,e1,e2,e3]
  case pos =>
   obtain ⟨rfl,jn,rfl,hs⟩:=hgo
   obtain ⟨o2,hj,hp,hn,hlt,hch,hdp⟩:∃ o2:Option Nat,jn < toks.length ∧ RefP toks cs en 62 (jn + 1) dp o2 ∧ (o2=none → o=none) ∧ (∀ k,o2=some k → jn < k) ∧ (∀ k,o2=some k → RChain toks cs en 62 ⟨#[124,124]⟩ dp k o) ∧ dp' = dp:=by
    rcases hC with ⟨h,-⟩ | ⟨-,h5,jn',h6,hc⟩
    ·exact absurd h (by omega)
    ·obtain rfl:jn=jn':=by omega
     cases hc with
     | stop _ h=>rw [hs] at h;cases h
     | more _ o2 _ _ a b c d e=>exact ⟨o2,a,b,c,d,e,h5⟩
   subst hdp
   have HS:=Aside0.mk (show vouchref16_reader_is.f toks cs jn en dp' 0 pl' ⟨#[124,124]⟩=some (true,(jn:Int),en,dp',0,pl') by rw [is_b,hs])
   have HP2:=Aside0.mk hp
   have HJ:=Aside0.mk hj
   have HN2:=Aside0.mk hn
   have HL2:=Aside0.mk hlt
   have HC2:=Aside0.mk hch
   have q4:IntKind.i64.wrap ((jn:Int) + 1)=((jn + 1:Nat):Int):=IntWalk.i64_in _ (by omega)
   clear hI hB hK hR hb1 hb0 hs hp hj hn hlt hch hC
   go_wp2_with (first | (go_at_call 63;(refine (vouchref16_reader_is.calls g toks cs _ en dp' 0 pl' ⟨#[124,124]⟩ true _ en dp' 0 pl' w0 _ HIr.out HBr.out HS.out).mono ?_);rintro e_ w3 ⟨rfl,hi,hb,hk⟩;have f1:=hk.blk Hb1.out (by have:=HIr.out.ne_blk Hb1.out (by decide);omega) (by simp);have f0:=hk.blk Hb0.out (by have:=HIr.out.ne_blk Hb0.out (by decide);omega) (by simp);have F0:=Aside0.mk f0;have F1:=Aside0.mk f1;have HI3:=Aside0.mk hi;have HB3:=Aside0.mk hb;have HK3:=Aside0.mk hk;obtain ⟨A0',c0',A1',c1',hG,-,-,-⟩:=hi;have g2:=cellS76_2 hG;have gf:=blk_frozen hG 2;clear f0 f1 hG hb hk) | (go_at_call 62;(refine (HP2.out g w0 _ pl' (HI3.out.set_2 _) (HB3.out.setCell HI.out.ge _)).mono ?_);rintro e_ w4 ⟨m,v2,i4,dp4,er4,pl4,rfl,hi,hf,hb,hk,hr⟩;obtain ⟨A3,cp3,rfl⟩:=Kd.R_slice hr;have HI4:=Aside0.mk hi;have HF4:=Aside0.mk hf;have HB4:=Aside0.mk hb;have HK4:=Aside0.mk hk;have HR4:=Aside0.mk hr;have x10:=hk.blk (blk_far F1.out (p:=⟨g,2,none⟩) (by have:=HIr.out.ne_blk Hb1.out (by decide);simp only;omega) (.int .i64 ((jn + 1:Nat):Int))) (by have:=HIr.out.ne_blk Hb1.out (by decide);omega) (by simp);have x0:=hk.blk (blk_far F0.out (p:=⟨g,2,none⟩) (by have:=HIr.out.ne_blk Hb0.out (by decide);simp only;omega) (.int .i64 ((jn + 1:Nat):Int))) (by have:=HIr.out.ne_blk Hb0.out (by decide);omega) (by simp);have y0:=fun o=>blk_cell (blk_alloc x10 o) 0;have y1:=fun o=>blk_cell (blk_alloc x10 o) 1;have y2:=fun o=>blk_cell (blk_alloc x10 o) 2;have y3:=fun o=>blk_cell (blk_alloc x10 o) 3;have r0:=blk_cell (b3t 24 w4 (.int .u8 m.f0) (.string m.f1) (.int .i64 m.f2) (.slice A3 m.f3.length cp3)) 0;have r1:=blk_cell (b3t 24 w4 (.int .u8 m.f0) (.string m.f1) (.int .i64 m.f2) (.slice A3 m.f3.length cp3)) 1;have r2:=blk_cell (b3t 24 w4 (.int .u8 m.f0) (.string m.f1) (.int .i64 m.f2) (.slice A3 m.f3.length cp3)) 2;have r3:=blk_cell (b3t 24 w4 (.int .u8 m.f0) (.string m.f1) (.int .i64 m.f2) (.slice A3 m.f3.length cp3)) 3;have z0:=fun o o2=>blk_cell (blk_alloc (blk_alloc x10 o) o2) 0;have z1:=fun o o2=>blk_cell (blk_alloc (blk_alloc x10 o) o2) 1;have z2:=fun o o2=>blk_cell (blk_alloc (blk_alloc x10 o) o2) 2;have z3:=fun o o2=>blk_cell (blk_alloc (blk_alloc x10 o) o2) 3;have h0:=fun o o2=>blk_frozen (blk_alloc (blk_alloc x10 o) o2) 0;have h1:=fun o o2=>blk_frozen (blk_alloc (blk_alloc x10 o) o2) 1;have h2:=fun o o2=>blk_frozen (blk_alloc (blk_alloc x10 o) o2) 2;have h3:=fun o o2=>blk_frozen (blk_alloc (blk_alloc x10 o) o2) 3;have X10:=Aside0.mk x10;have X0:=Aside0.mk x0;clear hi hf hb hk hr x10 x0))
   have zr:wr.heap.size ≤ w3.heap.size:=HK3.out.1
   have zw:w.heap.size ≤ wr.heap.size:=HKr.out.1
   have zc:(w3.setCell ⟨g,2,none⟩ (.int .i64 ((jn + 1:Nat):Int))).heap.size=w3.heap.size:=by simp
   have z4:w3.heap.size ≤ w4.heap.size:=by have:=HK4.out.1;rw [zc] at this;exact this
   have gl:=HI.out.lt
   have hz1:=HZ1.out
   have hn1:w1.heap.size < wr.heap.size:=blk_lt Hb1.out
   have sM:(w4.alloc (.cells #[.int .u8 m.f0,.string m.f1,.int .i64 m.f2,.slice A3 m.f3.length cp3] 24)).heap.size=w4.heap.size + 1:=by simp
   have hl:Kd.R k24 24 (w4.alloc (.cells #[.int .u8 m.f0,.string m.f1,.int .i64 m.f2,.slice A3 m.f3.length cp3] 24)) w.heap.size (fun k=>k ≠ w.heap.size ∧ k ≠ w1.heap.size) (.slice A2 l.f3.length cp2) l.f3:=by
    have q:=Kd.R_mono (Kd.R_bound HR.out) (fun k hk=>(⟨hk.1,hk.2.1,hk.2.2.1⟩:(k ≠ w.heap.size ∧ k ≠ w1.heap.size) ∧ w.heap.size ≤ k ∧ k < wr.heap.size))
    have q2:=Kd.R_keep q HK3.out (fun k hk=>by omega)
    have q3:=Kd.R_keep (Kd.R_far (p:=⟨g,2,none⟩) q2 (fun k hk=>by simp only;omega) (.int .i64 ((jn + 1:Nat):Int))) HK4.out (fun k hk=>by omega)
    exact Kd.R_mono (Kd.R_alloc q3 _) (fun k hk=>hk.1)
   have hm':Kd.R k24 24 (w4.alloc (.cells #[.int .u8 m.f0,.string m.f1,.int .i64 m.f2,.slice A3 m.f3.length cp3] 24)) w.heap.size (fun k=>k ≠ w.heap.size ∧ k ≠ w1.heap.size) (.slice A3 m.f3.length cp3) m.f3:=by
    have q:=HR4.out
    rw [zc] at q
    have q2:=Kd.R_mono (Kd.R_bound q) (fun k hk=>(hk.2.1:w3.heap.size ≤ k))
    exact Kd.R_mono (Kd.R_lower (Kd.R_alloc q2 _) (by omega)) (fun k hk=>by omega)
   have hp:=pair_row hl hm' (by rw [sM];omega) (by rw [sM];omega)
   rw [sM] at hp
   have hI7:=((HI4.out.alloc (.cells #[.int .u8 m.f0,.string m.f1,.int .i64 m.f2,.slice A3 m.f3.length cp3] 24)).alloc (.cells #[.int .u8 l.f0,.string l.f1,.int .i64 l.f2,.slice A2 l.f3.length cp2,.int .u8 m.f0,.string m.f1,.int .i64 m.f2,.slice A3 m.f3.length cp3] 24)).four (by omega:g ≠ w1.heap.size) (.int .u8 3) (.string ⟨#[]⟩) (.int .i64 0) (.slice (some ⟨w4.heap.size + 1,0,none⟩) 2 2)
   refine ⟨⟨⟨3,⟨#[]⟩,0,[l,m]⟩,i4,dp4,er4,pl4,.slice (some ⟨w4.heap.size + 1,0,none⟩) 2 2,finR_at HF4.out HN2.out HC2.out,hI7,?_,?_,four_at (blk_alloc (blk_alloc X10.out _) _) _ _ _ _,four_far (blk_alloc (blk_alloc X0.out _) _) (by omega) _ _ _ _,R_four hp (fun k hk=>hk.2) _ _ _ _⟩,?_⟩
   ·exact below_four ((HB4.out.alloc HB4.out.size _).alloc (by rw [sM];have:=HB4.out.size;omega) _) (by have:=HB.out.size;omega) _ _ _ _
   ·exact keep_four (keep_alloc (keep_alloc ((((HKr.out.trans HK3.out (.inl rfl)).set_ _ _)).trans HK4.out (.inl rfl)) _) _) (by omega) _ _ _ _
   ·have e1:=hI7.at_eq
    have e2:=hI7.er_eq
    have e3:=HIr.out.at_eq
    have e4:=HIr.out.er_eq
    have hj:=HJ.out
    have hf:=HF4.out
    have hlt:=HL2.out
    unfold four at e1 e2
    unfold rdMu
    rw [e1,e2,e3,e4,if_pos rfl]
    cases o2 with
    | none=>rw [if_neg (by have:er4=3:=hf;omega)];omega
    | some k =>
     obtain ⟨f1,f2,f3⟩:=hf
     have:=hlt k rfl
     rw [if_pos f3];omega
end Go.Proofs.YtjapfefiaijfcaaGreatDoor.Q
namespace Go.Proofs.YtjapfefiaijfcaaGreatDoor.Q
open Go.RowKit Go.Proofs.YtjapfefiaijfcaaGreatDoorW.PrintWords Go.Proofs.YtjapfefiaijfcaaGreatDoorW.PrintLast Go.Proofs.YtjapfefiaijfcaaGreatDoorW.PrintMore
set_option linter.unusedVariables false
set_option maxHeartbeats 8000000 in
set_option maxRecDepth 100000 in
theorem ref_one_str.calls (toks:List S70) (cs:List S138) (en:Int) (i:Nat) (dp:Int) (x:S70) (hi:i < toks.length) (hm:toks.length ≤ 8192) (hx:x=rd_T70 toks i) (hk:x.f0=4):RefP toks cs en 87 i dp (some (i + 1)):=by
 intro g w0 w pl hI hB
 have HI:=Aside0.mk hI
 have HB:=Aside0.mk hB
 have HX:=Aside0.mk hx
 have q1:decide ((i:Int) < (toks.length:Int))=true:=decide_eq_true (by omega)
 have q2:decide ((toks.length:Int) ≤ (i:Int))=false:=decide_eq_false (by omega)
 have q3:decide (toks.length ≤ i)=false:=decide_eq_false (by omega)
 have q4:IntKind.i64.wrap ((i:Int) + 1)=(i:Int) + 1:=IntWalk.i64_in _ (by omega)
 obtain ⟨A0,c0,A1,c1,hG,hge,hS0,hS1⟩:=hI
 obtain ⟨ad,e0,x0,x1,x2,x3⟩:=at_T70 hS0 (i:Int) (by omega) (by omega)
 subst e0
 rw [← hx] at x0 x1 x2 x3
 rw [hk] at x0
 replace x0:=pw_cell_below hB x0
 replace x1:=pw_cell_below hB x1
 replace x2:=pw_cell_below hB x2
 replace x3:=pw_cell_below hB x3
 have p1:(0 ≤ (i:Int))=True:=eq_true (by omega)
 have p2:((i:Int) < (toks.length:Int))=True:=eq_true (by omega)
 have p3:(i < toks.length)=True:=eq_true hi
 have g0:=cellS76_0 hG
 have g2:=cellS76_2 hG
 have g5:=cellS76_5 hG
 have HG:=Aside0.mk hG
 have HLT:=Aside0.mk hi
 clear hG hge hS0 hS1 hB hx hi
 have up:∀ (o:Obj) {a:Addr} {v:Value},w.cell? a=some v → (w.alloc o).cell? a=some v:=fun o {a} {v} h=>pw_cell_below ((Below.refl _ w).alloc (Nat.le_refl _) o) h
 have m0:=fun o=>up o g0
 have m2:=fun o=>up o g2
 have m5:=fun o=>up o g5
 have y0:=fun o=>up o x0
 have y1:=fun o=>up o x1
 have y2:=fun o=>up o x2
 have y3:=fun o=>up o x3
 clear up
 go_enter Tryz.func87,Tryz.ntmps87
 go_wp2_with (fail)
 go_quiet (fail)
 go_wp2_with (fail)
 generalize hW:(w.alloc (.cells #[.int .u8 0,.string ⟨#[]⟩,.int .i64 0,.slice none 0 0] 24)).drewN _=W
 have m0':W.cell? ⟨g,0,none⟩=some (.slice (some ad) toks.length c0):=by rw [← hW];exact m0 _
 have m2':W.cell? ⟨g,2,none⟩=some (.int .i64 i):=by rw [← hW];exact m2 _
 have y0':W.cell? (ad.add (i * 4))=some (.int .u8 4):=by rw [← hW];exact y0 _
 have y1':W.cell? ⟨(ad.add (i * 4)).block,(ad.add (i * 4)).off + 1,none⟩=some (.string x.f1):=by rw [← hW];exact y1 _
 have y2':W.cell? ⟨(ad.add (i * 4)).block,(ad.add (i * 4)).off + 2,none⟩=some (.int .i64 x.f2):=by rw [← hW];exact y2 _
 have y3':W.cell? ⟨(ad.add (i * 4)).block,(ad.add (i * 4)).off + 3,none⟩=some (.int .i64 x.f3):=by rw [← hW];exact y3 _
 have HW:=Aside0.mk hW
 have up2:∀ (o:Obj) {a:Addr} {v:Value},W.cell? a=some v → (W.alloc o).cell? a=some v:=fun o {a} {v} h=>pw_cell_below ((Below.refl _ W).alloc (Nat.le_refl _) o) h
 have m0'':=fun o=>up2 o m0'
 have m2'':=fun o=>up2 o m2'
 have y0'':=fun o=>up2 o y0'
 have y1'':=fun o=>up2 o y1'
 have y2'':=fun o=>up2 o y2'
 have y3'':=fun o=>up2 o y3'
 clear hW m0 m2 m5 y0 y1 y2 y3 up2
 go_region
 generalize hW2:(W.alloc (.cells #[.int .u8 4,.string x.f1,.int .i64 x.f2,.int .i64 x.f3] 70)).drew=W2
 have b1:W2.heap[W.heap.size]? = some (.cells #[.int .u8 4,.string x.f1,.int .i64 x.f2,.int .i64 x.f3] 70 (0,0)):=by rw [← hW2];exact blk_new W _
 have B1:Below w.heap.size w W:=by rw [← HW.out];exact pw_below_drewN ((Below.refl _ w).alloc (Nat.le_refl _) _) _
 have s1:W.heap.size=w.heap.size + 1:=by rw [← HW.out];simp
 have HS1:=Aside0.mk s1
 have B2:Below w.heap.size w W2:=by rw [← hW2];exact below_drew1 (B1.alloc B1.size _)
 have b2:W2.heap[w.heap.size]? = some (.cells #[.int .u8 0,.string ⟨#[]⟩,.int .i64 0,.slice none 0 0] 24 (0,0)):=by
  rw [← hW2]
  refine blk_drew (blk_alloc ?_ _)
  rw [← HW.out];exact blk_drewN (blk_new w _) _
 have IW2:IsS76 w0 W2 g toks cs i en dp 0 pl:=HI.out.below B2
 have hG:=(B2.block g HI.out.lt).trans HG.out
 have c1:=blk_cell b1 0
 have c2:=blk_cell b1 1
 have c3:=cellS76_2 hG
 have c4:=blk_frozen hG 2
 have gl:=HI.out.lt
 have n1:g ≠ W.heap.size:=by omega
 have HI2:=Aside0.mk IW2
 have Hb1:=Aside0.mk b1
 have Hb2:=Aside0.mk b2
 have HB2:=Aside0.mk B2
 have HBw:=Aside0.mk (HB.out.trans (B2.mono HB.out.size))
 have c5:(W2.setCell ⟨g,2,none⟩ (.int .i64 ((i:Int) + 1))).cell? ⟨W.heap.size,1,none⟩=some (.string x.f1):=(blk_cell (blk_far b1 (by simp only;omega) _) 1).trans rfl
 have b3:(W2.setCell ⟨g,2,none⟩ (.int .i64 ((i:Int) + 1))).heap[w.heap.size]? = _:=blk_far b2 (by simp only;omega) _
 have r0:=blk_cell b3 0
 have r1:=blk_cell b3 1
 have r2:=blk_cell b3 2
 have r3:=blk_cell b3 3
 have k0:=blk_frozen b3 0
 have k1:=blk_frozen b3 1
 have k2:=blk_frozen b3 2
 have k3:=blk_frozen b3 3
 have Hb3:=Aside0.mk b3
 clear b3
 clear s1 hG b1 b2 B1 B2 IW2 m0' m2' y0' y1' y2' y3' m0'' m2'' y0'' y1'' y2'' y3'' g0 g2 g5 x0 x1 x2 x3 hW2
 go_wp2_with (fail)
 obtain ⟨o1,o2,o3,o4,o5⟩:=lic_outR (r:=⟨1,x.f1,0,[]⟩) (w:=w) (HI2.out.set_2 ((i:Int) + 1)) (HBw.out.setCell HI.out.ge _) ((KeepBut.of_below HB2.out g none).set_ _ _) Hb3.out (Kd.R_nil _ _ _ _ _) HB.out.size HI.out.lt
 have e0:=blk_cell o5 0
 have e1:=blk_cell o5 1
 have e2:=blk_cell o5 2
 have e3:=blk_cell o5 3
 unfold four at e0 e1 e2 e3
 refine bodyPost_ret (v:=.agg #[.int .u8 1,.string x.f1,.int .i64 0,.slice none 0 0]) ?_ rfl ⟨⟨1,x.f1,0,[]⟩,_,_,_,_,_,rfl,o1,⟨by omega,rfl,rfl⟩,o2,o3,o4⟩
 simp [results,Tryz.results87,go_sem,e0,e1,e2,e3]
set_option maxHeartbeats 8000000 in
set_option maxRecDepth 100000 in
theorem ref_one_of.calls (toks:List S70) (cs:List S138) (en:Int) (i:Nat) (dp:Int) (x:S70) (hi:i < toks.length) (hm:toks.length ≤ 8192) (hx:x=rd_T70 toks i) (hk:x.f0=5) (o:Option Nat) (hP:RefP toks cs en 112 i dp o):RefP toks cs en 87 i dp o:=by
 have HP:=Aside0.mk hP
 clear hP
 intro g w0 w pl hI hB
 have HI:=Aside0.mk hI
 have HB:=Aside0.mk hB
 have HX:=Aside0.mk hx
 have q1:decide ((i:Int) < (toks.length:Int))=true:=decide_eq_true (by omega)
 have q2:decide ((toks.length:Int) ≤ (i:Int))=false:=decide_eq_false (by omega)
 have q3:decide (toks.length ≤ i)=false:=decide_eq_false (by omega)
 have q4:IntKind.i64.wrap ((i:Int) + 1)=(i:Int) + 1:=IntWalk.i64_in _ (by omega)
 obtain ⟨A0,c0,A1,c1,hG,hge,hS0,hS1⟩:=hI
 obtain ⟨ad,e0,x0,x1,x2,x3⟩:=at_T70 hS0 (i:Int) (by omega) (by omega)
 subst e0
 rw [← hx] at x0 x1 x2 x3
 rw [hk] at x0
 replace x0:=pw_cell_below hB x0
 replace x1:=pw_cell_below hB x1
 replace x2:=pw_cell_below hB x2
 replace x3:=pw_cell_below hB x3
 have p1:(0 ≤ (i:Int))=True:=eq_true (by omega)
 have p2:((i:Int) < (toks.length:Int))=True:=eq_true (by omega)
 have p3:(i < toks.length)=True:=eq_true hi
 have g0:=cellS76_0 hG
 have g2:=cellS76_2 hG
 have g5:=cellS76_5 hG
 have HG:=Aside0.mk hG
 have HLT:=Aside0.mk hi
 clear hG hge hS0 hS1 hB hx hi
 have up:∀ (o:Obj) {a:Addr} {v:Value},w.cell? a=some v → (w.alloc o).cell? a=some v:=fun o {a} {v} h=>pw_cell_below ((Below.refl _ w).alloc (Nat.le_refl _) o) h
 have m0:=fun o=>up o g0
 have m2:=fun o=>up o g2
 have m5:=fun o=>up o g5
 have y0:=fun o=>up o x0
 have y1:=fun o=>up o x1
 have y2:=fun o=>up o x2
 have y3:=fun o=>up o x3
 clear up
 go_enter Tryz.func87,Tryz.ntmps87
 go_wp2_with (fail)
 go_quiet (fail)
 go_wp2_with (fail)
 generalize hW:(w.alloc (.cells #[.int .u8 0,.string ⟨#[]⟩,.int .i64 0,.slice none 0 0] 24)).drewN _=W
 have m0':W.cell? ⟨g,0,none⟩=some (.slice (some ad) toks.length c0):=by rw [← hW];exact m0 _
 have m2':W.cell? ⟨g,2,none⟩=some (.int .i64 i):=by rw [← hW];exact m2 _
 have y0':W.cell? (ad.add (i * 4))=some (.int .u8 5):=by rw [← hW];exact y0 _
 have y1':W.cell? ⟨(ad.add (i * 4)).block,(ad.add (i * 4)).off + 1,none⟩=some (.string x.f1):=by rw [← hW];exact y1 _
 have y2':W.cell? ⟨(ad.add (i * 4)).block,(ad.add (i * 4)).off + 2,none⟩=some (.int .i64 x.f2):=by rw [← hW];exact y2 _
 have y3':W.cell? ⟨(ad.add (i * 4)).block,(ad.add (i * 4)).off + 3,none⟩=some (.int .i64 x.f3):=by rw [← hW];exact y3 _
 have HW:=Aside0.mk hW
 have up2:∀ (o:Obj) {a:Addr} {v:Value},W.cell? a=some v → (W.alloc o).cell? a=some v:=fun o {a} {v} h=>pw_cell_below ((Below.refl _ W).alloc (Nat.le_refl _) o) h
 have m0'':=fun o=>up2 o m0'
 have m2'':=fun o=>up2 o m2'
 have y0'':=fun o=>up2 o y0'
 have y1'':=fun o=>up2 o y1'
 have y2'':=fun o=>up2 o y2'
 have y3'':=fun o=>up2 o y3'
 clear hW m0 m2 m5 y0 y1 y2 y3 up2
 go_region
 generalize hW2:(W.alloc (.cells #[.int .u8 5,.string x.f1,.int .i64 x.f2,.int .i64 x.f3] 70)).drew=W2
 have b1:W2.heap[W.heap.size]? = some (.cells #[.int .u8 5,.string x.f1,.int .i64 x.f2,.int .i64 x.f3] 70 (0,0)):=by rw [← hW2];exact blk_new W _
 have B1:Below w.heap.size w W:=by rw [← HW.out];exact pw_below_drewN ((Below.refl _ w).alloc (Nat.le_refl _) _) _
 have s1:W.heap.size=w.heap.size + 1:=by rw [← HW.out];simp
 have HS1:=Aside0.mk s1
 have B2:Below w.heap.size w W2:=by rw [← hW2];exact below_drew1 (B1.alloc B1.size _)
 have b2:W2.heap[w.heap.size]? = some (.cells #[.int .u8 0,.string ⟨#[]⟩,.int .i64 0,.slice none 0 0] 24 (0,0)):=by
  rw [← hW2]
  refine blk_drew (blk_alloc ?_ _)
  rw [← HW.out];exact blk_drewN (blk_new w _) _
 have IW2:IsS76 w0 W2 g toks cs i en dp 0 pl:=HI.out.below B2
 have hG:=(B2.block g HI.out.lt).trans HG.out
 have c1:=blk_cell b1 0
 have c2:=blk_cell b1 1
 have c3:=cellS76_2 hG
 have c4:=blk_frozen hG 2
 have gl:=HI.out.lt
 have n1:g ≠ W.heap.size:=by omega
 have HI2:=Aside0.mk IW2
 have Hb1:=Aside0.mk b1
 have Hb2:=Aside0.mk b2
 have HB2:=Aside0.mk B2
 have HBw:=Aside0.mk (HB.out.trans (B2.mono HB.out.size))
 clear s1 hG b1 b2 B1 B2 IW2 m0' m2' y0' y1' y2' y3' m0'' m2'' y0'' y1'' y2'' y3'' g0 g2 g5 x0 x1 x2 x3 hW2
 go_wp2_with (first | (go_at_call 112;(refine (HP.out g w0 _ pl HI2.out HBw.out).mono ?_);rintro e_ w3 ⟨l,v,i3,dp3,er3,pl3,rfl,hi,hf,hb,hk,hr⟩;obtain ⟨A2,cp2,rfl⟩:=Kd.R_slice hr;have HI3:=Aside0.mk hi;have HF3:=Aside0.mk hf;have HB3:=Aside0.mk hb;have HK3:=Aside0.mk hk;have HR3:=Aside0.mk hr;have f0:=hk.blk Hb2.out (by have:=HI.out.lt;omega) (by simp);have r0:=blk_cell f0 0;have r1:=blk_cell f0 1;have r2:=blk_cell f0 2;have r3:=blk_cell f0 3;have k0:=blk_frozen f0 0;have k1:=blk_frozen f0 1;have k2:=blk_frozen f0 2;have k3:=blk_frozen f0 3;have F0:=Aside0.mk f0;clear f0 hi hf hb hk hr))
 have zb:=HB2.out.size
 have hr:=Kd.R_mono (Kd.R_bound HR3.out) (fun k hk=>(hk.2.1:W2.heap.size ≤ k))
 have zl:=blk_lt Hb2.out
 obtain ⟨o1,o2,o3,o4,o5⟩:=lic_outR (r:=l) (w:=w) HI3.out HB3.out ((KeepBut.of_below HB2.out g none).trans HK3.out (.inl rfl)) F0.out (Kd.R_mono (Kd.R_lower hr zb) (fun k hk=>by omega)) HB.out.size HI.out.lt
 have e0:=blk_cell o5 0
 have e1:=blk_cell o5 1
 have e2:=blk_cell o5 2
 have e3:=blk_cell o5 3
 unfold four at e0 e1 e2 e3
 refine bodyPost_ret (v:=.agg #[.int .u8 l.f0,.string l.f1,.int .i64 l.f2,.slice A2 l.f3.length cp2]) ?_ rfl ⟨l,_,_,_,_,_,rfl,o1,HF3.out,o2,o3,o4⟩
 simp [results,Tryz.results87,go_sem,e0,e1,e2,e3]
set_option maxHeartbeats 8000000 in
set_option maxRecDepth 100000 in
theorem ref_one_lim.calls (toks:List S70) (cs:List S138) (en:Int) (i:Nat) (x:S70) (hi:i < toks.length) (hm:toks.length ≤ 8192) (hx:x=rd_T70 toks i) (hk:x.f0=6) (ht:x.f1=⟨#[40]⟩) (hs:isB toks i ⟨#[40]⟩=true):RefP toks cs en 87 i 64 none:=by
 have HS:=Aside0.mk hs
 have HM:=Aside0.mk hm
 clear hs
 intro g w0 w pl hI hB
 have HI:=Aside0.mk hI
 have HB:=Aside0.mk hB
 have HX:=Aside0.mk hx
 have q1:decide ((i:Int) < (toks.length:Int))=true:=decide_eq_true (by omega)
 have q2:decide ((toks.length:Int) ≤ (i:Int))=false:=decide_eq_false (by omega)
 have q3:decide (toks.length ≤ i)=false:=decide_eq_false (by omega)
 have q4:IntKind.i64.wrap ((i:Int) + 1)=(i:Int) + 1:=IntWalk.i64_in _ (by omega)
 obtain ⟨A0,c0,A1,c1,hG,hge,hS0,hS1⟩:=hI
 obtain ⟨ad,e0,x0,x1,x2,x3⟩:=at_T70 hS0 (i:Int) (by omega) (by omega)
 subst e0
 rw [← hx] at x0 x1 x2 x3
 rw [hk] at x0 ;rw [ht] at x1
 replace x0:=pw_cell_below hB x0
 replace x1:=pw_cell_below hB x1
 replace x2:=pw_cell_below hB x2
 replace x3:=pw_cell_below hB x3
 have p1:(0 ≤ (i:Int))=True:=eq_true (by omega)
 have p2:((i:Int) < (toks.length:Int))=True:=eq_true (by omega)
 have p3:(i < toks.length)=True:=eq_true hi
 have g0:=cellS76_0 hG
 have g2:=cellS76_2 hG
 have g5:=cellS76_5 hG
 have HG:=Aside0.mk hG
 have HLT:=Aside0.mk hi
 clear hG hge hS0 hS1 hB hx hi
 have up:∀ (o:Obj) {a:Addr} {v:Value},w.cell? a=some v → (w.alloc o).cell? a=some v:=fun o {a} {v} h=>pw_cell_below ((Below.refl _ w).alloc (Nat.le_refl _) o) h
 have m0:=fun o=>up o g0
 have m2:=fun o=>up o g2
 have m5:=fun o=>up o g5
 have y0:=fun o=>up o x0
 have y1:=fun o=>up o x1
 have y2:=fun o=>up o x2
 have y3:=fun o=>up o x3
 clear up
 go_enter Tryz.func87,Tryz.ntmps87
 go_wp2_with (fail)
 go_quiet (fail)
 go_wp2_with (fail)
 generalize hW:(w.alloc (.cells #[.int .u8 0,.string ⟨#[]⟩,.int .i64 0,.slice none 0 0] 24)).drewN _=W
 have m0':W.cell? ⟨g,0,none⟩=some (.slice (some ad) toks.length c0):=by rw [← hW];exact m0 _
 have m2':W.cell? ⟨g,2,none⟩=some (.int .i64 i):=by rw [← hW];exact m2 _
 have y0':W.cell? (ad.add (i * 4))=some (.int .u8 6):=by rw [← hW];exact y0 _
 have y1':W.cell? ⟨(ad.add (i * 4)).block,(ad.add (i * 4)).off + 1,none⟩=some (.string ⟨#[40]⟩):=by rw [← hW];exact y1 _
 have y2':W.cell? ⟨(ad.add (i * 4)).block,(ad.add (i * 4)).off + 2,none⟩=some (.int .i64 x.f2):=by rw [← hW];exact y2 _
 have y3':W.cell? ⟨(ad.add (i * 4)).block,(ad.add (i * 4)).off + 3,none⟩=some (.int .i64 x.f3):=by rw [← hW];exact y3 _
 have HW:=Aside0.mk hW
 have up2:∀ (o:Obj) {a:Addr} {v:Value},W.cell? a=some v → (W.alloc o).cell? a=some v:=fun o {a} {v} h=>pw_cell_below ((Below.refl _ W).alloc (Nat.le_refl _) o) h
 have m0'':=fun o=>up2 o m0'
 have m2'':=fun o=>up2 o m2'
 have y0'':=fun o=>up2 o y0'
 have y1'':=fun o=>up2 o y1'
 have y2'':=fun o=>up2 o y2'
 have y3'':=fun o=>up2 o y3'
 clear hW m0 m2 m5 y0 y1 y2 y3 up2
 go_region
 generalize hW2:(W.alloc (.cells #[.int .u8 6,.string ⟨#[40]⟩,.int .i64 x.f2,.int .i64 x.f3] 70)).drew=W2
 have b1:W2.heap[W.heap.size]? = some (.cells #[.int .u8 6,.string ⟨#[40]⟩,.int .i64 x.f2,.int .i64 x.f3] 70 (0,0)):=by rw [← hW2];exact blk_new W _
 have B1:Below w.heap.size w W:=by rw [← HW.out];exact pw_below_drewN ((Below.refl _ w).alloc (Nat.le_refl _) _) _
 have s1:W.heap.size=w.heap.size + 1:=by rw [← HW.out];simp
 have HS1:=Aside0.mk s1
 have B2:Below w.heap.size w W2:=by rw [← hW2];exact below_drew1 (B1.alloc B1.size _)
 have b2:W2.heap[w.heap.size]? = some (.cells #[.int .u8 0,.string ⟨#[]⟩,.int .i64 0,.slice none 0 0] 24 (0,0)):=by
  rw [← hW2]
  refine blk_drew (blk_alloc ?_ _)
  rw [← HW.out];exact blk_drewN (blk_new w _) _
 have IW2:IsS76 w0 W2 g toks cs i en 64 0 pl:=HI.out.below B2
 have hG:=(B2.block g HI.out.lt).trans HG.out
 have c1:=blk_cell b1 0
 have c2:=blk_cell b1 1
 have c3:=cellS76_2 hG
 have c4:=blk_frozen hG 2
 have gl:=HI.out.lt
 have n1:g ≠ W.heap.size:=by omega
 have HI2:=Aside0.mk IW2
 have Hb1:=Aside0.mk b1
 have Hb2:=Aside0.mk b2
 have HB2:=Aside0.mk B2
 have HBw:=Aside0.mk (HB.out.trans (B2.mono HB.out.size))
 clear s1 hG b1 b2 B1 B2 IW2 m0' m2' y0' y1' y2' y3' m0'' m2'' y0'' y1'' y2'' y3'' g0 g2 g5 x0 x1 x2 x3 hW2
 go_wp2_with (first | (go_at_call 113;(refine (ref_open_lim.calls g toks cs i en pl HLT.out HM.out (by rw [is_b,HS.out]) w0 _ HI2.out HBw.out).mono ?_);rintro e_ w3 ⟨rfl,hi,hb,hk⟩;have HI3:=Aside0.mk hi;have HB3:=Aside0.mk hb;have HK3:=Aside0.mk hk;have f0:=hk.blk Hb2.out (by have:=HI.out.lt;omega) (by simp);have r0:=blk_cell f0 0;have r1:=blk_cell f0 1;have r2:=blk_cell f0 2;have r3:=blk_cell f0 3;have k0:=blk_frozen f0 0;have k1:=blk_frozen f0 1;have k2:=blk_frozen f0 2;have k3:=blk_frozen f0 3;have F0:=Aside0.mk f0;clear f0 hi hb hk))
 obtain ⟨o1,o2,o3,o4,o5⟩:=lic_outR (r:=⟨0,⟨#[]⟩,0,[]⟩) (w:=w) HI3.out HB3.out ((KeepBut.of_below HB2.out g none).trans HK3.out (.inl rfl)) F0.out (Kd.R_nil _ _ _ _ _) HB.out.size HI.out.lt
 have e0:=blk_cell o5 0
 have e1:=blk_cell o5 1
 have e2:=blk_cell o5 2
 have e3:=blk_cell o5 3
 unfold four at e0 e1 e2 e3
 refine bodyPost_ret (v:=.agg #[.int .u8 0,.string ⟨#[]⟩,.int .i64 0,.slice none 0 0]) ?_ rfl ⟨⟨0,⟨#[]⟩,0,[]⟩,_,_,_,_,_,rfl,o1,rfl,o2,o3,o4⟩
 simp [results,Tryz.results87,go_sem,e0,e1,e2,e3]
set_option maxHeartbeats 8000000 in
set_option maxRecDepth 100000 in
theorem ref_one_par.calls (toks:List S70) (cs:List S138) (en:Int) (i:Nat) (dp:Int) (x:S70) (hi:i < toks.length) (hm:toks.length ≤ 8192) (hx:x=rd_T70 toks i) (hk:x.f0=6) (ht:x.f1=⟨#[40]⟩) (hs:isB toks i ⟨#[40]⟩=true) (h0:0 ≤ dp) (h6:dp < 64) (j:Nat) (hj:j < toks.length) (hP:RefP toks cs en 42 (i + 1) (dp + 1) (some j)) (hc:isB toks j ⟨#[41]⟩=true):RefP toks cs en 87 i dp (some (j + 1)):=by
 have HS:=Aside0.mk hs
 have HM:=Aside0.mk hm
 have H0:=Aside0.mk h0
 have H6:=Aside0.mk h6
 have HP:=Aside0.mk hP
 have HJ:=Aside0.mk hj
 have HC:=Aside0.mk hc
 clear hj hc
 clear hs h0 h6 hP
 intro g w0 w pl hI hB
 have HI:=Aside0.mk hI
 have HB:=Aside0.mk hB
 have HX:=Aside0.mk hx
 have q1:decide ((i:Int) < (toks.length:Int))=true:=decide_eq_true (by omega)
 have q2:decide ((toks.length:Int) ≤ (i:Int))=false:=decide_eq_false (by omega)
 have q3:decide (toks.length ≤ i)=false:=decide_eq_false (by omega)
 have q4:IntKind.i64.wrap ((i:Int) + 1)=(i:Int) + 1:=IntWalk.i64_in _ (by omega)
 obtain ⟨A0,c0,A1,c1,hG,hge,hS0,hS1⟩:=hI
 obtain ⟨ad,e0,x0,x1,x2,x3⟩:=at_T70 hS0 (i:Int) (by omega) (by omega)
 subst e0
 rw [← hx] at x0 x1 x2 x3
 rw [hk] at x0 ;rw [ht] at x1
 replace x0:=pw_cell_below hB x0
 replace x1:=pw_cell_below hB x1
 replace x2:=pw_cell_below hB x2
 replace x3:=pw_cell_below hB x3
 have p1:(0 ≤ (i:Int))=True:=eq_true (by omega)
 have p2:((i:Int) < (toks.length:Int))=True:=eq_true (by omega)
 have p3:(i < toks.length)=True:=eq_true hi
 have g0:=cellS76_0 hG
 have g2:=cellS76_2 hG
 have g5:=cellS76_5 hG
 have HG:=Aside0.mk hG
 have HLT:=Aside0.mk hi
 clear hG hge hS0 hS1 hB hx hi
 have up:∀ (o:Obj) {a:Addr} {v:Value},w.cell? a=some v → (w.alloc o).cell? a=some v:=fun o {a} {v} h=>pw_cell_below ((Below.refl _ w).alloc (Nat.le_refl _) o) h
 have m0:=fun o=>up o g0
 have m2:=fun o=>up o g2
 have m5:=fun o=>up o g5
 have y0:=fun o=>up o x0
 have y1:=fun o=>up o x1
 have y2:=fun o=>up o x2
 have y3:=fun o=>up o x3
 clear up
 go_enter Tryz.func87,Tryz.ntmps87
 go_wp2_with (fail)
 go_quiet (fail)
 go_wp2_with (fail)
 generalize hW:(w.alloc (.cells #[.int .u8 0,.string ⟨#[]⟩,.int .i64 0,.slice none 0 0] 24)).drewN _=W
 have m0':W.cell? ⟨g,0,none⟩=some (.slice (some ad) toks.length c0):=by rw [← hW];exact m0 _
 have m2':W.cell? ⟨g,2,none⟩=some (.int .i64 i):=by rw [← hW];exact m2 _
 have y0':W.cell? (ad.add (i * 4))=some (.int .u8 6):=by rw [← hW];exact y0 _
 have y1':W.cell? ⟨(ad.add (i * 4)).block,(ad.add (i * 4)).off + 1,none⟩=some (.string ⟨#[40]⟩):=by rw [← hW];exact y1 _
 have y2':W.cell? ⟨(ad.add (i * 4)).block,(ad.add (i * 4)).off + 2,none⟩=some (.int .i64 x.f2):=by rw [← hW];exact y2 _
 have y3':W.cell? ⟨(ad.add (i * 4)).block,(ad.add (i * 4)).off + 3,none⟩=some (.int .i64 x.f3):=by rw [← hW];exact y3 _
 have HW:=Aside0.mk hW
 have up2:∀ (o:Obj) {a:Addr} {v:Value},W.cell? a=some v → (W.alloc o).cell? a=some v:=fun o {a} {v} h=>pw_cell_below ((Below.refl _ W).alloc (Nat.le_refl _) o) h
 have m0'':=fun o=>up2 o m0'
 have m2'':=fun o=>up2 o m2'
 have y0'':=fun o=>up2 o y0'
 have y1'':=fun o=>up2 o y1'
 have y2'':=fun o=>up2 o y2'
 have y3'':=fun o=>up2 o y3'
 clear hW m0 m2 m5 y0 y1 y2 y3 up2
 go_region
 generalize hW2:(W.alloc (.cells #[.int .u8 6,.string ⟨#[40]⟩,.int .i64 x.f2,.int .i64 x.f3] 70)).drew=W2
 have b1:W2.heap[W.heap.size]? = some (.cells #[.int .u8 6,.string ⟨#[40]⟩,.int .i64 x.f2,.int .i64 x.f3] 70 (0,0)):=by rw [← hW2];exact blk_new W _
 have B1:Below w.heap.size w W:=by rw [← HW.out];exact pw_below_drewN ((Below.refl _ w).alloc (Nat.le_refl _) _) _
 have s1:W.heap.size=w.heap.size + 1:=by rw [← HW.out];simp
 have HS1:=Aside0.mk s1
 have B2:Below w.heap.size w W2:=by rw [← hW2];exact below_drew1 (B1.alloc B1.size _)
 have b2:W2.heap[w.heap.size]? = some (.cells #[.int .u8 0,.string ⟨#[]⟩,.int .i64 0,.slice none 0 0] 24 (0,0)):=by
  rw [← hW2]
  refine blk_drew (blk_alloc ?_ _)
  rw [← HW.out];exact blk_drewN (blk_new w _) _
 have IW2:IsS76 w0 W2 g toks cs i en dp 0 pl:=HI.out.below B2
 have hG:=(B2.block g HI.out.lt).trans HG.out
 have c1:=blk_cell b1 0
 have c2:=blk_cell b1 1
 have c3:=cellS76_2 hG
 have c4:=blk_frozen hG 2
 have gl:=HI.out.lt
 have n1:g ≠ W.heap.size:=by omega
 have HI2:=Aside0.mk IW2
 have Hb1:=Aside0.mk b1
 have Hb2:=Aside0.mk b2
 have HB2:=Aside0.mk B2
 have HBw:=Aside0.mk (HB.out.trans (B2.mono HB.out.size))
 clear s1 hG b1 b2 B1 B2 IW2 m0' m2' y0' y1' y2' y3' m0'' m2'' y0'' y1'' y2'' y3'' g0 g2 g5 x0 x1 x2 x3 hW2
 go_wp2_with (first | (go_at_call 113;(refine (ref_open.calls g toks cs i en dp pl HLT.out HM.out H0.out H6.out (by rw [is_b,HS.out]) w0 _ HI2.out HBw.out).mono ?_);rintro e_ w3 ⟨rfl,hi,hb,hk⟩;have HI3:=Aside0.mk hi;have HB3:=Aside0.mk hb;have HK3:=Aside0.mk hk;have f0:=hk.blk Hb2.out (by have:=HI.out.lt;omega) (by simp);have F3:=Aside0.mk f0;clear f0 hi hb hk) | (go_at_call 42;(refine (HP.out g w0 _ pl HI3.out HB3.out).mono ?_);rintro e_ w4 ⟨l,v,i4,dp4,er4,pl4,rfl,hi,hf,hb,hk,hr⟩;obtain ⟨A2,cp2,rfl⟩:=Kd.R_slice hr;have HI4:=Aside0.mk (hi.alloc (.cells #[.int .u8 l.f0,.string l.f1,.int .i64 l.f2,.slice A2 l.f3.length cp2] 24));have HF4:=Aside0.mk hf;have HB4:=Aside0.mk (hb.alloc hb.size (.cells #[.int .u8 l.f0,.string l.f1,.int .i64 l.f2,.slice A2 l.f3.length cp2] 24));have HK4:=Aside0.mk (keep_alloc hk (.cells #[.int .u8 l.f0,.string l.f1,.int .i64 l.f2,.slice A2 l.f3.length cp2] 24));have HR4:=Aside0.mk (Kd.R_alloc (Kd.R_bound hr) (.cells #[.int .u8 l.f0,.string l.f1,.int .i64 l.f2,.slice A2 l.f3.length cp2] 24));have f4:=blk_alloc (hk.blk F3.out (by have:=HI.out.lt;omega) (by simp)) (.cells #[.int .u8 l.f0,.string l.f1,.int .i64 l.f2,.slice A2 l.f3.length cp2] 24);have F4:=Aside0.mk f4;have HN4:=Aside0.mk (b3t 24 w4 (.int .u8 l.f0) (.string l.f1) (.int .i64 l.f2) (.slice A2 l.f3.length cp2));clear f4 hi hf hb hk hr) | (go_at_call 114;obtain ⟨rfl,rfl,rfl⟩:=HF4.out;(refine (ref_shut.calls g toks cs j en (dp + 1) pl4 HJ.out HM.out (by have:=H0.out;omega) (by have:=H6.out;omega) (by rw [is_b,HC.out]) w0 _ HI4.out HB4.out).mono ?_);rintro e_ w5 ⟨rfl,hi,hb,hk⟩;have HI5:=Aside0.mk hi;have HB5:=Aside0.mk hb;have HK5:=Aside0.mk hk;have f0:=hk.blk F4.out (by have:=HI.out.lt;omega) (by simp);have r0:=blk_cell f0 0;have r1:=blk_cell f0 1;have r2:=blk_cell f0 2;have r3:=blk_cell f0 3;have k0:=blk_frozen f0 0;have k1:=blk_frozen f0 1;have k2:=blk_frozen f0 2;have k3:=blk_frozen f0 3;have F0:=Aside0.mk f0;have f9:=hk.blk HN4.out (by have:=HI4.out.ne_blk HN4.out (by decide);omega) (by simp);have s0:=blk_cell f9 0;have s1:=blk_cell f9 1;have s2:=blk_cell f9 2;have s3:=blk_cell f9 3;clear f0 f9 hi hb hk))
 have zb:=HB2.out.size
 have zl:=blk_lt Hb2.out
 have z3:W2.heap.size ≤ w3.heap.size:=HK3.out.1
 have hr:=Kd.R_mono HR4.out (fun k hk=>(hk.2:w3.heap.size ≤ k ∧ k < w4.heap.size ∧ _).1)
 have hr5:=Kd.R_keep hr HK5.out (fun k hk=>by have:=HI.out.lt;omega)
 obtain ⟨o1,o2,o3,o4,o5⟩:=lic_outR (r:=l) (w:=w) HI5.out HB5.out ((((KeepBut.of_below HB2.out g none).trans HK3.out (.inl rfl)).trans HK4.out (.inl rfl)).trans HK5.out (.inl rfl)) F0.out (Kd.R_mono (Kd.R_lower hr5 (by omega)) (fun k hk=>by omega)) HB.out.size HI.out.lt
 have e0:=blk_cell o5 0
 have e1:=blk_cell o5 1
 have e2:=blk_cell o5 2
 have e3:=blk_cell o5 3
 unfold four at e0 e1 e2 e3
 refine bodyPost_ret (v:=.agg #[.int .u8 l.f0,.string l.f1,.int .i64 l.f2,.slice A2 l.f3.length cp2]) ?_ rfl ⟨l,_,_,_,_,_,rfl,o1,⟨by omega,by omega,rfl⟩,o2,o3,o4⟩
 simp [results,Tryz.results87,go_sem,e0,e1,e2,e3]
set_option maxHeartbeats 8000000 in
set_option maxRecDepth 100000 in
theorem ref_one_no.calls (toks:List S70) (cs:List S138) (en:Int) (i:Nat) (dp:Int) (x:S70) (hi:i < toks.length) (hm:toks.length ≤ 8192) (hx:x=rd_T70 toks i) (hk:x.f0=6) (ht:x.f1=⟨#[40]⟩) (hs:isB toks i ⟨#[40]⟩=true) (h0:0 ≤ dp) (h6:dp < 64) (hP:RefP toks cs en 42 (i + 1) (dp + 1) none):RefP toks cs en 87 i dp none:=by
 have HS:=Aside0.mk hs
 have HM:=Aside0.mk hm
 have H0:=Aside0.mk h0
 have H6:=Aside0.mk h6
 have HP:=Aside0.mk hP
 clear hs h0 h6 hP
 intro g w0 w pl hI hB
 have HI:=Aside0.mk hI
 have HB:=Aside0.mk hB
 have HX:=Aside0.mk hx
 have q1:decide ((i:Int) < (toks.length:Int))=true:=decide_eq_true (by omega)
 have q2:decide ((toks.length:Int) ≤ (i:Int))=false:=decide_eq_false (by omega)
 have q3:decide (toks.length ≤ i)=false:=decide_eq_false (by omega)
 have q4:IntKind.i64.wrap ((i:Int) + 1)=(i:Int) + 1:=IntWalk.i64_in _ (by omega)
 obtain ⟨A0,c0,A1,c1,hG,hge,hS0,hS1⟩:=hI
 obtain ⟨ad,e0,x0,x1,x2,x3⟩:=at_T70 hS0 (i:Int) (by omega) (by omega)
 subst e0
 rw [← hx] at x0 x1 x2 x3
 rw [hk] at x0 ;rw [ht] at x1
 replace x0:=pw_cell_below hB x0
 replace x1:=pw_cell_below hB x1
 replace x2:=pw_cell_below hB x2
 replace x3:=pw_cell_below hB x3
 have p1:(0 ≤ (i:Int))=True:=eq_true (by omega)
 have p2:((i:Int) < (toks.length:Int))=True:=eq_true (by omega)
 have p3:(i < toks.length)=True:=eq_true hi
 have g0:=cellS76_0 hG
 have g2:=cellS76_2 hG
 have g5:=cellS76_5 hG
 have HG:=Aside0.mk hG
 have HLT:=Aside0.mk hi
 clear hG hge hS0 hS1 hB hx hi
 have up:∀ (o:Obj) {a:Addr} {v:Value},w.cell? a=some v → (w.alloc o).cell? a=some v:=fun o {a} {v} h=>pw_cell_below ((Below.refl _ w).alloc (Nat.le_refl _) o) h
 have m0:=fun o=>up o g0
 have m2:=fun o=>up o g2
 have m5:=fun o=>up o g5
 have y0:=fun o=>up o x0
 have y1:=fun o=>up o x1
 have y2:=fun o=>up o x2
 have y3:=fun o=>up o x3
 clear up
 go_enter Tryz.func87,Tryz.ntmps87
 go_wp2_with (fail)
 go_quiet (fail)
 go_wp2_with (fail)
 generalize hW:(w.alloc (.cells #[.int .u8 0,.string ⟨#[]⟩,.int .i64 0,.slice none 0 0] 24)).drewN _=W
 have m0':W.cell? ⟨g,0,none⟩=some (.slice (some ad) toks.length c0):=by rw [← hW];exact m0 _
 have m2':W.cell? ⟨g,2,none⟩=some (.int .i64 i):=by rw [← hW];exact m2 _
 have y0':W.cell? (ad.add (i * 4))=some (.int .u8 6):=by rw [← hW];exact y0 _
 have y1':W.cell? ⟨(ad.add (i * 4)).block,(ad.add (i * 4)).off + 1,none⟩=some (.string ⟨#[40]⟩):=by rw [← hW];exact y1 _
 have y2':W.cell? ⟨(ad.add (i * 4)).block,(ad.add (i * 4)).off + 2,none⟩=some (.int .i64 x.f2):=by rw [← hW];exact y2 _
 have y3':W.cell? ⟨(ad.add (i * 4)).block,(ad.add (i * 4)).off + 3,none⟩=some (.int .i64 x.f3):=by rw [← hW];exact y3 _
 have HW:=Aside0.mk hW
 have up2:∀ (o:Obj) {a:Addr} {v:Value},W.cell? a=some v → (W.alloc o).cell? a=some v:=fun o {a} {v} h=>pw_cell_below ((Below.refl _ W).alloc (Nat.le_refl _) o) h
 have m0'':=fun o=>up2 o m0'
 have m2'':=fun o=>up2 o m2'
 have y0'':=fun o=>up2 o y0'
 have y1'':=fun o=>up2 o y1'
 have y2'':=fun o=>up2 o y2'
 have y3'':=fun o=>up2 o y3'
 clear hW m0 m2 m5 y0 y1 y2 y3 up2
 go_region
 generalize hW2:(W.alloc (.cells #[.int .u8 6,.string ⟨#[40]⟩,.int .i64 x.f2,.int .i64 x.f3] 70)).drew=W2
 have b1:W2.heap[W.heap.size]? = some (.cells #[.int .u8 6,.string ⟨#[40]⟩,.int .i64 x.f2,.int .i64 x.f3] 70 (0,0)):=by rw [← hW2];exact blk_new W _
 have B1:Below w.heap.size w W:=by rw [← HW.out];exact pw_below_drewN ((Below.refl _ w).alloc (Nat.le_refl _) _) _
 have s1:W.heap.size=w.heap.size + 1:=by rw [← HW.out];simp
 have HS1:=Aside0.mk s1
 have B2:Below w.heap.size w W2:=by rw [← hW2];exact below_drew1 (B1.alloc B1.size _)
 have b2:W2.heap[w.heap.size]? = some (.cells #[.int .u8 0,.string ⟨#[]⟩,.int .i64 0,.slice none 0 0] 24 (0,0)):=by
  rw [← hW2]
  refine blk_drew (blk_alloc ?_ _)
  rw [← HW.out];exact blk_drewN (blk_new w _) _
 have IW2:IsS76 w0 W2 g toks cs i en dp 0 pl:=HI.out.below B2
 have hG:=(B2.block g HI.out.lt).trans HG.out
 have c1:=blk_cell b1 0
 have c2:=blk_cell b1 1
 have c3:=cellS76_2 hG
 have c4:=blk_frozen hG 2
 have gl:=HI.out.lt
 have n1:g ≠ W.heap.size:=by omega
 have HI2:=Aside0.mk IW2
 have Hb1:=Aside0.mk b1
 have Hb2:=Aside0.mk b2
 have HB2:=Aside0.mk B2
 have HBw:=Aside0.mk (HB.out.trans (B2.mono HB.out.size))
 clear s1 hG b1 b2 B1 B2 IW2 m0' m2' y0' y1' y2' y3' m0'' m2'' y0'' y1'' y2'' y3'' g0 g2 g5 x0 x1 x2 x3 hW2
 go_wp2_with (first | (go_at_call 113;(refine (ref_open.calls g toks cs i en dp pl HLT.out HM.out H0.out H6.out (by rw [is_b,HS.out]) w0 _ HI2.out HBw.out).mono ?_);rintro e_ w3 ⟨rfl,hi,hb,hk⟩;have HI3:=Aside0.mk hi;have HB3:=Aside0.mk hb;have HK3:=Aside0.mk hk;have f0:=hk.blk Hb2.out (by have:=HI.out.lt;omega) (by simp);have F3:=Aside0.mk f0;clear f0 hi hb hk) | (go_at_call 42;(refine (HP.out g w0 _ pl HI3.out HB3.out).mono ?_);rintro e_ w4 ⟨l,v,i4,dp4,er4,pl4,rfl,hi,hf,hb,hk,hr⟩;obtain ⟨A2,cp2,rfl⟩:=Kd.R_slice hr;have HI4:=Aside0.mk (hi.alloc (.cells #[.int .u8 l.f0,.string l.f1,.int .i64 l.f2,.slice A2 l.f3.length cp2] 24));have HF4:=Aside0.mk hf;have HB4:=Aside0.mk (hb.alloc hb.size (.cells #[.int .u8 l.f0,.string l.f1,.int .i64 l.f2,.slice A2 l.f3.length cp2] 24));have HK4:=Aside0.mk (keep_alloc hk (.cells #[.int .u8 l.f0,.string l.f1,.int .i64 l.f2,.slice A2 l.f3.length cp2] 24));have HR4:=Aside0.mk (Kd.R_alloc (Kd.R_bound hr) (.cells #[.int .u8 l.f0,.string l.f1,.int .i64 l.f2,.slice A2 l.f3.length cp2] 24));have f4:=blk_alloc (hk.blk F3.out (by have:=HI.out.lt;omega) (by simp)) (.cells #[.int .u8 l.f0,.string l.f1,.int .i64 l.f2,.slice A2 l.f3.length cp2] 24);have F4:=Aside0.mk f4;have HN4:=Aside0.mk (b3t 24 w4 (.int .u8 l.f0) (.string l.f1) (.int .i64 l.f2) (.slice A2 l.f3.length cp2));clear f4 hi hf hb hk hr) | (go_at_call 114;(refine (ref_shut_no.calls g toks cs i4 en dp4 er4 pl4 (by have h3:er4=3:=HF4.out;omega) w0 _ HI4.out HB4.out).mono ?_);rintro e_ w5 ⟨rfl,hi,hb,hk⟩;have HI5:=Aside0.mk hi;have HB5:=Aside0.mk hb;have HK5:=Aside0.mk hk;have f0:=hk.blk F4.out (by have:=HI.out.lt;omega) (by simp);have r0:=blk_cell f0 0;have r1:=blk_cell f0 1;have r2:=blk_cell f0 2;have r3:=blk_cell f0 3;have k0:=blk_frozen f0 0;have k1:=blk_frozen f0 1;have k2:=blk_frozen f0 2;have k3:=blk_frozen f0 3;have F0:=Aside0.mk f0;have f9:=hk.blk HN4.out (by have:=HI4.out.ne_blk HN4.out (by decide);omega) (by simp);have s0:=blk_cell f9 0;have s1:=blk_cell f9 1;have s2:=blk_cell f9 2;have s3:=blk_cell f9 3;clear f0 f9 hi hb hk))
 have zb:=HB2.out.size
 have zl:=blk_lt Hb2.out
 have z3:W2.heap.size ≤ w3.heap.size:=HK3.out.1
 have hr:=Kd.R_mono HR4.out (fun k hk=>(hk.2:w3.heap.size ≤ k ∧ k < w4.heap.size ∧ _).1)
 have hr5:=Kd.R_keep hr HK5.out (fun k hk=>by have:=HI.out.lt;omega)
 obtain ⟨o1,o2,o3,o4,o5⟩:=lic_outR (r:=l) (w:=w) HI5.out HB5.out ((((KeepBut.of_below HB2.out g none).trans HK3.out (.inl rfl)).trans HK4.out (.inl rfl)).trans HK5.out (.inl rfl)) F0.out (Kd.R_mono (Kd.R_lower hr5 (by omega)) (fun k hk=>by omega)) HB.out.size HI.out.lt
 have e0:=blk_cell o5 0
 have e1:=blk_cell o5 1
 have e2:=blk_cell o5 2
 have e3:=blk_cell o5 3
 unfold four at e0 e1 e2 e3
 refine bodyPost_ret (v:=.agg #[.int .u8 l.f0,.string l.f1,.int .i64 l.f2,.slice A2 l.f3.length cp2]) ?_ rfl ⟨l,_,_,_,_,_,rfl,o1,(show er4=3 from HF4.out),o2,o3,o4⟩
 simp [results,Tryz.results87,go_sem,e0,e1,e2,e3]
end Go.Proofs.YtjapfefiaijfcaaGreatDoor.Q
namespace Go.Proofs.YtjapfefiaijfcaaGreatDoor.Q
open Go.RowKit Go.Proofs.YtjapfefiaijfcaaGreatDoorW.PrintWords Go.Proofs.YtjapfefiaijfcaaGreatDoorW.PrintLast Go.Proofs.YtjapfefiaijfcaaGreatDoorW.PrintMore
set_option linter.unusedVariables false
inductive RArgs (toks:List S70) (cs:List S138) (en dp kk:Int):Nat → Nat → Option Nat → Prop
 | last (n i j:Nat):i < toks.length → j < toks.length → RefP toks cs en 42 i dp (some j) → isB toks j ⟨#[44]⟩=false → isB toks j ⟨#[41]⟩=true → kk ≤ (n:Int) + 1 → RArgs toks cs en dp kk n i (some j)
 | bad (n i:Nat):i < toks.length → RefP toks cs en 42 i dp none → RArgs toks cs en dp kk n i none
 | more (n i j:Nat) (o:Option Nat):i < toks.length → j < toks.length → i ≤ j → RefP toks cs en 42 i dp (some j) → isB toks j ⟨#[44]⟩=true → RArgs toks cs en dp kk (n + 1) (j + 1) o → RArgs toks cs en dp kk n i o
set_option maxHeartbeats 8000000 in
set_option maxRecDepth 100000 in
theorem ref_of_lim.calls (toks:List S70) (cs:List S138) (en:Int) (hm:toks.length ≤ 8192) (i:Nat) (x:S70) (kk:Int) (hi:i + 1 < toks.length) (hx:x=rd_T70 toks i) (hc:∀ w,Calls Tryz.prog 126 #[.string x.f1] w fun e w'=>e = .returned (.int .i64 kk) ∧ Drawn0 w w') (hk:1 ≤ kk) (hs:isB toks (i + 1) ⟨#[40]⟩=true):RefP toks cs en 112 i 64 none:=by
 intro g w0 w pl hI hB
 have HI:=Aside0.mk hI
 have HB:=Aside0.mk hB
 have HX:=Aside0.mk hx
 have HC:=Aside0.mk hc
 have HM:=Aside0.mk hm
 have HS:=Aside0.mk hs
 have HLT:=Aside0.mk hi
 have q4:IntKind.i64.wrap ((i:Int) + 1)=(i:Int) + 1:=IntWalk.i64_in _ (by omega)
 have q5:(kk == 0)=false:=beq_eq_false_iff_ne.mpr (by omega)
 obtain ⟨A0,c0,A1,c1,hG,hge,hS0,hS1⟩:=hI
 obtain ⟨ad,e0,x0,x1,x2,x3⟩:=at_T70 hS0 (i:Int) (by omega) (by omega)
 subst e0
 rw [← hx] at x1
 replace x1:=pw_cell_below hB x1
 rw [Int.toNat_natCast] at x1
 have p1:(0 ≤ (i:Int))=True:=eq_true (by omega)
 have p2:((i:Int) < (toks.length:Int))=True:=eq_true (by omega)
 have p3:(i < toks.length)=True:=eq_true (by omega)
 have g0:=cellS76_0 hG
 have g2:=cellS76_2 hG
 have up:∀ (o:Obj) {a:Addr} {v:Value},w.cell? a=some v → (w.alloc o).cell? a=some v:=fun o {a} {v} h=>pw_cell_below ((Below.refl _ w).alloc (Nat.le_refl _) o) h
 have m0:=fun o=>up o g0
 have m2:=fun o=>up o g2
 have y1:=fun o=>up o x1
 have HG:=Aside0.mk hG
 clear up hG hge hS0 hS1 hB hx x0 x1 x2 x3 g0 g2 hc hs hi hk
 go_enter Tryz.func112,Tryz.ntmps112
 go_wp2_with (fail)
 go_quiet ((refine (HC.out _).mono ?_;rintro e_ w_ ⟨rfl,nd,rfl⟩;exact ⟨rfl,_,World.drewN_drewN _ _ _⟩))
 generalize hW2:(w.alloc (.cells #[.int .u8 0,.string ⟨#[]⟩,.int .i64 0,.slice none 0 0] 24)).drewN _=W2
 have B2:Below w.heap.size w W2:=by rw [← hW2];exact pw_below_drewN ((Below.refl _ w).alloc (Nat.le_refl _) _) _
 have s2:W2.heap.size=w.heap.size + 1:=by rw [← hW2];simp
 have b2:W2.heap[w.heap.size]? = some (.cells #[.int .u8 0,.string ⟨#[]⟩,.int .i64 0,.slice none 0 0] 24 (0,0)):=by rw [← hW2];exact blk_drewN (blk_new w _) _
 have hG:=(B2.block g HI.out.lt).trans HG.out
 have g2:=cellS76_2 hG
 have gf:=blk_frozen hG 2
 have HS2:=Aside0.mk s2
 have HI2:=Aside0.mk ((HI.out.below B2).set_2 ((i:Int) + 1))
 have HB2:=Aside0.mk ((HB.out.trans (B2.mono HB.out.size)).setCell HI.out.ge (.int .i64 ((i:Int) + 1)) (p:=⟨g,2,none⟩))
 have HK2:=Aside0.mk ((KeepBut.of_below B2 g none).set_ 2 (.int .i64 ((i:Int) + 1)))
 have Hb2:=Aside0.mk (blk_far b2 (p:=⟨g,2,none⟩) (by have:=HI.out.lt;simp only;omega) (.int .i64 ((i:Int) + 1)))
 clear s2 B2 b2 hW2 m0 m2 y1 hG
 go_wp2_with (first | (go_at_call 113;(refine (ref_open_lim.calls g toks cs (i + 1) en pl HLT.out HM.out (by rw [is_b,HS.out]) w0 _ HI2.out HB2.out).mono ?_);rintro e_ w3 ⟨rfl,hi,hb,hk⟩;have HI3:=Aside0.mk hi;have HB3:=Aside0.mk hb;have HK3:=Aside0.mk hk;have f0:=hk.blk Hb2.out (by have:=HI.out.lt;omega) (by simp);have r0:=blk_cell f0 0;have r1:=blk_cell f0 1;have r2:=blk_cell f0 2;have r3:=blk_cell f0 3;have k0:=blk_frozen f0 0;have k1:=blk_frozen f0 1;have k2:=blk_frozen f0 2;have k3:=blk_frozen f0 3;have F0:=Aside0.mk f0;clear f0 hi hb hk))
 obtain ⟨o1,o2,o3,o4,o5⟩:=lic_outR (r:=⟨0,⟨#[]⟩,0,[]⟩) (w:=w) HI3.out HB3.out (HK2.out.trans HK3.out (.inl rfl)) F0.out (Kd.R_nil _ _ _ _ _) HB.out.size HI.out.lt
 have e0:=blk_cell o5 0
 have e1:=blk_cell o5 1
 have e2:=blk_cell o5 2
 have e3:=blk_cell o5 3
 unfold four at e0 e1 e2 e3
 refine bodyPost_ret (v:=.agg #[.int .u8 0,.string ⟨#[]⟩,.int .i64 0,.slice none 0 0]) ?_ rfl ⟨⟨0,⟨#[]⟩,0,[]⟩,_,_,_,_,_,rfl,o1,rfl,o2,o3,o4⟩
 simp [results,Tryz.results112,go_sem,e0,e1,e2,e3]
set_option maxHeartbeats 8000000 in
set_option maxRecDepth 100000 in
theorem ref_of.calls (toks:List S70) (cs:List S138) (en:Int) (hm:toks.length ≤ 8192) (i:Nat) (dp:Int) (x:S70) (kk:Int) (o:Option Nat) (hi:i + 1 < toks.length) (hx:x=rd_T70 toks i) (hc:∀ w,Calls Tryz.prog 126 #[.string x.f1] w fun e w'=>e = .returned (.int .i64 kk) ∧ Drawn0 w w') (hk:1 ≤ kk) (hs:isB toks (i + 1) ⟨#[40]⟩=true) (h0:0 ≤ dp) (h6:dp < 64) (hA:RArgs toks cs en (dp + 1) kk 0 (i + 2) o):RefP toks cs en 112 i dp (o.map (· + 1)):=by
 have H0:=Aside0.mk h0
 have H6:=Aside0.mk h6
 have HAr:=Aside0.mk hA
 clear h0 h6 hA
 intro g w0 w pl hI hB
 have HI:=Aside0.mk hI
 have HB:=Aside0.mk hB
 have HX:=Aside0.mk hx
 have HC:=Aside0.mk hc
 have HM:=Aside0.mk hm
 have HS:=Aside0.mk hs
 have HLT:=Aside0.mk hi
 have q4:IntKind.i64.wrap ((i:Int) + 1)=(i:Int) + 1:=IntWalk.i64_in _ (by omega)
 have q5:(kk == 0)=false:=beq_eq_false_iff_ne.mpr (by omega)
 obtain ⟨A0,c0,A1,c1,hG,hge,hS0,hS1⟩:=hI
 obtain ⟨ad,e0,x0,x1,x2,x3⟩:=at_T70 hS0 (i:Int) (by omega) (by omega)
 subst e0
 rw [← hx] at x1
 replace x1:=pw_cell_below hB x1
 rw [Int.toNat_natCast] at x1
 have p1:(0 ≤ (i:Int))=True:=eq_true (by omega)
 have p2:((i:Int) < (toks.length:Int))=True:=eq_true (by omega)
 have p3:(i < toks.length)=True:=eq_true (by omega)
 have g0:=cellS76_0 hG
 have g2:=cellS76_2 hG
 have up:∀ (o:Obj) {a:Addr} {v:Value},w.cell? a=some v → (w.alloc o).cell? a=some v:=fun o {a} {v} h=>pw_cell_below ((Below.refl _ w).alloc (Nat.le_refl _) o) h
 have m0:=fun o=>up o g0
 have m2:=fun o=>up o g2
 have y1:=fun o=>up o x1
 have HG:=Aside0.mk hG
 clear up hG hge hS0 hS1 hB hx x0 x1 x2 x3 g0 g2 hc hs hi hk
 go_enter Tryz.func112,Tryz.ntmps112
 go_wp2_with (fail)
 go_quiet ((refine (HC.out _).mono ?_;rintro e_ w_ ⟨rfl,nd,rfl⟩;exact ⟨rfl,_,World.drewN_drewN _ _ _⟩))
 generalize hW2:(w.alloc (.cells #[.int .u8 0,.string ⟨#[]⟩,.int .i64 0,.slice none 0 0] 24)).drewN _=W2
 have B2:Below w.heap.size w W2:=by rw [← hW2];exact pw_below_drewN ((Below.refl _ w).alloc (Nat.le_refl _) _) _
 have s2:W2.heap.size=w.heap.size + 1:=by rw [← hW2];simp
 have b2:W2.heap[w.heap.size]? = some (.cells #[.int .u8 0,.string ⟨#[]⟩,.int .i64 0,.slice none 0 0] 24 (0,0)):=by rw [← hW2];exact blk_drewN (blk_new w _) _
 have hG:=(B2.block g HI.out.lt).trans HG.out
 have g2:=cellS76_2 hG
 have gf:=blk_frozen hG 2
 have HS2:=Aside0.mk s2
 have HI2:=Aside0.mk ((HI.out.below B2).set_2 ((i:Int) + 1))
 have HB2:=Aside0.mk ((HB.out.trans (B2.mono HB.out.size)).setCell HI.out.ge (.int .i64 ((i:Int) + 1)) (p:=⟨g,2,none⟩))
 have HK2:=Aside0.mk ((KeepBut.of_below B2 g none).set_ 2 (.int .i64 ((i:Int) + 1)))
 have Hb2:=Aside0.mk (blk_far b2 (p:=⟨g,2,none⟩) (by have:=HI.out.lt;simp only;omega) (.int .i64 ((i:Int) + 1)))
 clear s2 B2 b2 hW2 m0 m2 y1 hG
 go_wp2_with (first | (go_at_call 113;(refine (ref_open.calls g toks cs (i + 1) en dp pl HLT.out HM.out H0.out H6.out (by rw [is_b,HS.out]) w0 _ HI2.out HB2.out).mono ?_);rintro e_ w4 ⟨rfl,hi,hb,hk⟩;have HI4:=Aside0.mk hi;have HB4:=Aside0.mk hb;have HK4:=Aside0.mk (HK2.out.trans hk (.inl rfl));have Hb4:=Aside0.mk (hk.blk Hb2.out (by have:=HI.out.lt;omega) (by simp));clear hi hb hk g2 gf))
 have hz4:w.heap.size + 1 ≤ w4.heap.size:=by have q:=blk_lt Hb4.out;omega
 have HN8:=Aside0.mk hz4
 clear hz4
 go_loopw [] (fun wr=>∃ (acc:List S24) (j:Nat) (pl':Int) (v:Value),RArgs toks cs en (dp + 1) kk acc.length j o ∧ acc.length ≤ j ∧ IsS76 w0 wr g toks cs j en (dp + 1) 0 pl' ∧ Below w0.heap.size w0 wr ∧ KeepBut w wr g none ∧ wr.heap[w4.heap.size]? = some (.cells #[.int .u8 4,.string ⟨#[]⟩,.int .i64 kk,v] 24 (0,0)) ∧ wr.heap[w.heap.size]? = some (.cells #[.int .u8 0,.string ⟨#[]⟩,.int .i64 0,.slice none 0 0] 24 (0,0)) ∧ Kd.R k24 24 wr w.heap.size (fun k=>k ≠ w.heap.size ∧ k ≠ w4.heap.size) v acc) (fun wr=>rdMu wr g)
 case atStart =>
  exact ⟨[],i + 2,pl,.slice none 0 0,HAr.out,by simp,HI4.out.alloc _,HB4.out.alloc HB4.out.size _,keep_alloc HK4.out _,blk_new _ _,blk_alloc Hb4.out _,Kd.R_nil _ _ _ _ _⟩
 case round =>
  obtain ⟨acc,j5,pl',v,hA,hac,hI,hB,hK,hb8,hb0,hR⟩:=hrel
  obtain ⟨A2,cp2,rfl⟩:=Kd.R_slice hR
  have HIr:=Aside0.mk hI
  have HBr:=Aside0.mk hB
  have HKr:=Aside0.mk hK
  have HR:=Aside0.mk hR
  have Hb8:=Aside0.mk hb8
  have Hb0:=Aside0.mk hb0
  have HAc:=Aside0.mk hac
  have HZw:=Aside0.mk hK.1
  have HN8w:=Aside0.mk (blk_lt hb8)
  have g5r:=(by obtain ⟨A0',c0',A1',c1',hG,-,-,-⟩:=hI;exact cellS76_5 hG:wr.cell? ⟨g,5,none⟩=some (.int .i64 0))
  cases hA with
  | last _ _ j hi5 hj hp hs1 hs2 hkk =>
   have HP2:=Aside0.mk hp
   have HS1:=Aside0.mk hs1
   have HS2':=Aside0.mk hs2
   have HJ:=Aside0.mk hi5
   have HJj:=Aside0.mk hj
   have u1:decide ((acc.length:Int) + 1 < kk)=false:=decide_eq_false (by omega)
   clear hI hB hK hR hb8 hb0 hp hs1 hs2 hi5 hj hac hkk
   go_wp2_with (first | (go_at_call 42;(refine (HP2.out g w0 _ pl' HIr.out HBr.out).mono ?_);rintro e_ w5 ⟨m,v2,i5,dp5,er5,pl5,rfl,hi,hf,hb,hk,hr⟩;obtain ⟨A3,cp3,rfl⟩:=Kd.R_slice hr;obtain ⟨rfl,rfl,rfl⟩:=hf;have HI5:=Aside0.mk hi;have HB5:=Aside0.mk hb;have HK5:=Aside0.mk hk;have HR5:=Aside0.mk hr;have f8:=hk.blk Hb8.out (by have:=HI.out.lt;have:=HN8.out;omega) (by simp);have f0:=hk.blk Hb0.out (by have:=HI.out.lt;omega) (by simp);have a3:=fun o=>blk_cell (blk_alloc f8 o) 3;have F8:=Aside0.mk f8;have F0:=Aside0.mk f0;have hR5:=Kd.R_keep (Kd.R_mono (Kd.R_bound HR.out) (fun k hk=>(⟨hk.1,hk.2.1,hk.2.2.1⟩:(k ≠ w.heap.size ∧ k ≠ w4.heap.size) ∧ w.heap.size ≤ k ∧ k < wr.heap.size))) hk (fun k hk=>by have:=HI.out.lt;omega);have HRr5:=Aside0.mk hR5;have hN9:wr.heap.size ≤ w5.heap.size:=hk.1;have HN9:=Aside0.mk hN9;clear hi hb hk hr f8 f0 hR5 hN9) | ((with_reducible refine gate_builtin (b:=.append) (xs:=#[.tmp 44,.tmp 46]) rfl ?_);at_builtin;refine Kd.R_append k24 (w0:=w5.alloc (.cells #[.int .u8 m.f0,.string m.f1,.int .i64 m.f2,.slice A3 m.f3.length cp3] 24)) w.heap.size rfl (.tmp 44) (.tmp 46) 22 24 (.agg #[(.int .u8 0),(.string ⟨#[]⟩),(.int .i64 0),(.slice none 0 0)]) 56 rfl Tryz.underlying22 info24 rfl (by decide) (by omega) (.slice A2 acc.length cp2) acc m [.int .u8 m.f0,.string m.f1,.int .i64 m.f2,.slice A3 m.f3.length cp3] (fun k=>k ≠ w.heap.size ∧ k ≠ w4.heap.size ∧ k ≠ w5.heap.size) (fun k=>wr.heap.size ≤ k ∧ k < w5.heap.size) rfl ?aX ?aP ?aK ?aF ?aO ?aB ?aS ?aL ?_;(case aX=>simp [Act.eval]);(case aP=>exact of_aP HR5.out HZw.out _);(case aK=>exact fun k hk=>⟨⟨by have:=HN8.out;have:=HN8w.out;omega,by have:=HN8w.out;omega,by omega⟩,fun e=>by have:=HRr5.out.1 k e.symm;omega⟩);(case aF=>intro k hk;have hk2:w5.heap.size + 1 ≤ k:=(by simpa using hk);have:=HZw.out;have:=HN9.out;have:=HN8w.out;exact ⟨by omega,by omega,by omega⟩);(case aO=>exact Kd.R_mono (Kd.R_alloc HRr5.out _) (fun k hk=>⟨hk.1.1,hk.1.2,by have:=HN9.out;omega⟩));(case aB=>exact Below.refl _ _);(case aS=>have:=HZw.out;have:=HN9.out;simp;omega);(case aL=>have:=HAc.out;have:=HJ.out;omega);intro v1 w6 ho hb hg hat;obtain ⟨A4,cp4,rfl⟩:=Kd.R_slice ho;have f8:=blk_grown (blk_alloc F8.out (.cells #[.int .u8 m.f0,.string m.f1,.int .i64 m.f2,.slice A3 m.f3.length cp3] 24)) hg (Kd.R_away HRr5.out (fun k hk=>hk.1.2));have f0:=blk_grown (blk_alloc F0.out (.cells #[.int .u8 m.f0,.string m.f1,.int .i64 m.f2,.slice A3 m.f3.length cp3] 24)) hg (Kd.R_away HRr5.out (fun k hk=>hk.1.1));rw [List.length_append,List.length_singleton] at ho;have hI6:=(HI5.out.alloc (.cells #[.int .u8 m.f0,.string m.f1,.int .i64 m.f2,.slice A3 m.f3.length cp3] 24)).grown hg (Kd.R_away HRr5.out (fun k hk=>by have:=HI.out.lt;omega));have hB6:=(HB5.out.alloc HB5.out.size (.cells #[.int .u8 m.f0,.string m.f1,.int .i64 m.f2,.slice A3 m.f3.length cp3] 24)).trans (hb.mono HB.out.size);have hK6:=((keep_alloc (HKr.out.trans HK5.out (.inl rfl)) (.cells #[.int .u8 m.f0,.string m.f1,.int .i64 m.f2,.slice A3 m.f3.length cp3] 24)).trans (KeepBut.of_grown hg g) (Kd.R_base2 HRr5.out));have HI7:=Aside0.mk (hI6.far (p:=⟨w4.heap.size,3,none⟩) (by have:=HI.out.lt;have:=HN8.out;simp only;omega) (.slice A4 (acc.length + 1) cp4));have HB7:=Aside0.mk (hB6.setCell (p:=⟨w4.heap.size,3,none⟩) (by have:=HB.out.size;have:=HN8.out;simp only;omega) (.slice A4 (acc.length + 1) cp4));have HK7:=Aside0.mk (keep_far hK6 (p:=⟨w4.heap.size,3,none⟩) (by have:=HN8.out;simp only;omega) (.slice A4 (acc.length + 1) cp4));have HO7:=Aside0.mk (Kd.R_far ho (p:=⟨w4.heap.size,3,none⟩) (fun k hk=>hk.2.1) (.slice A4 (acc.length + 1) cp4));have G8:=Aside0.mk (blk_put f8 3 (.slice A4 (acc.length + 1) cp4) rfl);have G0:=Aside0.mk (blk_far f0 (p:=⟨w4.heap.size,3,none⟩) (by have:=HN8.out;simp only;omega) (.slice A4 (acc.length + 1) cp4));have c3:=blk_cell f8 3;have d3:=blk_frozen f8 3;clear ho hb hg hat f8 f0 hI6 hB6 hK6) | (go_at_call 63;(with_reducible refine (vouchref16_reader_is.calls g toks cs j en (dp + 1) 0 pl5 ⟨#[44]⟩ false j en (dp + 1) 0 pl5 w0 _ HI7.out HB7.out (by rw [is_b,HS1.out])).mono ?_);rintro e_ w8 ⟨rfl,hi,hb,hk⟩;have f8:=hk.blk G8.out (by have:=HI.out.lt;have:=HN8.out;omega) (by simp);have f0:=hk.blk G0.out (by have:=HI.out.lt;omega) (by simp);have hr8:=Kd.R_keep (Kd.R_mono (Kd.R_bound HO7.out) (fun k hk=>(⟨⟨hk.1.1,hk.1.2.1⟩,hk.2.1⟩:(k ≠ w.heap.size ∧ k ≠ w4.heap.size) ∧ w.heap.size ≤ k))) hk (fun k hk=>by have:=HI.out.lt;omega);have HI8:=Aside0.mk hi;have HB8:=Aside0.mk hb;have HK8:=Aside0.mk (HK7.out.trans hk (.inl rfl));have HR8:=Aside0.mk (Kd.R_mono hr8 (fun k hk=>hk.1));have g8:=blk_cell f8 3;have J8:=Aside0.mk f8;have L8:=Aside0.mk f0;clear hi;clear f8 f0 hb hk hr8) | (go_at_call 63;(with_reducible refine (vouchref16_reader_is.calls g toks cs j en (dp + 1) 0 pl5 ⟨#[41]⟩ true j en (dp + 1) 0 pl5 w0 _ HI8.out HB8.out (by rw [is_b,HS2'.out])).mono ?_);rintro e_ w9 ⟨rfl,hi,hb,hk⟩;have f8:=hk.blk J8.out (by have:=HI.out.lt;have:=HN8.out;omega) (by simp);have f0:=hk.blk L8.out (by have:=HI.out.lt;omega) (by simp);have hr9:=Kd.R_keep (Kd.R_mono (Kd.R_bound HR8.out) (fun k hk=>(⟨⟨hk.1.1,hk.1.2⟩,hk.2.1⟩:(k ≠ w.heap.size ∧ k ≠ w4.heap.size) ∧ w.heap.size ≤ k))) hk (fun k hk=>by have:=HI.out.lt;omega);have HI9:=Aside0.mk hi;have HB9:=Aside0.mk hb;have HK9:=Aside0.mk (HK8.out.trans hk (.inl rfl));have HR9:=Aside0.mk (Kd.R_mono hr9 (fun k hk=>hk.1));have g9:=blk_cell f8 3;have J9:=Aside0.mk f8;have L9:=Aside0.mk f0;clear hi;clear f8 f0 hb hk hr9) | (go_at_call 114;(refine (ref_shut.calls g toks cs j en (dp + 1) pl5 HJj.out HM.out (by have:=H0.out;omega) (by have:=H6.out;omega) (by rw [is_b,HS2'.out]) w0 _ HI9.out HB9.out).mono ?_);rintro e_ w10 ⟨rfl,hi,hb,hk⟩;have f8:=hk.blk J9.out (by have:=HI.out.lt;have:=HN8.out;omega) (by simp);have f0:=hk.blk L9.out (by have:=HI.out.lt;omega) (by simp);have hr10:=Kd.R_keep (Kd.R_mono (Kd.R_bound HR9.out) (fun k hk=>(⟨hk.1,hk.2.1⟩:(k ≠ w.heap.size ∧ k ≠ w4.heap.size) ∧ w.heap.size ≤ k))) hk (fun k hk=>by have:=HI.out.lt;omega);have HI10:=Aside0.mk hi;have HB10:=Aside0.mk hb;have HK10:=Aside0.mk (HK9.out.trans hk (.inl rfl));have HR10:=Aside0.mk (Kd.R_mono hr10 (fun k hk=>hk.1.1));have ga0:=blk_cell f8 0;have ga1:=blk_cell f8 1;have ga2:=blk_cell f8 2;have ga3:=blk_cell f8 3;have r0:=blk_cell f0 0;have r1:=blk_cell f0 1;have r2:=blk_cell f0 2;have r3:=blk_cell f0 3;have k0:=blk_frozen f0 0;have k1:=blk_frozen f0 1;have k2:=blk_frozen f0 2;have k3:=blk_frozen f0 3;have F0:=Aside0.mk f0;clear f8 f0 hi hb hk hr10))
   obtain ⟨o1,o2,o3,o4,o5⟩:=lic_outR (r:=⟨4,⟨#[]⟩,kk,acc ++ [m]⟩) HI10.out HB10.out HK10.out F0.out HR10.out HB.out.size HI.out.lt
   have e0:=blk_cell o5 0
   have e1:=blk_cell o5 1
   have e2:=blk_cell o5 2
   have e3:=blk_cell o5 3
   unfold four at e0 e1 e2 e3
   refine bodyPost_ret (v:=.agg #[.int .u8 4,.string ⟨#[]⟩,.int .i64 kk,.slice A4 (acc.length + 1) cp4]) ?_ rfl ⟨⟨4,⟨#[]⟩,kk,acc ++ [m]⟩,_,_,_,_,_,?_,o1,⟨rfl,by omega,rfl⟩,o2,o3,o4⟩
   ·simp [results,Tryz.results112,go_sem,e0,e1,e2,e3]
   ·rfl
  | bad _ _ hi5 hp =>
   have HP2:=Aside0.mk hp
   have HJ:=Aside0.mk hi5
   clear hI hB hK hR hb8 hb0 hp hi5 hac
   go_wp2_with (first | (go_at_call 42;(refine (HP2.out g w0 _ pl' HIr.out HBr.out).mono ?_);rintro e_ w5 ⟨m,v2,i5,dp5,er5,pl5,rfl,hi,hf,hb,hk,hr⟩;obtain ⟨A3,cp3,rfl⟩:=Kd.R_slice hr;obtain rfl:er5=3:=hf;have HI5:=Aside0.mk hi;have HB5:=Aside0.mk hb;have HK5:=Aside0.mk hk;have HR5:=Aside0.mk hr;have f8:=hk.blk Hb8.out (by have:=HI.out.lt;have:=HN8.out;omega) (by simp);have f0:=hk.blk Hb0.out (by have:=HI.out.lt;omega) (by simp);have a3:=fun o=>blk_cell (blk_alloc f8 o) 3;have F8:=Aside0.mk f8;have F0:=Aside0.mk f0;have hR5:=Kd.R_keep (Kd.R_mono (Kd.R_bound HR.out) (fun k hk=>(⟨hk.1,hk.2.1,hk.2.2.1⟩:(k ≠ w.heap.size ∧ k ≠ w4.heap.size) ∧ w.heap.size ≤ k ∧ k < wr.heap.size))) hk (fun k hk=>by have:=HI.out.lt;omega);have HRr5:=Aside0.mk hR5;have hN9:wr.heap.size ≤ w5.heap.size:=hk.1;have HN9:=Aside0.mk hN9;clear hi hb hk hr f8 f0 hR5 hN9) | ((with_reducible refine gate_builtin (b:=.append) (xs:=#[.tmp 44,.tmp 46]) rfl ?_);at_builtin;refine Kd.R_append k24 (w0:=w5.alloc (.cells #[.int .u8 m.f0,.string m.f1,.int .i64 m.f2,.slice A3 m.f3.length cp3] 24)) w.heap.size rfl (.tmp 44) (.tmp 46) 22 24 (.agg #[(.int .u8 0),(.string ⟨#[]⟩),(.int .i64 0),(.slice none 0 0)]) 56 rfl Tryz.underlying22 info24 rfl (by decide) (by omega) (.slice A2 acc.length cp2) acc m [.int .u8 m.f0,.string m.f1,.int .i64 m.f2,.slice A3 m.f3.length cp3] (fun k=>k ≠ w.heap.size ∧ k ≠ w4.heap.size ∧ k ≠ w5.heap.size) (fun k=>wr.heap.size ≤ k ∧ k < w5.heap.size) rfl ?aX ?aP ?aK ?aF ?aO ?aB ?aS ?aL ?_;(case aX=>simp [Act.eval]);(case aP=>exact of_aP HR5.out HZw.out _);(case aK=>exact fun k hk=>⟨⟨by have:=HN8.out;have:=HN8w.out;omega,by have:=HN8w.out;omega,by omega⟩,fun e=>by have:=HRr5.out.1 k e.symm;omega⟩);(case aF=>intro k hk;have hk2:w5.heap.size + 1 ≤ k:=(by simpa using hk);have:=HZw.out;have:=HN9.out;have:=HN8w.out;exact ⟨by omega,by omega,by omega⟩);(case aO=>exact Kd.R_mono (Kd.R_alloc HRr5.out _) (fun k hk=>⟨hk.1.1,hk.1.2,by have:=HN9.out;omega⟩));(case aB=>exact Below.refl _ _);(case aS=>have:=HZw.out;have:=HN9.out;simp;omega);(case aL=>have:=HAc.out;have:=HJ.out;omega);intro v1 w6 ho hb hg hat;obtain ⟨A4,cp4,rfl⟩:=Kd.R_slice ho;have f8:=blk_grown (blk_alloc F8.out (.cells #[.int .u8 m.f0,.string m.f1,.int .i64 m.f2,.slice A3 m.f3.length cp3] 24)) hg (Kd.R_away HRr5.out (fun k hk=>hk.1.2));have f0:=blk_grown (blk_alloc F0.out (.cells #[.int .u8 m.f0,.string m.f1,.int .i64 m.f2,.slice A3 m.f3.length cp3] 24)) hg (Kd.R_away HRr5.out (fun k hk=>hk.1.1));rw [List.length_append,List.length_singleton] at ho;have hI6:=(HI5.out.alloc (.cells #[.int .u8 m.f0,.string m.f1,.int .i64 m.f2,.slice A3 m.f3.length cp3] 24)).grown hg (Kd.R_away HRr5.out (fun k hk=>by have:=HI.out.lt;omega));have hB6:=(HB5.out.alloc HB5.out.size (.cells #[.int .u8 m.f0,.string m.f1,.int .i64 m.f2,.slice A3 m.f3.length cp3] 24)).trans (hb.mono HB.out.size);have hK6:=((keep_alloc (HKr.out.trans HK5.out (.inl rfl)) (.cells #[.int .u8 m.f0,.string m.f1,.int .i64 m.f2,.slice A3 m.f3.length cp3] 24)).trans (KeepBut.of_grown hg g) (Kd.R_base2 HRr5.out));have HI7:=Aside0.mk (hI6.far (p:=⟨w4.heap.size,3,none⟩) (by have:=HI.out.lt;have:=HN8.out;simp only;omega) (.slice A4 (acc.length + 1) cp4));have HB7:=Aside0.mk (hB6.setCell (p:=⟨w4.heap.size,3,none⟩) (by have:=HB.out.size;have:=HN8.out;simp only;omega) (.slice A4 (acc.length + 1) cp4));have HK7:=Aside0.mk (keep_far hK6 (p:=⟨w4.heap.size,3,none⟩) (by have:=HN8.out;simp only;omega) (.slice A4 (acc.length + 1) cp4));have HO7:=Aside0.mk (Kd.R_far ho (p:=⟨w4.heap.size,3,none⟩) (fun k hk=>hk.2.1) (.slice A4 (acc.length + 1) cp4));have G8:=Aside0.mk (blk_put f8 3 (.slice A4 (acc.length + 1) cp4) rfl);have G0:=Aside0.mk (blk_far f0 (p:=⟨w4.heap.size,3,none⟩) (by have:=HN8.out;simp only;omega) (.slice A4 (acc.length + 1) cp4));have c3:=blk_cell f8 3;have d3:=blk_frozen f8 3;clear ho hb hg hat f8 f0 hI6 hB6 hK6) | (go_at_call 63;(with_reducible refine (vouchref16_reader_is.calls g toks cs i5 en dp5 3 pl5 ⟨#[44]⟩ false i5 en dp5 3 pl5 w0 _ HI7.out HB7.out (is_wrong _ _ _ _ _ _ _ _ (by decide))).mono ?_);rintro e_ w8 ⟨rfl,hi,hb,hk⟩;have f8:=hk.blk G8.out (by have:=HI.out.lt;have:=HN8.out;omega) (by simp);have f0:=hk.blk G0.out (by have:=HI.out.lt;omega) (by simp);have hr8:=Kd.R_keep (Kd.R_mono (Kd.R_bound HO7.out) (fun k hk=>(⟨⟨hk.1.1,hk.1.2.1⟩,hk.2.1⟩:(k ≠ w.heap.size ∧ k ≠ w4.heap.size) ∧ w.heap.size ≤ k))) hk (fun k hk=>by have:=HI.out.lt;omega);have HI8:=Aside0.mk hi;have HB8:=Aside0.mk hb;have HK8:=Aside0.mk (HK7.out.trans hk (.inl rfl));have HR8:=Aside0.mk (Kd.R_mono hr8 (fun k hk=>hk.1));have g8:=blk_cell f8 3;have J8:=Aside0.mk f8;have L8:=Aside0.mk f0;clear hi;clear f8 f0 hb hk hr8) | (go_at_call 63;(with_reducible refine (vouchref16_reader_is.calls g toks cs i5 en dp5 3 pl5 ⟨#[41]⟩ false i5 en dp5 3 pl5 w0 _ HI8.out HB8.out (is_wrong _ _ _ _ _ _ _ _ (by decide))).mono ?_);rintro e_ w9 ⟨rfl,hi,hb,hk⟩;have f8:=hk.blk J8.out (by have:=HI.out.lt;have:=HN8.out;omega) (by simp);have f0:=hk.blk L8.out (by have:=HI.out.lt;omega) (by simp);have hr9:=Kd.R_keep (Kd.R_mono (Kd.R_bound HR8.out) (fun k hk=>(⟨⟨hk.1.1,hk.1.2⟩,hk.2.1⟩:(k ≠ w.heap.size ∧ k ≠ w4.heap.size) ∧ w.heap.size ≤ k))) hk (fun k hk=>by have:=HI.out.lt;omega);have HI9:=Aside0.mk hi;have HB9:=Aside0.mk hb;have HK9:=Aside0.mk (HK8.out.trans hk (.inl rfl));have HR9:=Aside0.mk (Kd.R_mono hr9 (fun k hk=>hk.1));have g9:=blk_cell f8 3;have J9:=Aside0.mk f8;have L9:=Aside0.mk f0;clear hi;clear f8 f0 hb hk hr9) | (go_at_call 114;(refine (ref_shut_no.calls g toks cs i5 en dp5 3 pl5 (by decide) w0 _ HI9.out HB9.out).mono ?_);rintro e_ w10 ⟨rfl,hi,hb,hk⟩;have f8:=hk.blk J9.out (by have:=HI.out.lt;have:=HN8.out;omega) (by simp);have f0:=hk.blk L9.out (by have:=HI.out.lt;omega) (by simp);have hr10:=Kd.R_keep (Kd.R_mono (Kd.R_bound HR9.out) (fun k hk=>(⟨hk.1,hk.2.1⟩:(k ≠ w.heap.size ∧ k ≠ w4.heap.size) ∧ w.heap.size ≤ k))) hk (fun k hk=>by have:=HI.out.lt;omega);have HI10:=Aside0.mk hi;have HB10:=Aside0.mk hb;have HK10:=Aside0.mk (HK9.out.trans hk (.inl rfl));have HR10:=Aside0.mk (Kd.R_mono hr10 (fun k hk=>hk.1.1));have ga0:=blk_cell f8 0;have ga1:=blk_cell f8 1;have ga2:=blk_cell f8 2;have ga3:=blk_cell f8 3;have r0:=blk_cell f0 0;have r1:=blk_cell f0 1;have r2:=blk_cell f0 2;have r3:=blk_cell f0 3;have k0:=blk_frozen f0 0;have k1:=blk_frozen f0 1;have k2:=blk_frozen f0 2;have k3:=blk_frozen f0 3;have F0:=Aside0.mk f0;clear f8 f0 hi hb hk hr10))
   obtain ⟨o1,o2,o3,o4,o5⟩:=lic_outR (r:=⟨4,⟨#[]⟩,kk,acc ++ [m]⟩) HI10.out HB10.out HK10.out F0.out HR10.out HB.out.size HI.out.lt
   have e0:=blk_cell o5 0
   have e1:=blk_cell o5 1
   have e2:=blk_cell o5 2
   have e3:=blk_cell o5 3
   unfold four at e0 e1 e2 e3
   refine bodyPost_ret (v:=.agg #[.int .u8 4,.string ⟨#[]⟩,.int .i64 kk,.slice A4 (acc.length + 1) cp4]) ?_ rfl ⟨⟨4,⟨#[]⟩,kk,acc ++ [m]⟩,_,_,_,_,_,?_,o1,rfl,o2,o3,o4⟩
   ·simp [results,Tryz.results112,go_sem,e0,e1,e2,e3]
   ·rfl
  | more _ _ j _ hi5 hj hij hp hs1 hA2 =>
   have HP2:=Aside0.mk hp
   have HS1:=Aside0.mk hs1
   have HJ:=Aside0.mk hi5
   have HJj:=Aside0.mk hj
   have HIj:=Aside0.mk hij
   have HA2:=Aside0.mk hA2
   have q6:IntKind.i64.wrap ((j:Int) + 1)=(j:Int) + 1:=IntWalk.i64_in _ (by omega)
   clear hI hB hK hR hb8 hb0 hp hs1 hi5 hj hij hac hA2
   go_wp2_with (first | (go_at_call 42;(refine (HP2.out g w0 _ pl' HIr.out HBr.out).mono ?_);rintro e_ w5 ⟨m,v2,i5,dp5,er5,pl5,rfl,hi,hf,hb,hk,hr⟩;obtain ⟨A3,cp3,rfl⟩:=Kd.R_slice hr;obtain ⟨rfl,rfl,rfl⟩:=hf;have HI5:=Aside0.mk hi;have HB5:=Aside0.mk hb;have HK5:=Aside0.mk hk;have HR5:=Aside0.mk hr;have f8:=hk.blk Hb8.out (by have:=HI.out.lt;have:=HN8.out;omega) (by simp);have f0:=hk.blk Hb0.out (by have:=HI.out.lt;omega) (by simp);have a3:=fun o=>blk_cell (blk_alloc f8 o) 3;have F8:=Aside0.mk f8;have F0:=Aside0.mk f0;have hR5:=Kd.R_keep (Kd.R_mono (Kd.R_bound HR.out) (fun k hk=>(⟨hk.1,hk.2.1,hk.2.2.1⟩:(k ≠ w.heap.size ∧ k ≠ w4.heap.size) ∧ w.heap.size ≤ k ∧ k < wr.heap.size))) hk (fun k hk=>by have:=HI.out.lt;omega);have HRr5:=Aside0.mk hR5;have hN9:wr.heap.size ≤ w5.heap.size:=hk.1;have HN9:=Aside0.mk hN9;clear hi hb hk hr f8 f0 hR5 hN9) | ((with_reducible refine gate_builtin (b:=.append) (xs:=#[.tmp 44,.tmp 46]) rfl ?_);at_builtin;refine Kd.R_append k24 (w0:=w5.alloc (.cells #[.int .u8 m.f0,.string m.f1,.int .i64 m.f2,.slice A3 m.f3.length cp3] 24)) w.heap.size rfl (.tmp 44) (.tmp 46) 22 24 (.agg #[(.int .u8 0),(.string ⟨#[]⟩),(.int .i64 0),(.slice none 0 0)]) 56 rfl Tryz.underlying22 info24 rfl (by decide) (by omega) (.slice A2 acc.length cp2) acc m [.int .u8 m.f0,.string m.f1,.int .i64 m.f2,.slice A3 m.f3.length cp3] (fun k=>k ≠ w.heap.size ∧ k ≠ w4.heap.size ∧ k ≠ w5.heap.size) (fun k=>wr.heap.size ≤ k ∧ k < w5.heap.size) rfl ?aX ?aP ?aK ?aF ?aO ?aB ?aS ?aL ?_;(case aX=>simp [Act.eval]);(case aP=>exact of_aP HR5.out HZw.out _);(case aK=>exact fun k hk=>⟨⟨by have:=HN8.out;have:=HN8w.out;omega,by have:=HN8w.out;omega,by omega⟩,fun e=>by have:=HRr5.out.1 k e.symm;omega⟩);(case aF=>intro k hk;have hk2:w5.heap.size + 1 ≤ k:=(by simpa using hk);have:=HZw.out;have:=HN9.out;have:=HN8w.out;exact ⟨by omega,by omega,by omega⟩);(case aO=>exact Kd.R_mono (Kd.R_alloc HRr5.out _) (fun k hk=>⟨hk.1.1,hk.1.2,by have:=HN9.out;omega⟩));(case aB=>exact Below.refl _ _);(case aS=>have:=HZw.out;have:=HN9.out;simp;omega);(case aL=>have:=HAc.out;have:=HJ.out;omega);intro v1 w6 ho hb hg hat;obtain ⟨A4,cp4,rfl⟩:=Kd.R_slice ho;have f8:=blk_grown (blk_alloc F8.out (.cells #[.int .u8 m.f0,.string m.f1,.int .i64 m.f2,.slice A3 m.f3.length cp3] 24)) hg (Kd.R_away HRr5.out (fun k hk=>hk.1.2));have f0:=blk_grown (blk_alloc F0.out (.cells #[.int .u8 m.f0,.string m.f1,.int .i64 m.f2,.slice A3 m.f3.length cp3] 24)) hg (Kd.R_away HRr5.out (fun k hk=>hk.1.1));rw [List.length_append,List.length_singleton] at ho;have hI6:=(HI5.out.alloc (.cells #[.int .u8 m.f0,.string m.f1,.int .i64 m.f2,.slice A3 m.f3.length cp3] 24)).grown hg (Kd.R_away HRr5.out (fun k hk=>by have:=HI.out.lt;omega));have hB6:=(HB5.out.alloc HB5.out.size (.cells #[.int .u8 m.f0,.string m.f1,.int .i64 m.f2,.slice A3 m.f3.length cp3] 24)).trans (hb.mono HB.out.size);have hK6:=((keep_alloc (HKr.out.trans HK5.out (.inl rfl)) (.cells #[.int .u8 m.f0,.string m.f1,.int .i64 m.f2,.slice A3 m.f3.length cp3] 24)).trans (KeepBut.of_grown hg g) (Kd.R_base2 HRr5.out));have HI7:=Aside0.mk (hI6.far (p:=⟨w4.heap.size,3,none⟩) (by have:=HI.out.lt;have:=HN8.out;simp only;omega) (.slice A4 (acc.length + 1) cp4));have HB7:=Aside0.mk (hB6.setCell (p:=⟨w4.heap.size,3,none⟩) (by have:=HB.out.size;have:=HN8.out;simp only;omega) (.slice A4 (acc.length + 1) cp4));have HK7:=Aside0.mk (keep_far hK6 (p:=⟨w4.heap.size,3,none⟩) (by have:=HN8.out;simp only;omega) (.slice A4 (acc.length + 1) cp4));have HO7:=Aside0.mk (Kd.R_far ho (p:=⟨w4.heap.size,3,none⟩) (fun k hk=>hk.2.1) (.slice A4 (acc.length + 1) cp4));have G8:=Aside0.mk (blk_put f8 3 (.slice A4 (acc.length + 1) cp4) rfl);have G0:=Aside0.mk (blk_far f0 (p:=⟨w4.heap.size,3,none⟩) (by have:=HN8.out;simp only;omega) (.slice A4 (acc.length + 1) cp4));have c3:=blk_cell f8 3;have d3:=blk_frozen f8 3;clear ho hb hg hat f8 f0 hI6 hB6 hK6) | (go_at_call 63;(with_reducible refine (vouchref16_reader_is.calls g toks cs j en (dp + 1) 0 pl5 ⟨#[44]⟩ true j en (dp + 1) 0 pl5 w0 _ HI7.out HB7.out (by rw [is_b,HS1.out])).mono ?_);rintro e_ w8 ⟨rfl,hi,hb,hk⟩;have f8:=hk.blk G8.out (by have:=HI.out.lt;have:=HN8.out;omega) (by simp);have f0:=hk.blk G0.out (by have:=HI.out.lt;omega) (by simp);have hr8:=Kd.R_keep (Kd.R_mono (Kd.R_bound HO7.out) (fun k hk=>(⟨⟨hk.1.1,hk.1.2.1⟩,hk.2.1⟩:(k ≠ w.heap.size ∧ k ≠ w4.heap.size) ∧ w.heap.size ≤ k))) hk (fun k hk=>by have:=HI.out.lt;omega);have HI8:=Aside0.mk hi;have HB8:=Aside0.mk hb;have HK8:=Aside0.mk (HK7.out.trans hk (.inl rfl));have HR8:=Aside0.mk (Kd.R_mono hr8 (fun k hk=>hk.1));have g8:=blk_cell f8 3;have J8:=Aside0.mk f8;have L8:=Aside0.mk f0;obtain ⟨A0',c0',A1',c1',hG,-,-,-⟩:=hi;have gg2:=cellS76_2 hG;have ggf:=blk_frozen hG 2;clear hG;clear f8 f0 hb hk hr8))
   have hI9:=HI8.out.set_2 ((j:Int) + 1)
   refine ⟨⟨acc ++ [m],j + 1,pl5,.slice A4 (acc.length + 1) cp4,by rw [List.length_append];exact HA2.out,?_,hI9,HB8.out.setCell HI.out.ge _,HK8.out.set_ _ _,blk_far J8.out (by have:=HI.out.lt;have:=HN8.out;simp only;omega) _,blk_far L8.out (by have:=HI.out.lt;simp only;omega) _,?_⟩,?_⟩
   ·have:=HAc.out;have:=HIj.out;simp;omega
   ·exact Kd.R_mono (Kd.R_far (Kd.R_mono (Kd.R_bound HR8.out) (fun k hk=>(⟨hk.1,hk.2.1⟩:(k ≠ w.heap.size ∧ k ≠ w4.heap.size) ∧ w.heap.size ≤ k))) (fun k hk=>by have:=HI.out.lt;simp only;omega) _) (fun k hk=>hk.1)
   ·unfold rdMu
    rw [hI9.at_eq,HIr.out.at_eq,hI9.er_eq,HIr.out.er_eq,if_pos rfl,if_pos rfl]
    have:=HIj.out
    have:=HJj.out
    omega
end Go.Proofs.YtjapfefiaijfcaaGreatDoor.Q
namespace Go.Proofs.YtjapfefiaijfcaaGreatDoor.Q
open Go.RowKit Go.Proofs.YtjapfefiaijfcaaGreatDoorW.PrintWords Go.Proofs.YtjapfefiaijfcaaGreatDoorW.PrintLast Go.Proofs.YtjapfefiaijfcaaGreatDoorW.PrintMore
set_option linter.unusedVariables false
def RefErr (w:World) (er:Int) (e:Ending) (w':World):Prop:=∃ (v:Value) (p:Int),e = .returned (.tuple #[v,.int .i64 p,.int .i64 er]) ∧ Below w.heap.size w w'
set_option maxHeartbeats 8000000 in
set_option maxRecDepth 100000 in
theorem ref_Parse_tok.calls (s:ByteArray) (xs:List S70) (p:Int) (hT:∃ k,vouchref14_Tokens.f k s=some (xs,p,3)) (w:World):Calls Tryz.prog 24 #[.string s,.slice none 0 0] w (RefErr w 3):=by
 obtain ⟨k,hk⟩:=hT
 have HT:=Aside0.mk hk
 clear hk
 go_enter Tryz.func24,Tryz.ntmps24
 go_wp2_with (go_at_call 41;refine (vouchref14_Tokens.calls k s xs p 3 _ HT.out).mono ?_;rintro e_ w1 ⟨v0,rfl,hr,hb⟩;have HB1:=Aside0.mk hb;clear hr hb)
 refine bodyPost_ret (v:=.tuple #[.slice none 0 0,.int .i64 p,.int .i64 3]) ?_ rfl ⟨_,_,rfl,HB1.out⟩
 simp [results,Tryz.results24,go_sem]
set_option maxHeartbeats 8000000 in
set_option maxRecDepth 100000 in
theorem ref_Parse_ok.calls (s:ByteArray) (xs:List S70) (hm:xs.length ≤ 8192) (hne:0 < xs.length) (hT:∃ k,vouchref14_Tokens.f k s=some (xs,0,0)) (hP:RefP xs [] (s.size:Int) 42 0 0 (some xs.length)) (w:World):Calls Tryz.prog 24 #[.string s,.slice none 0 0] w (RefErr w 0):=by
 obtain ⟨k,hk⟩:=hT
 have HT:=Aside0.mk hk
 have HP:=Aside0.mk hP
 have z0:((xs.length:Int) == 0)=false:=beq_eq_false_iff_ne.mpr (by omega)
 have z1:(xs.length == 0)=false:=beq_eq_false_iff_ne.mpr (by omega)
 have z2:decide ((xs.length:Int) < (xs.length:Int))=false:=decide_eq_false (by omega)
 have z3:decide (xs.length < xs.length)=false:=decide_eq_false (by omega)
 clear hk hP hne
 go_enter Tryz.func24,Tryz.ntmps24
 go_wp2_with (first | (go_at_call 41;refine (vouchref14_Tokens.calls k s xs 0 0 _ HT.out).mono ?_;rintro e_ w1 ⟨v0,rfl,hr,hb⟩;obtain ⟨A,cp,rfl,hc,hC1⟩:=Kd.R_reads hr;have HB1:=Aside0.mk hb;have HC1:=Aside0.mk hC1;have HI1:=Aside0.mk (IsS76.new w1 w1 A cp none 0 xs [] 0 (s.size:Int) 0 0 0 (Below.refl _ _) hC1 (Kd.C_nil k138 w1));have HBn:=Aside0.mk (below_alloc (Below.refl w1.heap.size w1) (.cells #[.slice A xs.length cp,.slice none 0 0,.int .i64 0,.int .i64 (s.size:Int),.int .i64 0,.int .i64 0,.int .i64 0] 76));clear hb hr hc hC1) | (go_at_call 42;refine (HP.out w1.heap.size w1 _ 0 HI1.out HBn.out).mono ?_;rintro e_ w3 ⟨l,v3,i3,dp3,er3,pl3,rfl,hi,hf,hb,hk,hr⟩;obtain ⟨rfl,rfl,rfl⟩:=hf;obtain ⟨A3,cp3,rfl⟩:=Kd.R_slice hr;have HB3:=Aside0.mk hb;have HI3:=Aside0.mk hi;obtain ⟨A0',c0',A1',c1',hG,-,-,-⟩:=hi;have gg2:=cellS76_2 hG;have gg5:=cellS76_5 hG;have hh2:=fun o=>cellS76_2 (blk_alloc hG o);have hh5:=fun o=>cellS76_5 (blk_alloc hG o);clear hG hb hk hr))
 refine bodyPost_ret (v:=.tuple #[.slice (some ⟨w3.heap.size + 1,0,none⟩) 1 1,.int .i64 0,.int .i64 0]) ?_ rfl ⟨_,_,rfl,?_⟩
 ·simp [results,Tryz.results24,go_sem]
 ·exact (((HB1.out.trans (HB3.out.mono HB1.out.size)).alloc (by have:=HB1.out.size;have:=HB3.out.size;omega) _).alloc (by have:=HB1.out.size;have:=HB3.out.size;simp;omega) _)
set_option maxHeartbeats 8000000 in
set_option maxRecDepth 100000 in
theorem ref_Parse_lim.calls (s:ByteArray) (xs:List S70) (hm:xs.length ≤ 8192) (hne:0 < xs.length) (hT:∃ k,vouchref14_Tokens.f k s=some (xs,0,0)) (hP:RefP xs [] (s.size:Int) 42 0 0 none) (w:World):Calls Tryz.prog 24 #[.string s,.slice none 0 0] w (RefErr w 3):=by
 obtain ⟨k,hk⟩:=hT
 have HT:=Aside0.mk hk
 have HP:=Aside0.mk hP
 have z0:((xs.length:Int) == 0)=false:=beq_eq_false_iff_ne.mpr (by omega)
 have z1:(xs.length == 0)=false:=beq_eq_false_iff_ne.mpr (by omega)
 clear hk hP hne
 go_enter Tryz.func24,Tryz.ntmps24
 go_wp2_with (first | (go_at_call 41;refine (vouchref14_Tokens.calls k s xs 0 0 _ HT.out).mono ?_;rintro e_ w1 ⟨v0,rfl,hr,hb⟩;obtain ⟨A,cp,rfl,hc,hC1⟩:=Kd.R_reads hr;have HB1:=Aside0.mk hb;have HC1:=Aside0.mk hC1;have HI1:=Aside0.mk (IsS76.new w1 w1 A cp none 0 xs [] 0 (s.size:Int) 0 0 0 (Below.refl _ _) hC1 (Kd.C_nil k138 w1));have HBn:=Aside0.mk (below_alloc (Below.refl w1.heap.size w1) (.cells #[.slice A xs.length cp,.slice none 0 0,.int .i64 0,.int .i64 (s.size:Int),.int .i64 0,.int .i64 0,.int .i64 0] 76));clear hb hr hc hC1) | (go_at_call 42;refine (HP.out w1.heap.size w1 _ 0 HI1.out HBn.out).mono ?_;rintro e_ w3 ⟨l,v3,i3,dp3,er3,pl3,rfl,hi,hf,hb,hk,hr⟩;obtain rfl:er3=3:=hf;obtain ⟨A3,cp3,rfl⟩:=Kd.R_slice hr;have HB3:=Aside0.mk (hb.alloc hb.size (.cells #[.int .u8 l.f0,.string l.f1,.int .i64 l.f2,.slice A3 l.f3.length cp3] 24));have HI3:=Aside0.mk (hi.alloc (.cells #[.int .u8 l.f0,.string l.f1,.int .i64 l.f2,.slice A3 l.f3.length cp3] 24));obtain ⟨A0',c0',A1',c1',hG,-,-,-⟩:=HI3.out;have gg2:=cellS76_2 hG;have gg5:=cellS76_5 hG;have gg6:=cellS76_6 hG;clear hG hi hb hk hr;by_cases hlt:i3 < (xs.length:Int)) | (go_at_call 43;refine (ref_fail_no.calls w1.heap.size xs [] i3 (s.size:Int) dp3 3 pl3 150 (by decide) w1 _ HI3.out HB3.out).mono ?_;rintro e_ w5 ⟨rfl,hi,hb,hk⟩;have HB5:=Aside0.mk hb;obtain ⟨A0',c0',A1',c1',hG,-,-,-⟩:=hi;have hh5:=cellS76_5 hG;have hh6:=cellS76_6 hG;clear hG hb hk))
 all_goals go_region
 all_goals go_wp2_with (fail)
 all_goals (refine bodyPost_ret (v:=.tuple #[.slice none 0 0,.int .i64 pl3,.int .i64 3]) ?_ rfl ⟨_,_,rfl,?_⟩;(simp [results,Tryz.results24,go_sem]);(first | exact below_drew1 (HB1.out.trans (HB5.out.mono HB1.out.size)) | exact below_drew1 (HB1.out.trans (HB3.out.mono HB1.out.size))))
end Go.Proofs.YtjapfefiaijfcaaGreatDoor.Q
