/- Tokens, of any text. Tokens, of any text: what it answers. -/
import Derived.RangeFuncRecord
import Derived.Maps.OwnIn
import Derived.Test.YtjapfefiaijfcaaGreatDoorH21
import Derived.Test.YtjapfefiaijfcaaGreatDoorH22
namespace Go.Proofs.YtjapfefiaijfcaaGreatDoor.Q
open Go.RowKit Go.Proofs.YtjapfefiaijfcaaGreatDoorW.PrintWords Go.Proofs.YtjapfefiaijfcaaGreatDoorW.PrintLast Go.Proofs.YtjapfefiaijfcaaGreatDoorW.PrintMore
set_option linter.unusedVariables false
attribute [local go_sem] Oper.semAt_some
theorem range_scanX {g:Operand} {ps:Array Tmp} {assign body:Code} {Q:Exit → Act → World → Prop} {a:Act} {w:World} {n:Nat} {gf:Nat} {lb:Array Value} (gX bx:Nat) (xs:List S70) (encs:S70 → Array Value) (PN:Prop) (PZ:Nat → Prop) (SZ:Nat → World → Prop) (encZ:Nat → Array Value)
  (hg:a.eval g = .func (.func gf) #[] lb) (eg:∀ args w,(callFunc gf args).run Tryz.prog w = .ok (.enter gf args) w) (hps:∀ x,(encs x).size=ps.size) (hpz:∀ j,(encZ j).size=ps.size) (hgX:gX < w.heap.size) (hbx:bx < w.heap.size)
  (hit:∀ (l:Nat) (JJ:List S70 → World → Prop) (JX:World → Prop) (W1:World),(∀ pre W W',JJ pre W → Only gX W W' → JJ pre W') →
   (∀ (pre:List S70) (x:S70) (W:World) (o:Obj),JJ pre W → pre ++ [x] <+: xs → YieldAt Fence.wide (n - 1 - 1) Tryz.prog l (encs x) (W.alloc o) fun e W' =>
    e = .returned (.bool true) ∧ JJ (pre ++ [x]) W' ∧ (∀ (k:Nat) (b:Obj),(W.alloc o).heap[k]? = some b → k=gX ∨ k=bx ∨ k=W.heap.size → W'.heap[k]? = some b)) →
   (∀ (j:Nat) (W:World) (o:Obj),PZ j → JJ xs W → SZ j W → YieldAt Fence.wide (n - 1 - 1) Tryz.prog l (encZ j) (W.alloc o) fun e W'=>e = .returned (.bool false) ∧ JX W') →
   Below w.heap.size w W1 → JJ [] W1 → CallsIn Fence.wide (n - 1) Tryz.prog gf (#[.func (.yield l) #[] #[]] ++ lb) W1 fun e W'=>(∃ v,e = .returned v) ∧ (JJ xs W' ∧ PN ∨ JX W'))
  (I:List S70 → World → Prop) (hIX:∀ pre W W',I pre W → Only gX W W' → I pre W')
  (hIput:∀ pre W (k:Nat) (o o':Obj),w.heap.size ≤ k → W.heap[k]? = some o → o.isCells=false → I pre W → I pre (W.putObj k o')) (h0:I [] w)
  (hround:∀ (l:Nat) (pre:List S70) (x:S70) (W0 W:World) (o:Obj),I pre W0 → W=W0.alloc o → gX < W0.heap.size → bx < W0.heap.size → pre ++ [x] <+: xs →
   assign.wpIn (Fence.wide.inRound l) (n - 1 - 1) Tryz.prog (Exit.then (fun a₁ w₁=>(∀ (k:Nat) (b:Obj),W.heap[k]? = some b → w₁.heap[k]? = some b) ∧ ∀ R:Loop,w₁.heap[l]? = some (.loop R) → w.heap.size ≤ l →
    body.wpIn (Fence.wide.inRound l) (n - 1 - 1) Tryz.prog (fun e _ W'=>e = .normal ∧ RoundOK (fun x=>I (pre ++ [x])) gX bx w.heap.size x W0 (w₁.putObj l (.loop { R with state:=.busy })) W') a₁ (w₁.putObj l (.loop { R with state:=.busy })))
    (fun _ _ _=>False)) { tmps:=(ps.zip (encs x)).foldl (fun t (p,v)=>t.setIfInBounds p v) a.tmps,defers:=[] } W)
  (IZ:Nat → World → Prop) (hIZput:∀ j W (k:Nat) (o o':Obj),w.heap.size ≤ k → W.heap[k]? = some o → o.isCells=false → IZ j W → IZ j (W.putObj k o'))
  (hroundZ:∀ (l:Nat) (j:Nat) (W0 W:World) (o:Obj),PZ j → I xs W0 → SZ j W0 → W=W0.alloc o → gX < W0.heap.size → bx < W0.heap.size →
   assign.wpIn (Fence.wide.inRound l) (n - 1 - 1) Tryz.prog (Exit.then (fun a₁ w₁=>(∀ (k:Nat) (b:Obj),W.heap[k]? = some b → w₁.heap[k]? = some b) ∧ ∀ R:Loop,w₁.heap[l]? = some (.loop R) → w.heap.size ≤ l →
    body.wpIn (Fence.wide.inRound l) (n - 1 - 1) Tryz.prog (fun e _ W'=>e = .ret ∧ IZ j W' ∧ (∀ (k:Nat) (b:Obj),(w₁.putObj l (.loop { R with state:=.busy })).heap[k]? = some b → w.heap.size ≤ k → b.isCells=false → W'.heap[k]? = some b)) a₁ (w₁.putObj l (.loop { R with state:=.busy })))
    (fun _ _ _=>False)) { tmps:=(ps.zip (encZ j)).foldl (fun t (p,v)=>t.setIfInBounds p v) a.tmps,defers:=[] } W)
  (hstop:∀ (D j:Nat) (W:World),PZ j → w.heap.size ≤ D → IZ j W → W.heap[D]? = some (.deferred (some [])) → Code.ret.wpIn Fence.wide n Tryz.prog Q { a with defers:={ target:=.collected D,args:=#[] } :: a.defers } W)
  (hdone:PN → ∀ (D:Nat) (W:World),w.heap.size ≤ D → I xs W → W.heap[D]? = some (.deferred (some [])) → Q .normal { a with defers:={ target:=.collected D,args:=#[] } :: a.defers } W) (h1:1 ≤ n) :
  (Code.rangeFunc g ps assign body).wpIn Fence.wide n Tryz.prog Q a w:=by
 refine wpIn_rangeFunc (fun fn _=>?_)
 rw [show Fence.wide.round=none from rfl]
 obtain ⟨rec,hrec⟩:∃ rec:LoopState → Option Code → Loop,rec=fun st pe=>{ state:=st,pending:=pe,fn,tmps:=a.tmps,params:=ps,assign,body,defers:=w.heap.size }:=⟨_,rfl⟩
 obtain ⟨W1,hW1⟩:∃ W1,(w.alloc (.deferred (some []))).alloc (.loop (rec .ready none))=W1:=⟨_,rfl⟩
 have hL1:W1.heap[w.heap.size + 1]? = some (.loop (rec .ready none)):=by
  rw [← hW1];have q:=blk_new (w.alloc (.deferred (some []))) (.loop (rec .ready none));rwa [World.size_alloc] at q
 have hK1:W1.heap[w.heap.size]? = some (.deferred (some [])):=by rw [← hW1];exact blk_alloc (blk_new w _) _
 have hO1:Only gX w W1:=by rw [← hW1];exact ((Only.refl gX w).alloc _).alloc _
 refine ⟨w.heap.size + 1,[{ target:=.collected w.heap.size,args:=#[] }],W1,{ target:=.fn (.func gf) lb,args:=#[.func (.yield (w.heap.size + 1)) #[] #[]] },W1,gf,
  #[.func (.yield (w.heap.size + 1)) #[] #[]] ++ lb,W1,?_,?_,fun _ _=>trivial,?_,fun _=>h1,?_⟩
 ·rw [← hW1,hrec];exact run_enterLoop_outer _ _ _ _ _
 ·simp only [resolve,hg]
  simp [go_sem]
 ·simp [invoke,go_sem,eg]
 ·refine (hit (w.heap.size + 1) (fun pre W=>I pre W ∧ W.heap[w.heap.size + 1]? = some (.loop (rec .ready none)) ∧ W.heap[w.heap.size]? = some (.deferred (some []))) (fun W=>∃ j,PZ j ∧ IZ j W ∧ W.heap[w.heap.size + 1]? = some (.loop (rec .done (some .ret))) ∧ W.heap[w.heap.size]? = some (.deferred (some []))) W1 ?_ ?_ ?_ ?_ ⟨hIX _ _ _ h0 hO1,hL1,hK1⟩).mono ?_
  ·rintro pre W W' ⟨hi,hl,hk⟩ hO
   exact ⟨hIX _ _ _ hi hO,hO.blk hl (by omega),hO.blk hk (by omega)⟩
  ·rintro pre x W o ⟨hi,hl,hk⟩ hpre
   have hlt:=blk_lt hl
   have hl':=blk_alloc hl o
   have hk':=blk_alloc hk o
   have hy:=run_yield (P:=Tryz.prog) (args:=encs x) hl' (by rw [hrec];exact hps x)
   rw [hrec] at hy
   refine ⟨fn,_,assign,body,hy,roundIn_of_wpIn (F:=Fence.wide) trivial (wpIn_mono (hround (w.heap.size + 1) pre x W (W.alloc o) o hi rfl (by omega) (by omega) hpre) ?_)⟩
   rintro e a1 w1 hp
   cases e with
   | normal =>
    obtain ⟨hkeep,hb⟩:=hp
    have hl1:=hkeep _ _ hl'
    have hk1:=hkeep _ _ hk'
    have hlt1:=blk_lt hl1
    refine ⟨_,run_beginRound hl1 (by rw [hrec]),?_⟩
    refine wpIn_mono (hb _ hl1 (by omega)) ?_
    rintro e a2 w2 ⟨rfl,hI2,hkp⟩
    have hl2:=hkp (w.heap.size + 1) _ (World.putObj_heap_same hlt1) (.inr (.inr (.inr ⟨by omega,rfl⟩)))
    have hk2:=hkp w.heap.size _ ((World.putObj_heap_other (by omega)).trans hk1) (.inr (.inr (.inr ⟨Nat.le_refl _,rfl⟩)))
    have hend:=run_endRound (P:=Tryz.prog) none hl2
    refine ⟨_,_,hend,rfl,⟨hIput _ _ _ _ _ (by omega) hl2 rfl hI2,?_,(World.putObj_heap_other (by omega)).trans hk2⟩,?_⟩
    ·rw [hrec];exact World.putObj_heap_same (blk_lt hl2)
    ·intro k b hkb hwhich
     have hne:k ≠ w.heap.size + 1:=by
      rcases hwhich with h | h | h <;> omega
     refine (World.putObj_heap_other hne).trans (hkp k b ((World.putObj_heap_other hne).trans (hkeep k b hkb)) ?_)
     rcases hwhich with h | h | h
     ·exact .inl h
     ·exact .inr (.inl h)
     ·exact .inr (.inr (.inl h))
   | _=>exact hp.elim
  ·rintro j W o hz ⟨hi,hl,hk⟩ hsz
   have hlt:=blk_lt hl
   have hl':=blk_alloc hl o
   have hk':=blk_alloc hk o
   have hy:=run_yield (P:=Tryz.prog) (args:=encZ j) hl' (by rw [hrec];exact hpz j)
   rw [hrec] at hy
   refine ⟨fn,_,assign,body,hy,roundIn_of_wpIn (F:=Fence.wide) trivial (wpIn_mono (hroundZ (w.heap.size + 1) j W (W.alloc o) o hz hi hsz rfl (by omega) (by omega)) ?_)⟩
   rintro e a1 w1 hp
   cases e with
   | normal =>
    obtain ⟨hkeep,hb⟩:=hp
    have hl1:=hkeep _ _ hl'
    have hk1:=hkeep _ _ hk'
    have hlt1:=blk_lt hl1
    refine ⟨_,run_beginRound hl1 (by rw [hrec]),?_⟩
    refine wpIn_mono (hb _ hl1 (by omega)) ?_
    rintro e a2 w2 ⟨rfl,hI2,hkp⟩
    have hl2:=hkp (w.heap.size + 1) _ (World.putObj_heap_same hlt1) (by omega) rfl
    have hk2:=hkp w.heap.size _ ((World.putObj_heap_other (by omega)).trans hk1) (Nat.le_refl _) rfl
    have hend:=run_endRound (P:=Tryz.prog) (some .ret) hl2
    refine ⟨_,_,hend,rfl,j,hz,hIZput _ _ _ _ _ (by omega) hl2 rfl hI2,?_,(World.putObj_heap_other (by omega)).trans hk2⟩
    rw [hrec];exact World.putObj_heap_same (blk_lt hl2)
   | _=>exact hp.elim
  ·rw [← hW1];exact ((Below.refl _ w).alloc (Nat.le_refl _) _).alloc (by simp) _
  ·rintro e W2 ⟨⟨v,rfl⟩,(⟨⟨hi,hl,hk⟩,hpn⟩ | ⟨j,hz,hi,hl,hk⟩)⟩
   ·have hend:=run_endLoop (P:=Tryz.prog) hl (by rw [hrec];simp)
    refine ⟨_,_,hend,?_⟩
    rw [hrec]
    exact hdone hpn _ _ (Nat.le_refl _) (hIput _ _ _ _ _ (by omega) hl rfl hi) ((World.putObj_heap_other (by omega)).trans hk)
   ·have hend:=run_endLoop (P:=Tryz.prog) hl (by rw [hrec];simp)
    refine ⟨_,_,hend,?_⟩
    rw [hrec]
    exact hstop _ j _ hz (Nat.le_refl _) (hIZput _ _ _ _ _ (by omega) hl rfl hi) ((World.putObj_heap_other (by omega)).trans hk)
theorem post_hide2 {F:Fence} {n:Nat} {P:Program} {c:Code} {f:Exit → Act → World → Prop} {a:Act} {w:World} (h:∀ K:Exit → Act → World → Prop,(∀ a w,f .ret a w → K .ret a w) → c.wpIn F n P K a w):c.wpIn F n P f a w:=h f (fun _ _ h=>h)
def tokPE (s:ByteArray) (xs:List S70) (j:Nat):Int × Int:=if xs.length=8192 then ((j:Int),3) else ((nextS s j).2.1,(nextS s j).2.2)
set_option maxHeartbeats 8000000 in
set_option maxRecDepth 100000 in
theorem tokens_Tokens_any.calls (s:ByteArray) (hs:s.size ≤ 65536) (xs:List S70) (st:Option Nat) (hT:ToksX s 0 xs st) (hn:xs.length ≤ 8192) (hst:∀ j,st=some j → xs.length=8192 ∨ (nextS s j).2.2 ≠ 0) (w:World) :
  Calls Tryz.prog 35 #[.string s] w fun e w'=>(st=none ∧ ∃ v0_:Value,e = .returned (.tuple #[v0_,.int .i64 0,.int .i64 0]) ∧ Kd.R k70 70 w' w.heap.size (fun k_=>True) v0_ xs ∧ Below w.heap.size w w') ∨ (∃ j,st=some j ∧ e = .returned (.tuple #[.slice none 0 0,.int .i64 (tokPE s xs j).1,.int .i64 (tokPE s xs j).2]) ∧ Below w.heap.size w w'):=by
 have HT:=Aside0.mk hT
 have HN:=Aside0.mk hn
 have d0:decide ((65536:Int) < (s.size:Int))=false:=decide_eq_false (by omega)
 have d1:decide (65536 < s.size)=false:=decide_eq_false (by omega)
 have HST:=Aside0.mk hst
 clear hT hn hst
 refine (callsIn_wide (n:=5)).1 ?_
 refine callsIn_of_wp_marks Tryz.func35 rfl trivial ?_ rfl
 simp only [Tryz.ntmps35,List.size_toArray,List.length_cons,List.length_nil,Nat.reduceAdd,Nat.reduceSub,Array.replicate_succ,Array.replicate_zero,List.push_toArray,List.append_toArray,List.nil_append,List.cons_append]
 gi_wp2_with (first | (refine ⟨trivial,?_⟩;gi_at_call 57;refine (callsIn_wide.2 (tokens_each.calls _ _)).mono ?_;rintro e_ w1 ⟨rfl,hw1⟩;have HW1:=Aside0.mk hw1;clear hw1))
 have hb0:w1.heap[w.heap.size]? = some (.cells #[.slice none 0 0] 62 (0,0)):=by rw [HW1.out];repeat (first | (refine blk_new' _ ?_;simp;done) | apply blk_alloc)
 have hb1:w1.heap[w.heap.size + 1]? = some (.cells #[.int .i64 0] 3 (0,0)):=by rw [HW1.out];repeat (first | (refine blk_new' _ ?_;simp;done) | apply blk_alloc)
 have hb2:w1.heap[w.heap.size + 1 + 1]? = some (.cells #[.int .i64 0] 28 (0,0)):=by rw [HW1.out];repeat (first | (refine blk_new' _ ?_;simp;done) | apply blk_alloc)
 have hb3:w1.heap[w.heap.size + 1 + 1 + 1]? = some (.cells #[.slice none 0 0] 62 (0,0)):=by rw [HW1.out];repeat (first | (refine blk_new' _ ?_;simp;done) | apply blk_alloc)
 have hb4:w1.heap[w.heap.size + 1 + 1 + 1 + 1]? = some (.cells #[.string s,.int .i64 0] 94 (0,0)):=by rw [HW1.out];repeat (first | (refine blk_new' _ ?_;simp;done) | apply blk_alloc)
 have hb5:w1.heap[w.heap.size + 1 + 1 + 1 + 1 + 1]? = some (.cells #[.pointer (some ⟨w.heap.size + 1 + 1 + 1 + 1,0,none⟩)] 118 (0,0)):=by rw [HW1.out];repeat (first | (refine blk_new' _ ?_;simp;done) | apply blk_alloc)
 have hsz:w1.heap.size=w.heap.size + 1 + 1 + 1 + 1 + 1 + 1:=by rw [HW1.out];simp
 have hbl:Below w.heap.size w w1:=by rw [HW1.out];exact ((((((Below.refl _ _).alloc (Nat.le_refl _) _).alloc (by simp) _).alloc (by simp;omega) _).alloc (by simp;omega) _).alloc (by simp;omega) _).alloc (by simp;omega) _
 refine range_scanX (n:=5) (gf:=77) (lb:=#[.pointer (some ⟨w.heap.size + 1 + 1 + 1 + 1 + 1,0,none⟩)]) (w.heap.size + 1 + 1 + 1 + 1) (w.heap.size + 1 + 1 + 1 + 1 + 1) xs (fun x=>#[.agg #[.int .u8 x.f0,.string x.f1,.int .i64 x.f2,.int .i64 x.f3],.agg #[.int .i64 0,.int .i64 0]]) (st=none) (fun j=>st=some j) (fun j W=>Scan W (w.heap.size + 1 + 1 + 1 + 1) s j) (fun j=>#[.agg #[.int .u8 (nextS s j).1.f0,.string (nextS s j).1.f1,.int .i64 (nextS s j).1.f2,.int .i64 (nextS s j).1.f3],.agg #[.int .i64 (nextS s j).2.1,.int .i64 (nextS s j).2.2]]) ?hg (enters_of Tryz.func77 (by kernel_rfl) rfl) (fun _=>rfl) (fun _=>rfl) (by omega) (by omega)
  (fun l JJ JX W1 hJ hY hZ hb h0=>(tokens_each1_any (5 - 1) l (w.heap.size + 1 + 1 + 1 + 1) (w.heap.size + 1 + 1 + 1 + 1 + 1) s hs xs st HT.out JJ JX (by omega) hJ hY (fun j W o hj hJx hSx _=>hZ j W o hj hJx hSx) W1 ⟨(hb.block _ (by omega)).trans hb4⟩ ((hb.block _ (by omega)).trans hb5) h0).mono (fun e W' h=>⟨h.1,h.2.elim (fun q=>.inl ⟨q.2,q.1⟩) (fun q=>.inr q.2)⟩))
  (fun pre W=>∃ v,W.heap[w.heap.size + 1 + 1 + 1]? = some (.cells #[v] 62 (0,0)) ∧ Kd.R k70 70 W w.heap.size (fun k=>w.heap.size + 1 + 1 + 1 + 1 + 1 + 1 ≤ k) v pre ∧ W.heap[w.heap.size]? = some (.cells #[.slice none 0 0] 62 (0,0)) ∧ W.heap[w.heap.size + 1]? = some (.cells #[.int .i64 0] 3 (0,0)) ∧ W.heap[w.heap.size + 1 + 1]? = some (.cells #[.int .i64 0] 28 (0,0)) ∧ Below w.heap.size w W) ?hIX ?hIput ?h0 ?round (fun j W=>W.heap[w.heap.size]? = some (.cells #[.slice none 0 0] 62 (0,0)) ∧ W.heap[w.heap.size + 1]? = some (.cells #[.int .i64 (tokPE s xs j).1] 3 (0,0)) ∧ W.heap[w.heap.size + 1 + 1]? = some (.cells #[.int .i64 (tokPE s xs j).2] 28 (0,0)) ∧ Below w.heap.size w W) ?hIZput ?roundZ ?stop ?done (by omega)
 case hg=>rfl
 case hIX =>
  rintro pre W W' ⟨v,h1,h2,h3,h4,h5,h6⟩ hO
  exact ⟨v,hO.blk h1 (by omega),Kd.R_step h2 (fun k hk hlt=>hO.block k hlt (by omega)),hO.blk h3 (by omega),hO.blk h4 (by omega),hO.blk h5 (by omega),h6.trans (hO.below (by omega) (by have:=h6.size;omega))⟩
 case hIput =>
  rintro pre W k o o' hk ho hc ⟨v,h1,h2,h3,h4,h5,h6⟩
  have ne:∀ {j:Nat} {c t f},W.heap[j]? = some (.cells c t f) → (W.putObj k o').heap[j]? = some (.cells c t f):=fun {j} {c} {t} {f} h=>(World.putObj_heap_other (by rintro rfl;rw [h] at ho;cases ho;cases hc)).trans h
  refine ⟨v,ne h1,Kd.R_mono (Kd.R_move (Kd.R_bound h2) (fun j hj=>?_)) (fun _ hk=>hk.1),ne h3,ne h4,ne h5,h6.trans ⟨rfl,rfl,rfl,by simp,fun j hj=>World.putObj_heap_other (by omega)⟩⟩
  obtain ⟨_,_,_,q,_,cells,hcl⟩:=hj
  exact (ne hcl).trans hcl.symm
 case h0=>exact ⟨_,hb3,Kd.R_nil _ _ _ _ _,hb0,hb1,hb2,hbl⟩
 case round =>
  intro l pre x W0 W o hI hW hg0 hbx0 hpre
  obtain ⟨v,h1,h2,h3,h4,h5,h6⟩:=hI
  obtain ⟨A,cap,rfl⟩:=Kd.R_slice h2
  subst hW
  have hpl:pre.length < xs.length:=by
   have q:=hpre.length_le
   rw [List.length_append,List.length_singleton] at q;omega
  refine then_hide (fun K hK=>?_)
  have HK:=Aside0.mk hK
  have H1:=Aside0.mk h1
  have H2:=Aside0.mk h2
  have H3:=Aside0.mk h3
  have H4:=Aside0.mk h4
  have H5:=Aside0.mk h5
  have H6:=Aside0.mk h6
  have HP:=Aside0.mk hpre
  clear hK h1 h2 h3 h4 h5 h6 hpre hb0 hb1 hb2 hb3 hb4 hb5 hbl
  simp only [List.zip_toArray,List.zip_cons_cons,List.zip_nil_right,List.foldl_toArray,List.foldl_cons,List.foldl_nil,List.setIfInBounds_toArray,List.set_cons_zero,List.set_cons_succ]
  gi_wp2_with (fail)
  refine HK.out _ _ ⟨fun k b hb=>blk_alloc (blk_alloc hb _) _,fun R hR hl=>?_⟩
  obtain ⟨W3,hW3⟩:∃ W3,W3=(((W0.alloc o).alloc (.cells #[.int .u8 x.f0,.string x.f1,.int .i64 x.f2,.int .i64 x.f3] 70)).alloc (.cells #[.int .i64 0,.int .i64 0] 99)).putObj l (.loop { R with state:=.busy }):=⟨_,rfl⟩
  rw [← hW3]
  obtain ⟨Wb,hWb⟩:∃ Wb,Wb=((W0.alloc o).alloc (.cells #[.int .u8 x.f0,.string x.f1,.int .i64 x.f2,.int .i64 x.f3] 70)).alloc (.cells #[.int .i64 0,.int .i64 0] 99):=⟨_,rfl⟩
  rw [← hWb] at hW3 hR
  have hbb:Below W0.heap.size W0 Wb:=by rw [hWb];exact (((Below.refl _ _).alloc (Nat.le_refl _) _).alloc (by simp) _).alloc (by simp;omega) _
  have hcell:∀ {j:Nat} {c t f},Wb.heap[j]? = some (.cells c t f) → W3.heap[j]? = some (.cells c t f):=fun {j} {c} {t} {f} h=>by
   rw [hW3]
   exact (World.putObj_heap_other (by rintro rfl;rw [h] at hR;cases hR)).trans h
  have hold:∀ {j:Nat} {c t f},W0.heap[j]? = some (.cells c t f) → W3.heap[j]? = some (.cells c t f):=fun h=>hcell ((hbb.block _ (blk_lt h)).trans h)
  have hs3:W3.heap.size=W0.heap.size + 1 + 1 + 1:=by rw [hW3,hWb];simp
  have k1:=hold H1.out
  have kt:W3.heap[W0.heap.size + 1]? = some (.cells #[.int .u8 x.f0,.string x.f1,.int .i64 x.f2,.int .i64 x.f3] 70 (0,0)):=hcell (by rw [hWb];refine blk_alloc ?_ _;exact blk_new' _ (by simp))
  have kf:W3.heap[W0.heap.size + 1 + 1]? = some (.cells #[.int .i64 0,.int .i64 0] 99 (0,0)):=hcell (by rw [hWb];exact blk_new' _ (by simp))
  have kr:Kd.R k70 70 W3 w.heap.size (fun k=>w.heap.size + 1 + 1 + 1 + 1 + 1 + 1 ≤ k) (.slice A pre.length cap) pre:=by
   refine Kd.R_mono (Kd.R_move (Kd.R_bound (Kd.R_below H2.out hbb)) (fun j hj=>?_)) (fun _ hk=>hk.1)
   obtain ⟨_,_,_,q,_,cells,hcl⟩:=hj
   exact (hcell hcl).trans hcl.symm
  have kb:Below w.heap.size w W3:=H6.out.trans ((hbb.mono H6.out.size).trans ⟨by rw [hW3];rfl,by rw [hW3];rfl,by rw [hW3];rfl,by rw [hW3];simp,fun j hj=>by rw [hW3];exact World.putObj_heap_other (by omega)⟩)
  have q1:=blk_cell k1 0
  have qt0:=blk_cell kt 0
  have qt1:=blk_cell kt 1
  have qt2:=blk_cell kt 2
  have qt3:=blk_cell kt 3
  have qf0:=blk_cell kf 0
  have qf1:=blk_cell kf 1
  have e1:((pre.length:Int) == 8192)=false:=beq_eq_false_iff_ne.mpr (by have:=HN.out;omega)
  have e2:(pre.length == 8192)=false:=beq_eq_false_iff_ne.mpr (by have:=HN.out;omega)
  refine post_hide (fun K2 hK2=>?_)
  have HK2:=Aside0.mk hK2
  have HKR:=Aside0.mk kr
  have HKB:=Aside0.mk kb
  have HK1:=Aside0.mk k1
  have HOLD:=Aside0.mk (@hold)
  have HS3:=Aside0.mk hs3
  clear hK2 kr kb k1 kt kf hcell hold hbb hWb hR hs3 hW3
  gi_wp2_with (first | (gi_at_builtin;refine R_append_in k70 (w0:=w) w.heap.size rfl (.tmp 31) (.tmp 33) 62 70 (.agg #[.int .u8 0,.string ⟨#[]⟩,.int .i64 0,.int .i64 0]) 40 rfl Tryz.underlying62 info70 rfl (by decide) (by omega) (.slice A pre.length cap) pre x [.int .u8 x.f0,.string x.f1,.int .i64 x.f2,.int .i64 x.f3] (fun k=>w.heap.size + 1 + 1 + 1 + 1 + 1 + 1 ≤ k) (fun _=>False) rfl rfl ?aP (fun _ h=>h.elim) ?aF HKR.out HKB.out ?aS ?aL ?_;(case aP=>exact k70_mkM _ _ _ x);(case aF=>intro k hk;have q1:=HKB.out.size;have q2:=HS3.out;have q3:=H6.out.size;omega);(case aS=>exact HKB.out.size);(case aL=>have:=HN.out;omega);intro v1 w4 ho hb hg;obtain ⟨A1,cap1,rfl⟩:=Kd.R_slice ho;have HO:=Aside0.mk ho;have HB:=Aside0.mk hb;have HG:=Aside0.mk hg;have c0:=blk_cell (blk_grown HK1.out hg (Kd.R_away HKR.out (fun k hk=>by omega))) 0;have c1:=blk_frozen (blk_grown HK1.out hg (Kd.R_away HKR.out (fun k hk=>by omega))) 0;clear ho hb hg))
  refine HK2.out _ _ ⟨by first | rfl | trivial,?_⟩
  have HO':=HO.out
  rw [List.length_append,List.length_singleton] at HO'
  have away:∀ g:Nat,g < w.heap.size + 1 + 1 + 1 + 1 + 1 + 1 → some g ≠ (Value.slice A pre.length cap).ownBlock:=fun g hg=>Kd.R_away HKR.out (fun k hk=>by omega)
  refine ⟨⟨_,blk_put (blk_grown HK1.out HG.out (away _ (by omega))) 0 _ rfl,Kd.R_far HO' (fun k hk=>by simp only;omega) _,?_,?_,?_,HB.out.setCell (by simp only;omega) _⟩,?_⟩
  ·exact (Below.heap_setCell _ _ _ _ (by simp only;omega)).trans (blk_grown (HOLD.out H3.out) HG.out (away _ (by omega)))
  ·exact (Below.heap_setCell _ _ _ _ (by simp only;omega)).trans (blk_grown (HOLD.out H4.out) HG.out (away _ (by omega)))
  ·exact (Below.heap_setCell _ _ _ _ (by simp only;omega)).trans (blk_grown (HOLD.out H5.out) HG.out (away _ (by omega)))
  ·intro k b hb hk
   have hne:some k ≠ (Value.slice A pre.length cap).ownBlock:=Kd.R_away (Kd.R_bound H2.out) (fun j hj=>by
    obtain ⟨h1,_,h2,q,_,cells,hcl⟩:=hj
    rintro rfl
    rcases hk with hk | hk | hk | ⟨hk,hc⟩
    ·omega
    ·omega
    ·omega
    ·rw [HOLD.out hcl] at hb;cases hb;cases hc)
   have hne2:k ≠ w.heap.size + 1 + 1 + 1:=by rcases hk with hk | hk | hk | ⟨hk,hc⟩ <;> omega
   exact (Below.heap_setCell _ _ _ _ hne2).trans (blk_grown hb HG.out hne)
 case hIZput =>
  rintro j W k o o' hk ho hc ⟨h3,h4,h5,h6⟩
  have ne:∀ {j:Nat} {c t f},W.heap[j]? = some (.cells c t f) → (W.putObj k o').heap[j]? = some (.cells c t f):=fun {j} {c} {t} {f} h=>(World.putObj_heap_other (by rintro rfl;rw [h] at ho;cases ho;cases hc)).trans h
  exact ⟨ne h3,ne h4,ne h5,h6.trans ⟨rfl,rfl,rfl,by simp,fun j hj=>World.putObj_heap_other (by omega)⟩⟩
 case roundZ =>
  intro l j W0 W o hz hI hSc hW hg0 hbx0
  obtain ⟨v,h1,h2,h3,h4,h5,h6⟩:=hI
  obtain ⟨A,cap,rfl⟩:=Kd.R_slice h2
  subst hW
  have hcase:=HST.out j hz
  have hpe:tokPE s xs j=if xs.length=8192 then ((j:Int),3) else ((nextS s j).2.1,(nextS s j).2.2):=rfl
  obtain ⟨pe,hpe2⟩:∃ pe,pe=tokPE s xs j:=⟨_,rfl⟩
  rw [← hpe2] at hpe
  simp only [← hpe2]
  obtain ⟨r,hr⟩:∃ r,r=nextS s j:=⟨_,rfl⟩
  simp only [← hr] at hpe hcase ⊢
  clear hpe2 hr
  obtain ⟨⟨r0,r1,r2,r3⟩,rp,re⟩:=r
  simp only at hpe hcase ⊢
  refine then_hide (fun K hK=>?_)
  have HK:=Aside0.mk hK
  have HPE:=Aside0.mk hpe
  have HCA:=Aside0.mk hcase
  have H1:=Aside0.mk h1
  have H3:=Aside0.mk h3
  have H4:=Aside0.mk h4
  have H5:=Aside0.mk h5
  have H6:=Aside0.mk h6
  have HSC:=Aside0.mk hSc
  clear hK hpe hcase h1 h2 h3 h4 h5 h6 hSc hb0 hb1 hb2 hb3 hb4 hb5 hbl
  simp only [List.zip_toArray,List.zip_cons_cons,List.zip_nil_right,List.foldl_toArray,List.foldl_cons,List.foldl_nil,List.setIfInBounds_toArray,List.set_cons_zero,List.set_cons_succ]
  gi_wp2_with (fail)
  refine HK.out _ _ ⟨fun k b hb=>blk_alloc (blk_alloc hb _) _,fun R hR hl=>?_⟩
  obtain ⟨W3,hW3⟩:∃ W3,W3=(((W0.alloc o).alloc (.cells #[.int .u8 r0,.string r1,.int .i64 r2,.int .i64 r3] 70)).alloc (.cells #[.int .i64 rp,.int .i64 re] 99)).putObj l (.loop { R with state:=.busy }):=⟨_,rfl⟩
  rw [← hW3]
  obtain ⟨Wb,hWb⟩:∃ Wb,Wb=((W0.alloc o).alloc (.cells #[.int .u8 r0,.string r1,.int .i64 r2,.int .i64 r3] 70)).alloc (.cells #[.int .i64 rp,.int .i64 re] 99):=⟨_,rfl⟩
  rw [← hWb] at hW3 hR
  have hbb:Below W0.heap.size W0 Wb:=by rw [hWb];exact (((Below.refl _ _).alloc (Nat.le_refl _) _).alloc (by simp) _).alloc (by simp;omega) _
  have hcell:∀ {j:Nat} {c t f},Wb.heap[j]? = some (.cells c t f) → W3.heap[j]? = some (.cells c t f):=fun {j} {c} {t} {f} h=>by
   rw [hW3]
   exact (World.putObj_heap_other (by rintro rfl;rw [h] at hR;cases hR)).trans h
  have hold:∀ {j:Nat} {c t f},W0.heap[j]? = some (.cells c t f) → W3.heap[j]? = some (.cells c t f):=fun h=>hcell ((hbb.block _ (blk_lt h)).trans h)
  have k1:=hold H1.out
  have kt:W3.heap[W0.heap.size + 1]? = some (.cells #[.int .u8 r0,.string r1,.int .i64 r2,.int .i64 r3] 70 (0,0)):=hcell (by rw [hWb];refine blk_alloc ?_ _;exact blk_new' _ (by simp))
  have kf:W3.heap[W0.heap.size + 1 + 1]? = some (.cells #[.int .i64 rp,.int .i64 re] 99 (0,0)):=hcell (by rw [hWb];exact blk_new' _ (by simp))
  have ks:=hold HSC.out.blk
  have ka:=hold H3.out
  have kc:=hold H4.out
  have kd:=hold H5.out
  have kb:Below w.heap.size w W3:=H6.out.trans ((hbb.mono H6.out.size).trans ⟨by rw [hW3];rfl,by rw [hW3];rfl,by rw [hW3];rfl,by rw [hW3];simp,fun j hj=>by rw [hW3];exact World.putObj_heap_other (by omega)⟩)
  have q1:=blk_cell k1 0
  have qf0:=blk_cell kf 0
  have qf1:=blk_cell kf 1
  have qs1:=blk_cell ks 1
  have qa:=blk_cell ka 0
  have qc:=blk_cell kc 0
  have qd:=blk_cell kd 0
  have za:=blk_frozen ka 0
  have zc:=blk_frozen kc 0
  have zd:=blk_frozen kd 0
  refine post_hide2 (fun K2 hK2=>?_)
  have HK2:=Aside0.mk hK2
  have HKB:=Aside0.mk kb
  have HA:=Aside0.mk ka
  have HC:=Aside0.mk kc
  have HD:=Aside0.mk kd
  clear hK2 kb k1 kt kf ks ka kc kd hcell hold hbb hWb hR hW3
  have fin:∀ v1 v2:Int,((((W3.setCell ⟨w.heap.size,0,none⟩ (.slice none 0 0)).setCell ⟨w.heap.size + 1,0,none⟩ (.int .i64 v1)).setCell ⟨w.heap.size + 1 + 1,0,none⟩ (.int .i64 v2))).heap[w.heap.size]? = some (.cells #[.slice none 0 0] 62 (0,0)) ∧ ((((W3.setCell ⟨w.heap.size,0,none⟩ (.slice none 0 0)).setCell ⟨w.heap.size + 1,0,none⟩ (.int .i64 v1)).setCell ⟨w.heap.size + 1 + 1,0,none⟩ (.int .i64 v2))).heap[w.heap.size + 1]? = some (.cells #[.int .i64 v1] 3 (0,0)) ∧ ((((W3.setCell ⟨w.heap.size,0,none⟩ (.slice none 0 0)).setCell ⟨w.heap.size + 1,0,none⟩ (.int .i64 v1)).setCell ⟨w.heap.size + 1 + 1,0,none⟩ (.int .i64 v2))).heap[w.heap.size + 1 + 1]? = some (.cells #[.int .i64 v2] 28 (0,0)) ∧ Below w.heap.size w ((((W3.setCell ⟨w.heap.size,0,none⟩ (.slice none 0 0)).setCell ⟨w.heap.size + 1,0,none⟩ (.int .i64 v1)).setCell ⟨w.heap.size + 1 + 1,0,none⟩ (.int .i64 v2))):=fun v1 v2 =>
   ⟨(Below.heap_setCell _ _ _ _ (by simp only;omega)).trans ((Below.heap_setCell _ _ _ _ (by simp only;omega)).trans (blk_put HA.out 0 _ rfl)),(Below.heap_setCell _ _ _ _ (by simp only;omega)).trans (blk_put ((Below.heap_setCell _ _ _ _ (by simp only;omega)).trans HC.out) 0 _ rfl),blk_put ((Below.heap_setCell _ _ _ _ (by simp only;omega)).trans ((Below.heap_setCell _ _ _ _ (by simp only;omega)).trans HD.out)) 0 _ rfl,((HKB.out.setCell (by simp only;omega) _).setCell (by simp only;omega) _).setCell (by simp only;omega) _⟩
  have fin2:∀ (v1 v2:Int) (k:Nat) (b:Obj),W3.heap[k]? = some b → b.isCells=false → ((((W3.setCell ⟨w.heap.size,0,none⟩ (.slice none 0 0)).setCell ⟨w.heap.size + 1,0,none⟩ (.int .i64 v1)).setCell ⟨w.heap.size + 1 + 1,0,none⟩ (.int .i64 v2))).heap[k]? = some b:=fun v1 v2 k b hb hc=>by
   have n1:k ≠ w.heap.size:=by rintro rfl;rw [HA.out] at hb;cases hb;cases hc
   have n2:k ≠ w.heap.size + 1:=by rintro rfl;rw [HC.out] at hb;cases hb;cases hc
   have n3:k ≠ w.heap.size + 1 + 1:=by rintro rfl;rw [HD.out] at hb;cases hb;cases hc
   exact (Below.heap_setCell _ _ _ _ (by simpa using n3)).trans ((Below.heap_setCell _ _ _ _ (by simpa using n2)).trans ((Below.heap_setCell _ _ _ _ (by simpa using n1)).trans hb))
  have n1:W0.heap.size + 1 + 1 ≠ w.heap.size:=by have:=H6.out.size;omega
  have n2:W0.heap.size + 1 + 1 ≠ w.heap.size + 1:=by have:=H6.out.size;omega
  have n3:W0.heap.size + 1 + 1 ≠ w.heap.size + 1 + 1:=by have:=H6.out.size;omega
  have HF:=Aside0.mk fin
  have HF2:=Aside0.mk fin2
  clear fin fin2
  by_cases h8:xs.length=8192
  ·have e1:((xs.length:Int) == 8192)=true:=by rw [h8];rfl
   have e2:(xs.length == 8192)=true:=by rw [h8];rfl
   have HP2:Aside0 (pe=((j:Int),3)):=⟨by rw [HPE.out,if_pos h8]⟩
   clear h8
   gi_wp2_with (fail)
   gi_region
   all_goals (gi_wp2_with (fail);refine HK2.out _ _ ?_;rw [HP2.out];exact ⟨trivial,⟨(HF.out (j:Int) 3).1,(HF.out (j:Int) 3).2.1,(HF.out (j:Int) 3).2.2.1,below_drew1 (HF.out (j:Int) 3).2.2.2⟩,fun k b hb _ hc=>HF2.out (j:Int) 3 k b hb hc⟩)
  ·have e1:((xs.length:Int) == 8192)=false:=beq_eq_false_iff_ne.mpr (by omega)
   have e2:(xs.length == 8192)=false:=beq_eq_false_iff_ne.mpr h8
   have hre:re ≠ 0:=HCA.out.elim (fun q=>absurd q h8) id
   have e3:(re == 0)=false:=beq_eq_false_iff_ne.mpr hre
   have HP2:Aside0 (pe=(rp,re)):=⟨by rw [HPE.out,if_neg h8]⟩
   clear h8 hre
   gi_wp2_with (fail)
   gi_region
   all_goals (gi_wp2_with (fail);refine HK2.out _ _ ?_;rw [HP2.out];exact ⟨trivial,⟨(HF.out (rp) re).1,(HF.out (rp) re).2.1,(HF.out (rp) re).2.2.1,below_drew1 (HF.out (rp) re).2.2.2⟩,fun k b hb _ hc=>HF2.out (rp) re k b hb hc⟩)
 case stop =>
  intro D j W hz hD hI hK
  obtain ⟨d2,d3,d4,dB⟩:=hI
  have dD:=hK
  clear hb0 hb1 hb2 hb3 hb4 hb5 hbl
  have HZ0:=Aside0.mk hz
  obtain ⟨pe,hpe2⟩:∃ pe,pe=tokPE s xs j:=⟨_,rfl⟩
  rw [← hpe2] at d3 d4
  have HPE:=Aside0.mk hpe2
  have HD2:=Aside0.mk d2
  have HD3:=Aside0.mk d3
  have HD4:=Aside0.mk d4
  have HDB:=Aside0.mk dB
  have HDD:=Aside0.mk dD
  clear hpe2 hz hK d2 d3 d4 dB dD
  gi_wp2_with (fail)
  refine ⟨by simp,.inl ⟨_,_,rfl,run_takeDeferred HDD.out,?_⟩⟩
  have ne:∀ {j:Nat} {c t f},W.heap[j]? = some (.cells c t f) → (W.putObj D (.deferred none)).heap[j]? = some (.cells c t f):=fun {j} {c} {t} {f} h=>(World.putObj_heap_other (by rintro rfl;rw [h] at HDD;have q:=HDD.out;cases q)).trans h
  have e2:=blk_cell (ne HD2.out) 0
  have e3:=blk_cell (ne HD3.out) 0
  have e4:=blk_cell (ne HD4.out) 0
  refine ⟨.tuple #[.slice none 0 0,.int .i64 pe.1,.int .i64 pe.2],?_,.inr ⟨j,HZ0.out,by rw [HPE.out],HDB.out.trans ⟨rfl,rfl,rfl,by simp,fun j hj=>World.putObj_heap_other (by omega)⟩⟩⟩
  simp [results,Tryz.results35,go_sem,e2,e3,e4]
 case done =>
  intro hPN D W hD hI hK
  have HPN:=Aside0.mk hPN
  clear hPN
  obtain ⟨v,h1,h2,h3,h4,h5,h6⟩:=hI
  obtain ⟨A,cap,rfl⟩:=Kd.R_slice h2
  clear hb0 hb1 hb2 hb3 hb4 hb5 hbl
  have q1:=blk_cell h1 0
  have q2:=blk_cell h3 0
  have q3:=blk_cell h4 0
  have q4:=blk_cell h5 0
  have z2:=blk_frozen h3 0
  have z3:=blk_frozen h4 0
  have z4:=blk_frozen h5 0
  have H1:=Aside0.mk h1
  have H2:=Aside0.mk h2
  have H3:=Aside0.mk h3
  have H4:=Aside0.mk h4
  have H5:=Aside0.mk h5
  have H6:=Aside0.mk h6
  have HK:=Aside0.mk hK
  clear h1 h2 h3 h4 h5 h6 hK
  gi_wp2_with (fail)
  obtain ⟨WF,hWF⟩:∃ WF,WF=((W.setCell ⟨w.heap.size,0,none⟩ (.slice A xs.length cap)).setCell ⟨w.heap.size + 1,0,none⟩ (.int .i64 0)).setCell ⟨w.heap.size + 1 + 1,0,none⟩ (.int .i64 0):=⟨_,rfl⟩
  rw [← hWF]
  have d2:WF.heap[w.heap.size]? = some (.cells #[.slice A xs.length cap] 62 (0,0)):=by
   rw [hWF]
   exact (Below.heap_setCell _ _ _ _ (by simp only;omega)).trans ((Below.heap_setCell _ _ _ _ (by simp only;omega)).trans (blk_put H3.out 0 _ rfl))
  have d3:WF.heap[w.heap.size + 1]? = some (.cells #[.int .i64 0] 3 (0,0)):=by
   rw [hWF]
   exact (Below.heap_setCell _ _ _ _ (by simp only;omega)).trans (blk_put ((Below.heap_setCell _ _ _ _ (by simp only;omega)).trans H4.out) 0 _ rfl)
  have d4:WF.heap[w.heap.size + 1 + 1]? = some (.cells #[.int .i64 0] 28 (0,0)):=by
   rw [hWF]
   exact blk_put ((Below.heap_setCell _ _ _ _ (by simp only;omega)).trans ((Below.heap_setCell _ _ _ _ (by simp only;omega)).trans H5.out)) 0 _ rfl
  have dD:WF.heap[D]? = some (.deferred (some [])):=by
   rw [hWF]
   exact (Below.heap_setCell _ _ _ _ (by simp only;omega)).trans ((Below.heap_setCell _ _ _ _ (by simp only;omega)).trans ((Below.heap_setCell _ _ _ _ (by simp only;omega)).trans HK.out))
  have dB:Below w.heap.size w WF:=by
   rw [hWF]
   exact ((H6.out.setCell (by simp only;omega) _).setCell (by simp only;omega) _).setCell (by simp only;omega) _
  have dR:Kd.R k70 70 WF w.heap.size (fun k=>w.heap.size + 1 + 1 + 1 + 1 + 1 + 1 ≤ k) (.slice A xs.length cap) xs:=by
   rw [hWF]
   exact Kd.R_far (Kd.R_far (Kd.R_far H2.out (fun k hk=>by simp only;omega) _) (fun k hk=>by simp only;omega) _) (fun k hk=>by simp only;omega) _
  refine ⟨by simp,.inl ⟨_,_,rfl,run_takeDeferred dD,?_⟩⟩
  have ne:∀ {j:Nat} {c t f},WF.heap[j]? = some (.cells c t f) → (WF.putObj D (.deferred none)).heap[j]? = some (.cells c t f):=fun {j} {c} {t} {f} h=>(World.putObj_heap_other (by rintro rfl;rw [h] at dD;cases dD)).trans h
  have e2:=blk_cell (ne d2) 0
  have e3:=blk_cell (ne d3) 0
  have e4:=blk_cell (ne d4) 0
  refine ⟨.tuple #[.slice A xs.length cap,.int .i64 0,.int .i64 0],?_,.inl ⟨HPN.out,_,rfl,?_,dB.trans ⟨rfl,rfl,rfl,by simp,fun j hj=>World.putObj_heap_other (by omega)⟩⟩⟩
  ·simp [results,Tryz.results35,go_sem,e2,e3,e4]
  ·refine Kd.R_mono (Kd.R_move (Kd.R_bound dR) (fun j hj=>?_)) (fun _ _=>trivial)
   obtain ⟨_,_,_,q,_,cells,hcl⟩:=hj
   exact (ne hcl).trans hcl.symm
end Go.Proofs.YtjapfefiaijfcaaGreatDoor.Q
namespace Go.Proofs.YtjapfefiaijfcaaGreatDoor.Q
open Go.RowKit Go.Proofs.YtjapfefiaijfcaaGreatDoorW.PrintWords Go.Proofs.YtjapfefiaijfcaaGreatDoorW.PrintLast Go.Proofs.YtjapfefiaijfcaaGreatDoorW.PrintMore
set_option linter.unusedVariables false
attribute [local go_sem] Oper.semAt_some
set_option maxHeartbeats 2000000 in
theorem tokens_Tokens_long.calls (s:ByteArray) (hs:65536 < s.size) (w:World) :
  Calls Tryz.prog 35 #[.string s] w fun e w'=>e = .returned (.tuple #[.slice none 0 0,.int .i64 0,.int .i64 3]) ∧ Below w.heap.size w w':=by
 have d0:decide ((65536:Int) < (s.size:Int))=true:=decide_eq_true (by omega)
 have d1:decide (65536 < s.size)=true:=decide_eq_true (by omega)
 clear hs
 go_enter Tryz.func35,Tryz.ntmps35
 go_wp2
 have b2:(((w.alloc (.cells #[.slice none 0 0] 62)).alloc (.cells #[.int .i64 0] 3)).alloc (.cells #[.int .i64 3] 28)).heap[w.heap.size + 1 + 1]? = some (.cells #[.int .i64 3] 28 (0,0)):=blk_new' _ (by simp)
 have b1:(((w.alloc (.cells #[.slice none 0 0] 62)).alloc (.cells #[.int .i64 0] 3)).alloc (.cells #[.int .i64 3] 28)).heap[w.heap.size + 1]? = some (.cells #[.int .i64 0] 3 (0,0)):=blk_alloc (blk_new' _ (by simp)) _
 have b0:(((w.alloc (.cells #[.slice none 0 0] 62)).alloc (.cells #[.int .i64 0] 3)).alloc (.cells #[.int .i64 3] 28)).heap[w.heap.size]? = some (.cells #[.slice none 0 0] 62 (0,0)):=blk_alloc (blk_alloc (blk_new' _ rfl) _) _
 have e0:=blk_cell b0 0
 have e1:=blk_cell b1 0
 have e2:=blk_cell b2 0
 refine bodyPost_ret (v:=.tuple #[.slice none 0 0,.int .i64 0,.int .i64 3]) (by simp [results,Tryz.results35,go_sem,e0,e1,e2]) rfl ?_
 exact ⟨rfl,(((Below.refl _ w).alloc (Nat.le_refl _) _).alloc (by simp) _).alloc (by simp;omega) _⟩
def TokPost (o:List S70 ⊕ Int × Int) (w:World) (e:Ending) (w':World):Prop :=
 match o with
 | .inl xs=>∃ v0_:Value,e = .returned (.tuple #[v0_,.int .i64 0,.int .i64 0]) ∧ Kd.R k70 70 w' w.heap.size (fun k_=>True) v0_ xs ∧ Below w.heap.size w w'
 | .inr pe=>e = .returned (.tuple #[.slice none 0 0,.int .i64 pe.1,.int .i64 pe.2]) ∧ Below w.heap.size w w'
end Go.Proofs.YtjapfefiaijfcaaGreatDoor.Q
