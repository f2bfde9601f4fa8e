/- The contract of the scanner's string, at every text and place. -/
import Derived.StillTailTactics
import Derived.WalkMore
import Derived.IntWalk
import Derived.RegionTactic
import Derived.ChangeAlike
import Derived.Outline
import Derived.Test.YtjapfefiaijfcaaGreatDoorH5
import Derived.Test.YtjapfefiaijfcaaGreatDoorH8
namespace Go.Proofs.YtjapfefiaijfcaaGreatDoor.Q
open Go.RowKit Go.Proofs.YtjapfefiaijfcaaGreatDoorW.PrintWords Go.Proofs.YtjapfefiaijfcaaGreatDoorW.PrintLast Go.Proofs.YtjapfefiaijfcaaGreatDoorW.PrintMore
set_option linter.unusedVariables false
def frS (f:Nat → Value) (g tb:Nat) (vb:Value) (i:Nat) (n k:Value):Array Value:=#[.pointer (some ⟨g,0,none⟩),f 1,.pointer (some ⟨tb,0,none⟩),f 3,f 4,vb,.int .i64 (i:Nat),n,k,f 9,f 10,f 11,f 12,f 13,f 14,f 15,f 16,f 17,f 18,f 19,f 20,f 21,f 22,f 23,f 24,f 25,f 26,f 27,f 28,f 29,f 30,f 31,f 32,f 33,f 34,f 35,f 36,f 37,f 38,f 39,f 40,f 41,f 42,f 43,f 44,f 45,f 46,f 47,f 48,f 49,f 50,f 51,f 52,f 53,f 54,f 55,f 56,f 57,f 58,f 59,f 60,f 61,f 62,f 63,f 64,f 65,f 66,f 67,f 68,f 69,f 70,f 71,f 72,f 73,f 74,f 75,f 76,f 77,f 78,f 79,f 80,f 81,f 82,f 83,f 84,f 85,f 86,f 87,f 88,f 89,f 90,f 91,f 92,f 93,f 94,f 95,f 96,f 97,f 98,f 99,f 100,f 101,f 102,f 103,f 104,f 105,f 106,f 107,f 108,f 109,f 110,f 111,f 112,f 113,f 114,f 115,f 116,f 117,f 118,f 119,f 120,f 121,f 122,f 123,f 124,f 125,f 126,f 127,f 128,f 129,f 130,f 131,f 132,f 133,f 134,f 135,f 136,f 137,f 138,f 139,f 140,f 141,f 142,f 143,f 144,f 145,f 146,f 147,f 148,f 149,f 150,f 151,f 152,f 153,f 154,f 155,f 156,f 157,f 158,f 159,f 160,f 161,f 162,f 163,f 164,f 165,f 166,f 167,f 168,f 169,f 170,f 171,f 172,f 173,f 174,f 175,f 176,f 177,f 178,f 179,f 180,f 181,f 182,f 183,f 184,f 185]
structure StrW (w:World) (g:Nat) (s:ByteArray) (p:Nat) (vb:Value) (b:List Int) (W:World):Prop where
 scan:Scan W g s p
 tok:W.heap[w.heap.size]? = some (.cells #[.int .u8 0,.string ⟨#[]⟩,.int .i64 0,.int .i64 0] 70 (0,0))
 row:Kd.R (Kd.int .u8) 5 W w.heap.size (fun k=>k ≠ w.heap.size) vb b
 below:Below w.heap.size w W
def JS (w:World) (g:Nat) (s:ByteArray) (p:Nat) (r:StrR) (l m:Nat) (a:Act) (W:World):Prop:=∃ (st:StrSt) (f:Nat → Value) (vb n k:Value),st.lab=l ∧ strRun s p m st=some r ∧ StrInv s p st ∧ st.b.length + st.k ≤ st.i ∧ a=⟨frS f g w.heap.size vb st.i n k,[]⟩ ∧ (∀ i b n' k',st = .digits i b n' k' → n = .int .i64 (n':Nat) ∧ k = .int .i64 (k':Nat)) ∧ StrW w g s p vb st.b W
def StrPost (w:World) (r:StrR) (e:Ending) (w':World):Prop:=e = .returned (.tuple #[.agg #[.int .u8 r.1.f0,.string r.1.f1,.int .i64 r.1.f2,.int .i64 r.1.f3],.int .i64 r.2.1,.int .i64 r.2.2]) ∧ Below w.heap.size w w'
theorem or_digit (a:Nat) (c:Int) (ha:a < 64) (h1:48 ≤ c) (h2:c ≤ 55):bits .or .i64 (wrap64 ((a:Int) * 8)) ((c - 48) % 256)=((a * 8 + (c.toNat - 48):Nat):Int):=by
 obtain ⟨d,hd⟩:∃ d:Nat,c=(d:Int) + 48:=⟨(c - 48).toNat,by omega⟩
 subst hd
 have e1:wrap64 ((a:Int) * 8)=((a * 8:Nat):Int):=by unfold wrap64;omega
 have e2:((d:Int) + 48 - 48) % 256=((d:Nat):Int):=by omega
 have e3:((d:Int) + 48).toNat - 48=d:=by omega
 have hd8:d < 8:=by omega
 have hx:a * 8 ||| d=a * 8 + d:=by
  have:=Nat.shiftLeft_add_eq_or_of_lt (i:=3) hd8 a
  rw [Nat.shiftLeft_eq] at this
  exact this.symm
 have g1:(BitVec.ofInt 64 ((a * 8:Nat):Int)).toNat=a * 8:=by
  rw [BitVec.ofInt_natCast,BitVec.toNat_ofNat];exact Nat.mod_eq_of_lt (by omega)
 have g2:(BitVec.ofInt 64 (d:Int)).toNat=d:=by
  rw [BitVec.ofInt_natCast,BitVec.toNat_ofNat];exact Nat.mod_eq_of_lt (by omega)
 rw [e1,e2,e3]
 show IntKind.i64.wrap ((BitVec.ofInt 64 ((a * 8:Nat):Int) ||| BitVec.ofInt 64 (d:Int)).toNat:Int)=_
 rw [BitVec.toNat_or,g1,g2,hx]
 exact IntWalk.i64_in _ (by omega)
theorem skipB_go (s:ByteArray) (j:Nat) (h:j < s.size) (hb:bt s (j:Int)=32 ∨ bt s (j:Int)=9 ∨ bt s (j:Int)=13):skipB s (s.size - j) j=skipB s (s.size - (j + 1)) (j + 1):=by
 obtain ⟨d,hd⟩:∃ d,s.size - j=d + 1:=⟨s.size - j - 1,by omega⟩
 rw [hd,show s.size - (j + 1)=d by omega]
 rw [skipB,if_pos h,if_pos hb]
theorem skipB_stop (s:ByteArray) (j:Nat) (h:j < s.size) (hb:¬ (bt s (j:Int)=32 ∨ bt s (j:Int)=9 ∨ bt s (j:Int)=13)):skipB s (s.size - j) j=j:=by
 obtain ⟨d,hd⟩:∃ d,s.size - j=d + 1:=⟨s.size - j - 1,by omega⟩
 rw [hd,skipB,if_pos h,if_neg hb]
theorem skipB_end (s:ByteArray) (j:Nat) (h:s.size ≤ j):skipB s (s.size - j) j=j:=by
 rw [show s.size - j=0 by omega,skipB]
theorem four_put {w1:World} {b:Nat} {t:TypeId} (h:w1.heap[b]? = some (.cells #[.int .u8 0,.string ⟨#[]⟩,.int .i64 0,.int .i64 0] t (0,0))) (v0 v1 v2 v3:Value) :
  ((((w1.setCell ⟨b,0,none⟩ v0).setCell ⟨b,1,none⟩ v1).setCell ⟨b,2,none⟩ v2).setCell ⟨b,3,none⟩ v3).heap[b]? = some (.cells #[v0,v1,v2,v3] t (0,0)):=by
 have R:=blk_set (blk_set (blk_set (blk_set h 0 v0) 1 v1) 2 v2) 3 v3
 simpa using R
theorem js_close {w:World} {g:Nat} {s:ByteArray} {p:Nat} {r:StrR} {m:Nat} {W:World} (st:StrSt) (vb n k:Value) (a':Act) (hr:strRun s p m st=some r) (hi:StrInv s p st) (hb:st.b.length + st.k ≤ st.i) (hd:a'.defers=[])
  (hl:a'.tmps=frS (fun j=>a'.tmps.getD j undef) g w.heap.size vb st.i n k) (hnk:∀ i b n' k',st = .digits i b n' k' → n = .int .i64 (n':Nat) ∧ k = .int .i64 (k':Nat)) (hW:StrW w g s p vb st.b W):JS w g s p r st.lab m a' W :=
 ⟨st,fun j=>a'.tmps.getD j undef,vb,n,k,rfl,hr,hi,hb,by rw [← hl,← hd],hnk,hW⟩
theorem strRun_l {s:ByteArray} {p m:Nat} {st st':StrSt} {r:StrR} (h:strRun s p (m + 1) st=some r) (e:strStep s p st = .inl st'):strRun s p m st' = some r:=by
 unfold strRun at h;rw [e] at h;exact h
theorem strRun_r {s:ByteArray} {p m:Nat} {st:StrSt} {r r':StrR} (h:strRun s p (m + 1) st=some r) (e:strStep s p st = .inr r'):r' = r:=by
 unfold strRun at h;rw [e] at h;exact Option.some.inj h
set_option maxHeartbeats 8000000 in
set_option maxRecDepth 100000 in
theorem tokens_str_all.calls (g:Nat) (s:ByteArray) (p:Nat) (r:StrR) (N:Nat) (w:World) (hS:Scan w g s p) (hs:s.size ≤ 65536) (hp:p < s.size) (hr:strRun s p N (.plain (p + 1) [])=some r) :
  Calls Tryz.prog 102 #[.pointer (some ⟨g,0,none⟩)] w (StrPost w r):=by
 have HS:=Aside0.mk hS
 have hB:∀ o:Obj,Below w.heap.size w (w.alloc o):=fun o=>(Below.refl _ _).alloc (Nat.le_refl _) o
 have f1:∀ o:Obj,(w.alloc o).cell? ⟨g,1,none⟩=some (.int .i64 p):=fun o=>(hS.keep (hB o)).c1
 have HB:=Aside0.mk hB
 have HR:=Aside0.mk hr
 have HP:=Aside0.mk hp
 have q4:IntKind.i64.wrap ((p:Int) + 1)=((p + 1:Nat):Int):=by rw [show ((p + 1:Nat):Int)=(p:Int) + 1 from rfl];exact IntWalk.i64_in _ (by omega)
 have HNew:=Aside0.mk (fun o:Obj=>blk_new w o)
 have HSz:=Aside0.mk hs
 clear hB hS hr hp
 go_enter Tryz.func102,Tryz.ntmps102
 go_wp2
 refine wp_scope_labels (JS w g s p r) ?first ?pass
 case first =>
  have hW:StrW w g s p (.slice none 0 0) ([]:List Int) (w.alloc (.cells #[.int .u8 0,.string ⟨#[]⟩,.int .i64 0,.int .i64 0] 70)):=⟨HS.out.keep (HB.out _),HNew.out _,Kd.R_nil _ _ _ _ _,HB.out _⟩
  have hrun:=HR.out
  cases N with
  | zero=>exact absurd hrun (by simp [strRun])
  | succ m =>
   clear HR
   go_wp2
   go_step3
   clear q4 f1
   have hi1:p + 1 ≤ p + 1:=Nat.le_refl _
   have hi2:p + 1 ≤ s.size:=by have:=HP.out;omega
   have hbl:([]:List Int).length + 0 ≤ p + 1:=by simp
   have ep:(p:Int) + 1=((p + 1:Nat):Int):=rfl
   rw [ep]
   clear ep
   obtain ⟨i,hi⟩:∃ i,i=p + 1:=⟨_,rfl⟩
   rw [← hi] at hi2 hrun hbl ⊢
   replace hi1:p + 1 ≤ i:=by omega
   clear hi
   obtain ⟨b,hb⟩:∃ b,b=([]:List Int):=⟨_,rfl⟩
   rw [← hb] at hrun hW hbl
   clear hb
   obtain ⟨vb,hvb⟩:∃ vb,vb=Value.slice none 0 0:=⟨_,rfl⟩
   rw [← hvb] at hW ⊢
   clear hvb
   obtain ⟨W,hWW⟩:∃ W,W=w.alloc (.cells #[.int .u8 0,.string ⟨#[]⟩,.int .i64 0,.int .i64 0] 70):=⟨_,rfl⟩
   rw [← hWW] at hW ⊢
   clear hWW
   have HW:=Aside0.mk hW
   have HRun:=Aside0.mk hrun
   have HBl:=Aside0.mk (show (StrSt.plain i b).b.length + (StrSt.plain i b).k ≤ (StrSt.plain i b).i from hbl)
   clear hW hrun hbl
   obtain ⟨n,hn⟩:∃ n,n=Value.int IntKind.i64 0:=⟨_,rfl⟩
   obtain ⟨k,hk⟩:∃ k,k=Value.int IntKind.i64 0:=⟨_,rfl⟩
   clear hn hk
   have c0:=HW.out.scan.c0
   have c1:=HW.out.scan.c1
   have t0:=blk_cell HW.out.tok 0
   have t1:=blk_cell HW.out.tok 1
   have t2:=blk_cell HW.out.tok 2
   have t3:=blk_cell HW.out.tok 3
   have hn1:g ≠ w.heap.size:=Nat.ne_of_lt HS.out.lt
   have hn2:w.heap.size ≠ g:=Nat.ne_of_gt HS.out.lt
   have x0:=blk_frozen HW.out.tok 0
   have x1:=blk_frozen HW.out.tok 1
   have x2:=blk_frozen HW.out.tok 2
   have x3:=blk_frozen HW.out.tok 3
   have y0:(0 ≤ (i:Int))=True:=eq_true (by omega)
   by_cases hlt:i < s.size
   ·have d1:decide ((i:Int) < (s.size:Int))=true:=decide_eq_true (by omega)
    have d2:decide (i < s.size)=true:=decide_eq_true hlt
    obtain ⟨c,hc⟩:∃ c,c=bt s (i:Int):=⟨_,rfl⟩
    have b1:=bt_atN' s i
    rw [← hc] at b1
    have l1:decide ((s.size:Int) ≤ (i:Int))=false:=decide_eq_false (by omega)
    have l2:decide (s.size ≤ i)=false:=decide_eq_false (by omega)
    have z1:((i:Int) < (s.size:Int))=True:=eq_true (by omega)
    have z3:(i < s.size)=True:=eq_true hlt
    have q5:IntKind.i64.wrap ((i:Int) + 1)=((i + 1:Nat):Int):=by rw [show ((i + 1:Nat):Int)=(i:Int) + 1 from rfl];exact IntWalk.i64_in _ (by omega)
    have HC:=Aside0.mk hc
    have HLt:=Aside0.mk hlt
    clear hc hlt
    by_cases h10:c=10
    ·have e10:(c == 10)=true:=by simp [h10]
     have H10:=Aside0.mk h10
     clear h10
     go_wp2
     have HE:=Aside0.mk (strRun_r HRun.out (by simp only [strStep];rw [if_neg (by have:=HLt.out;omega),if_pos (by rw [← HC.out];exact H10.out)]))
     go_region
     go_wp2_with (fail)
     change bodyPost Tryz.prog Tryz.f102 (StrPost w r) Exit.ret _ _
     have R:=four_put HW.out.tok (.int .u8 0) (.string ⟨#[]⟩) (.int .i64 0) (.int .i64 0)
     have e0:=blk_cell R 0
     have e1:=blk_cell R 1
     have e2:=blk_cell R 2
     have e3:=blk_cell R 3
     refine bodyPost_ret (v:=.tuple #[.agg #[.int .u8 0,.string ⟨#[]⟩,.int .i64 0,.int .i64 0],.int .i64 p,.int .i64 141]) ?_ rfl ⟨?_,?_⟩
     ·simp [results,Tryz.results102,go_sem,e0,e1,e2,e3]
     ·rw [← HE.out];first | done | rfl
     ·repeat (first | apply below_set' | exact HW.out.below | apply below_drew1)
    ·have e10:(c == 10)=false:=by simp [h10]
     have H10:=Aside0.mk h10
     clear h10
     by_cases h34:c=34
     ·have e34:(c == 34)=true:=by simp [h34]
      have H34:=Aside0.mk h34
      clear h34
      have hcv0:(convert 48 9 vb).run Tryz.prog W = .ok (.string (strOfNums b)) W:=by
       obtain ⟨A,cp,e,_,hr⟩:=Kd.R_reads HW.out.row
       rw [e]
       exact Kd.C_string Tryz.underlying48 Tryz.underlying5 Tryz.underlying9 hr
      have hcv:(convert 48 9 vb).run Tryz.prog W.drew = .ok (.string (strOfNums b)) W.drew:=by
       obtain ⟨A,cp,e,_,hr⟩:=Kd.R_reads HW.out.row
       rw [e]
       exact Kd.C_string Tryz.underlying48 Tryz.underlying5 Tryz.underlying9 hr
      go_wp2
      have HE:=Aside0.mk (strRun_r HRun.out (by simp only [strStep];rw [if_neg (by have:=HLt.out;omega),if_neg (by rw [← HC.out];exact H10.out),if_pos (by rw [← HC.out];exact H34.out)]))
      refine still_tail 8 (by kernel_rfl) (by kernel_rfl) ?_
      simp only [List.take_succ_cons,List.take_zero,List.drop_succ_cons,List.drop_zero]
      repeat still_step
      try refine wpStill_nil ?_
      go_wp2
      change bodyPost Tryz.prog Tryz.f102 (StrPost w r) Exit.ret _ _
      have R:=four_put HW.out.tok (.int .u8 4) (.string (strOfNums b)) (.int .i64 (p:Nat)) (.int .i64 ((i:Int) + 1))
      have e0:=blk_cell R 0
      have e1:=blk_cell R 1
      have e2:=blk_cell R 2
      have e3:=blk_cell R 3
      refine bodyPost_ret (v:=.tuple #[.agg #[.int .u8 4,.string (strOfNums b),.int .i64 (p:Nat),.int .i64 ((i:Int) + 1)],.int .i64 0,.int .i64 0]) ?_ rfl ⟨?_,?_⟩
      ·simp [results,Tryz.results102,go_sem,e0,e1,e2,e3]
      ·rw [← HE.out];first | done | rfl
      ·repeat (first | apply below_set' | exact HW.out.below | apply below_drew1)
     ·have e34:(c == 34)=false:=by simp [h34]
      have H34:=Aside0.mk h34
      clear h34
      by_cases h92:c=92
      ·have e92:(c == 92)=true:=by simp [h92]
       have H92:=Aside0.mk h92
       clear h92
       go_wp2
       go_step3
       have hr2:=strRun_l HRun.out (by simp only [strStep];rw [if_neg (by have:=HLt.out;omega),if_neg (by rw [← HC.out];exact H10.out),if_neg (by rw [← HC.out];exact H34.out),if_pos (by rw [← HC.out];exact H92.out)])
       try rw [← HC.out] at hr2
       exact ⟨m,js_close (.slash (i + 1) b) vb (.int .i64 0) (.int .i64 0) _ hr2 (by have:=HLt.out;simp only [StrInv];omega) (by have:=HBl.out;have q:=HLt.out;simp [StrSt.b,StrSt.k,StrSt.i] at this ⊢;omega) rfl rfl (by intro i_ b_ n_ k_ h_;cases h_) HW.out⟩
      ·have e92:(c == 92)=false:=by simp [h92]
       have H92:=Aside0.mk h92
       clear h92
       go_wp2_with (first | ((with_reducible refine gate_builtin (b:=.append) (xs:=#[.tmp 57,.tmp 59]) rfl ?_);(try (refine gate_guard (by rfl) ?_;dsimp only));at_builtin;refine Kd.R_append (Kd.int .u8) (w0:=w) w.heap.size rfl (.tmp 57) (.tmp 59) 48 5 (.int .u8 0) 1 rfl Tryz.underlying48 info5 rfl (by decide) (by omega) vb b c [.int .u8 c] (fun k_=>k_ ≠ w.heap.size) (fun _=>False) rfl ?aX ?aP (fun _ hk=>hk.elim) ?aF ?aO ?aB ?aS ?aL ?_;(case aX=>simp [Act.eval]);(case aP=>exact rfl);(case aB=>exact HW.out.below);(case aF=>(intro k_ hk;have hk2:=blk_lt HW.out.tok;exact fun e_=>by omega));(case aO=>exact HW.out.row);(case aS=>exact HW.out.below.size);(case aL=>have:=HBl.out;simp only [StrSt.b,StrSt.k,StrSt.i] at this;omega);intro v1 w1 ho hb hg hat;have HO1:=Aside0.mk ho;have HB1:=Aside0.mk hb;have HG1:=Aside0.mk hg;clear ho hb hg hat))
       have hW1:StrW w g s p v1 (b ++ [c]) w1:=⟨⟨blk_grown HW.out.scan.blk HG1.out (fun e_=>by have q1:=Kd.R_base HW.out.row g e_.symm;have q2:=HS.out.lt;omega)⟩,blk_grown HW.out.tok HG1.out (Kd.R_away HW.out.row (fun _ hk=>hk)),HO1.out,HB1.out⟩
       go_step3
       have hr2:=strRun_l HRun.out (by simp only [strStep];rw [if_neg (by have:=HLt.out;omega),if_neg (by rw [← HC.out];exact H10.out),if_neg (by rw [← HC.out];exact H34.out),if_neg (by rw [← HC.out];exact H92.out)])
       try rw [← HC.out] at hr2
       exact ⟨m,js_close (.plain (i + 1) (b ++ [c])) v1 (.int .i64 0) (.int .i64 0) _ hr2 (by have:=HLt.out;simp only [StrInv];omega) (by have:=HBl.out;have q:=HLt.out;simp [StrSt.b,StrSt.k,StrSt.i] at this ⊢;omega) rfl rfl (by intro i_ b_ n_ k_ h_;cases h_) hW1⟩
   ·have l1:decide ((s.size:Int) ≤ (i:Int))=true:=decide_eq_true (by omega)
    have l2:decide (s.size ≤ i)=true:=decide_eq_true (by omega)
    have z1:((i:Int) < (s.size:Int))=False:=eq_false (by omega)
    have z3:(i < s.size)=False:=eq_false hlt
    have HLt:=Aside0.mk hlt
    clear hlt
    go_wp2
    have HE:=Aside0.mk (strRun_r HRun.out (by simp only [strStep];rw [if_pos (by have:=HLt.out;omega)]))
    go_region
    go_wp2_with (fail)
    change bodyPost Tryz.prog Tryz.f102 (StrPost w r) Exit.ret _ _
    have R:=four_put HW.out.tok (.int .u8 0) (.string ⟨#[]⟩) (.int .i64 0) (.int .i64 0)
    have e0:=blk_cell R 0
    have e1:=blk_cell R 1
    have e2:=blk_cell R 2
    have e3:=blk_cell R 3
    refine bodyPost_ret (v:=.tuple #[.agg #[.int .u8 0,.string ⟨#[]⟩,.int .i64 0,.int .i64 0],.int .i64 p,.int .i64 141]) ?_ rfl ⟨?_,?_⟩
    ·simp [results,Tryz.results102,go_sem,e0,e1,e2,e3]
    ·rw [← HE.out];first | done | rfl
    ·repeat (first | apply below_set' | exact HW.out.below | apply below_drew1)
 case pass =>
  rintro l m a W ⟨st,f,vb,n,k,hl,hrun,hinv,hbl,rfl,hnk,hW⟩
  clear f1 q4
  have HW:=Aside0.mk hW
  have HBl:=Aside0.mk hbl
  clear hW hbl
  cases m with
  | zero=>exact absurd hrun (by simp [strRun])
  | succ m =>
   cases st with
   | plain i b =>
    subst hl
    refine ⟨_,rfl,?_⟩
    obtain ⟨hi1,hi2⟩:=hinv
    have HRun:=Aside0.mk hrun
    clear hrun hnk
    unfold frS
    simp only [StrSt.i]
    replace HW:Aside0 (StrW w g s p vb b W):=HW
    have c0:=HW.out.scan.c0
    have c1:=HW.out.scan.c1
    have t0:=blk_cell HW.out.tok 0
    have t1:=blk_cell HW.out.tok 1
    have t2:=blk_cell HW.out.tok 2
    have t3:=blk_cell HW.out.tok 3
    have hn1:g ≠ w.heap.size:=Nat.ne_of_lt HS.out.lt
    have hn2:w.heap.size ≠ g:=Nat.ne_of_gt HS.out.lt
    have x0:=blk_frozen HW.out.tok 0
    have x1:=blk_frozen HW.out.tok 1
    have x2:=blk_frozen HW.out.tok 2
    have x3:=blk_frozen HW.out.tok 3
    have y0:(0 ≤ (i:Int))=True:=eq_true (by omega)
    by_cases hlt:i < s.size
    ·have d1:decide ((i:Int) < (s.size:Int))=true:=decide_eq_true (by omega)
     have d2:decide (i < s.size)=true:=decide_eq_true hlt
     obtain ⟨c,hc⟩:∃ c,c=bt s (i:Int):=⟨_,rfl⟩
     have b1:=bt_atN' s i
     rw [← hc] at b1
     have l1:decide ((s.size:Int) ≤ (i:Int))=false:=decide_eq_false (by omega)
     have l2:decide (s.size ≤ i)=false:=decide_eq_false (by omega)
     have z1:((i:Int) < (s.size:Int))=True:=eq_true (by omega)
     have z3:(i < s.size)=True:=eq_true hlt
     have q5:IntKind.i64.wrap ((i:Int) + 1)=((i + 1:Nat):Int):=by rw [show ((i + 1:Nat):Int)=(i:Int) + 1 from rfl];exact IntWalk.i64_in _ (by omega)
     have HC:=Aside0.mk hc
     have HLt:=Aside0.mk hlt
     clear hc hlt
     by_cases h10:c=10
     ·have e10:(c == 10)=true:=by simp [h10]
      have H10:=Aside0.mk h10
      clear h10
      go_wp2
      have HE:=Aside0.mk (strRun_r HRun.out (by simp only [strStep];rw [if_neg (by have:=HLt.out;omega),if_pos (by rw [← HC.out];exact H10.out)]))
      go_region
      go_wp2_with (fail)
      change bodyPost Tryz.prog Tryz.f102 (StrPost w r) Exit.ret _ _
      have R:=four_put HW.out.tok (.int .u8 0) (.string ⟨#[]⟩) (.int .i64 0) (.int .i64 0)
      have e0:=blk_cell R 0
      have e1:=blk_cell R 1
      have e2:=blk_cell R 2
      have e3:=blk_cell R 3
      refine bodyPost_ret (v:=.tuple #[.agg #[.int .u8 0,.string ⟨#[]⟩,.int .i64 0,.int .i64 0],.int .i64 p,.int .i64 141]) ?_ rfl ⟨?_,?_⟩
      ·simp [results,Tryz.results102,go_sem,e0,e1,e2,e3]
      ·rw [← HE.out];first | done | rfl
      ·repeat (first | apply below_set' | exact HW.out.below | apply below_drew1)
     ·have e10:(c == 10)=false:=by simp [h10]
      have H10:=Aside0.mk h10
      clear h10
      by_cases h34:c=34
      ·have e34:(c == 34)=true:=by simp [h34]
       have H34:=Aside0.mk h34
       clear h34
       have hcv0:(convert 48 9 vb).run Tryz.prog W = .ok (.string (strOfNums b)) W:=by
        obtain ⟨A,cp,e,_,hr⟩:=Kd.R_reads HW.out.row
        rw [e]
        exact Kd.C_string Tryz.underlying48 Tryz.underlying5 Tryz.underlying9 hr
       have hcv:(convert 48 9 vb).run Tryz.prog W.drew = .ok (.string (strOfNums b)) W.drew:=by
        obtain ⟨A,cp,e,_,hr⟩:=Kd.R_reads HW.out.row
        rw [e]
        exact Kd.C_string Tryz.underlying48 Tryz.underlying5 Tryz.underlying9 hr
       go_wp2
       have HE:=Aside0.mk (strRun_r HRun.out (by simp only [strStep];rw [if_neg (by have:=HLt.out;omega),if_neg (by rw [← HC.out];exact H10.out),if_pos (by rw [← HC.out];exact H34.out)]))
       refine still_tail 8 (by kernel_rfl) (by kernel_rfl) ?_
       simp only [List.take_succ_cons,List.take_zero,List.drop_succ_cons,List.drop_zero]
       repeat still_step
       try refine wpStill_nil ?_
       go_wp2
       change bodyPost Tryz.prog Tryz.f102 (StrPost w r) Exit.ret _ _
       have R:=four_put HW.out.tok (.int .u8 4) (.string (strOfNums b)) (.int .i64 (p:Nat)) (.int .i64 ((i:Int) + 1))
       have e0:=blk_cell R 0
       have e1:=blk_cell R 1
       have e2:=blk_cell R 2
       have e3:=blk_cell R 3
       refine bodyPost_ret (v:=.tuple #[.agg #[.int .u8 4,.string (strOfNums b),.int .i64 (p:Nat),.int .i64 ((i:Int) + 1)],.int .i64 0,.int .i64 0]) ?_ rfl ⟨?_,?_⟩
       ·simp [results,Tryz.results102,go_sem,e0,e1,e2,e3]
       ·rw [← HE.out];first | done | rfl
       ·repeat (first | apply below_set' | exact HW.out.below | apply below_drew1)
      ·have e34:(c == 34)=false:=by simp [h34]
       have H34:=Aside0.mk h34
       clear h34
       by_cases h92:c=92
       ·have e92:(c == 92)=true:=by simp [h92]
        have H92:=Aside0.mk h92
        clear h92
        go_wp2
        go_step3
        have hr2:=strRun_l HRun.out (by simp only [strStep];rw [if_neg (by have:=HLt.out;omega),if_neg (by rw [← HC.out];exact H10.out),if_neg (by rw [← HC.out];exact H34.out),if_pos (by rw [← HC.out];exact H92.out)])
        try rw [← HC.out] at hr2
        exact ⟨m,Nat.lt_succ_self _,js_close (.slash (i + 1) b) vb n k _ hr2 (by have:=HLt.out;simp only [StrInv];omega) (by have:=HBl.out;have q:=HLt.out;simp [StrSt.b,StrSt.k,StrSt.i] at this ⊢;omega) rfl rfl (by intro i_ b_ n_ k_ h_;cases h_) HW.out⟩
       ·have e92:(c == 92)=false:=by simp [h92]
        have H92:=Aside0.mk h92
        clear h92
        go_wp2_with (first | ((with_reducible refine gate_builtin (b:=.append) (xs:=#[.tmp 57,.tmp 59]) rfl ?_);(try (refine gate_guard (by rfl) ?_;dsimp only));at_builtin;refine Kd.R_append (Kd.int .u8) (w0:=w) w.heap.size rfl (.tmp 57) (.tmp 59) 48 5 (.int .u8 0) 1 rfl Tryz.underlying48 info5 rfl (by decide) (by omega) vb b c [.int .u8 c] (fun k_=>k_ ≠ w.heap.size) (fun _=>False) rfl ?aX ?aP (fun _ hk=>hk.elim) ?aF ?aO ?aB ?aS ?aL ?_;(case aX=>simp [Act.eval]);(case aP=>exact rfl);(case aB=>exact HW.out.below);(case aF=>(intro k_ hk;have hk2:=blk_lt HW.out.tok;exact fun e_=>by omega));(case aO=>exact HW.out.row);(case aS=>exact HW.out.below.size);(case aL=>have:=HBl.out;simp only [StrSt.b,StrSt.k,StrSt.i] at this;omega);intro v1 w1 ho hb hg hat;have HO1:=Aside0.mk ho;have HB1:=Aside0.mk hb;have HG1:=Aside0.mk hg;clear ho hb hg hat))
        have hW1:StrW w g s p v1 (b ++ [c]) w1:=⟨⟨blk_grown HW.out.scan.blk HG1.out (fun e_=>by have q1:=Kd.R_base HW.out.row g e_.symm;have q2:=HS.out.lt;omega)⟩,blk_grown HW.out.tok HG1.out (Kd.R_away HW.out.row (fun _ hk=>hk)),HO1.out,HB1.out⟩
        go_step3
        have hr2:=strRun_l HRun.out (by simp only [strStep];rw [if_neg (by have:=HLt.out;omega),if_neg (by rw [← HC.out];exact H10.out),if_neg (by rw [← HC.out];exact H34.out),if_neg (by rw [← HC.out];exact H92.out)])
        try rw [← HC.out] at hr2
        exact ⟨m,Nat.lt_succ_self _,js_close (.plain (i + 1) (b ++ [c])) v1 n k _ hr2 (by have:=HLt.out;simp only [StrInv];omega) (by have:=HBl.out;have q:=HLt.out;simp [StrSt.b,StrSt.k,StrSt.i] at this ⊢;omega) rfl rfl (by intro i_ b_ n_ k_ h_;cases h_) hW1⟩
    ·have l1:decide ((s.size:Int) ≤ (i:Int))=true:=decide_eq_true (by omega)
     have l2:decide (s.size ≤ i)=true:=decide_eq_true (by omega)
     have z1:((i:Int) < (s.size:Int))=False:=eq_false (by omega)
     have z3:(i < s.size)=False:=eq_false hlt
     have HLt:=Aside0.mk hlt
     clear hlt
     go_wp2
     have HE:=Aside0.mk (strRun_r HRun.out (by simp only [strStep];rw [if_pos (by have:=HLt.out;omega)]))
     go_region
     go_wp2_with (fail)
     change bodyPost Tryz.prog Tryz.f102 (StrPost w r) Exit.ret _ _
     have R:=four_put HW.out.tok (.int .u8 0) (.string ⟨#[]⟩) (.int .i64 0) (.int .i64 0)
     have e0:=blk_cell R 0
     have e1:=blk_cell R 1
     have e2:=blk_cell R 2
     have e3:=blk_cell R 3
     refine bodyPost_ret (v:=.tuple #[.agg #[.int .u8 0,.string ⟨#[]⟩,.int .i64 0,.int .i64 0],.int .i64 p,.int .i64 141]) ?_ rfl ⟨?_,?_⟩
     ·simp [results,Tryz.results102,go_sem,e0,e1,e2,e3]
     ·rw [← HE.out];first | done | rfl
     ·repeat (first | apply below_set' | exact HW.out.below | apply below_drew1)
   | slash i b =>
    subst hl
    refine ⟨_,rfl,?_⟩
    obtain ⟨hi1,hi2⟩:=hinv
    have HRun:=Aside0.mk hrun
    clear hrun hnk
    unfold frS
    simp only [StrSt.i]
    replace HW:Aside0 (StrW w g s p vb b W):=HW
    have c0:=HW.out.scan.c0
    have c1:=HW.out.scan.c1
    have t0:=blk_cell HW.out.tok 0
    have t1:=blk_cell HW.out.tok 1
    have t2:=blk_cell HW.out.tok 2
    have t3:=blk_cell HW.out.tok 3
    have hn1:g ≠ w.heap.size:=Nat.ne_of_lt HS.out.lt
    have hn2:w.heap.size ≠ g:=Nat.ne_of_gt HS.out.lt
    have x0:=blk_frozen HW.out.tok 0
    have x1:=blk_frozen HW.out.tok 1
    have x2:=blk_frozen HW.out.tok 2
    have x3:=blk_frozen HW.out.tok 3
    have y0:(0 ≤ (i:Int))=True:=eq_true (by omega)
    by_cases hlt:i < s.size
    ·have d1:decide ((i:Int) < (s.size:Int))=true:=decide_eq_true (by omega)
     have d2:decide (i < s.size)=true:=decide_eq_true hlt
     obtain ⟨c,hc⟩:∃ c,c=bt s (i:Int):=⟨_,rfl⟩
     have b1:=bt_atN' s i
     rw [← hc] at b1
     have l1:decide ((s.size:Int) ≤ (i:Int))=false:=decide_eq_false (by omega)
     have l2:decide (s.size ≤ i)=false:=decide_eq_false (by omega)
     have z1:((i:Int) < (s.size:Int))=True:=eq_true (by omega)
     have z3:(i < s.size)=True:=eq_true hlt
     have q5:IntKind.i64.wrap ((i:Int) + 1)=((i + 1:Nat):Int):=by rw [show ((i + 1:Nat):Int)=(i:Int) + 1 from rfl];exact IntWalk.i64_in _ (by omega)
     have HC:=Aside0.mk hc
     have HLt:=Aside0.mk hlt
     clear hc hlt
     by_cases h34:c=34
     ·have e34:(c == 34)=true:=by simp [h34]
      have H34:=Aside0.mk h34
      clear h34
      go_wp2_with (first | ((with_reducible refine gate_builtin (b:=.append) (xs:=#[.tmp 93,.tmp 95]) rfl ?_);(try (refine gate_guard (by rfl) ?_;dsimp only));at_builtin;refine Kd.R_append (Kd.int .u8) (w0:=w) w.heap.size rfl (.tmp 93) (.tmp 95) 48 5 (.int .u8 0) 1 rfl Tryz.underlying48 info5 rfl (by decide) (by omega) vb b c [.int .u8 c] (fun k_=>k_ ≠ w.heap.size) (fun _=>False) rfl ?aX ?aP (fun _ hk=>hk.elim) ?aF ?aO ?aB ?aS ?aL ?_;(case aX=>simp [Act.eval]);(case aP=>exact rfl);(case aB=>exact HW.out.below);(case aF=>(intro k_ hk;have hk2:=blk_lt HW.out.tok;exact fun e_=>by omega));(case aO=>exact HW.out.row);(case aS=>exact HW.out.below.size);(case aL=>have:=HBl.out;simp only [StrSt.b,StrSt.k,StrSt.i] at this;omega);intro v1 w1 ho hb hg hat;have HO1:=Aside0.mk ho;have HB1:=Aside0.mk hb;have HG1:=Aside0.mk hg;clear ho hb hg hat))
      have hW1:StrW w g s p v1 (b ++ [c]) w1:=⟨⟨blk_grown HW.out.scan.blk HG1.out (fun e_=>by have q1:=Kd.R_base HW.out.row g e_.symm;have q2:=HS.out.lt;omega)⟩,blk_grown HW.out.tok HG1.out (Kd.R_away HW.out.row (fun _ hk=>hk)),HO1.out,HB1.out⟩
      go_step3
      have hr2:=strRun_l HRun.out (by simp only [strStep];rw [if_neg (by have:=HLt.out;omega),if_pos (by rw [← HC.out];exact .inl H34.out)])
      try rw [← HC.out] at hr2
      exact ⟨m,Nat.lt_succ_self _,js_close (.plain (i + 1) (b ++ [c])) v1 n k _ hr2 (by have:=HLt.out;simp only [StrInv];omega) (by have:=HBl.out;have q:=HLt.out;simp [StrSt.b,StrSt.k,StrSt.i] at this ⊢;omega) rfl rfl (by intro i_ b_ n_ k_ h_;cases h_) hW1⟩
     ·have e34:(c == 34)=false:=by simp [h34]
      have H34:=Aside0.mk h34
      clear h34
      by_cases h92:c=92
      ·have e92:(c == 92)=true:=by simp [h92]
       have H92:=Aside0.mk h92
       clear h92
       go_wp2_with (first | ((with_reducible refine gate_builtin (b:=.append) (xs:=#[.tmp 93,.tmp 95]) rfl ?_);(try (refine gate_guard (by rfl) ?_;dsimp only));at_builtin;refine Kd.R_append (Kd.int .u8) (w0:=w) w.heap.size rfl (.tmp 93) (.tmp 95) 48 5 (.int .u8 0) 1 rfl Tryz.underlying48 info5 rfl (by decide) (by omega) vb b c [.int .u8 c] (fun k_=>k_ ≠ w.heap.size) (fun _=>False) rfl ?aX ?aP (fun _ hk=>hk.elim) ?aF ?aO ?aB ?aS ?aL ?_;(case aX=>simp [Act.eval]);(case aP=>exact rfl);(case aB=>exact HW.out.below);(case aF=>(intro k_ hk;have hk2:=blk_lt HW.out.tok;exact fun e_=>by omega));(case aO=>exact HW.out.row);(case aS=>exact HW.out.below.size);(case aL=>have:=HBl.out;simp only [StrSt.b,StrSt.k,StrSt.i] at this;omega);intro v1 w1 ho hb hg hat;have HO1:=Aside0.mk ho;have HB1:=Aside0.mk hb;have HG1:=Aside0.mk hg;clear ho hb hg hat))
       have hW1:StrW w g s p v1 (b ++ [c]) w1:=⟨⟨blk_grown HW.out.scan.blk HG1.out (fun e_=>by have q1:=Kd.R_base HW.out.row g e_.symm;have q2:=HS.out.lt;omega)⟩,blk_grown HW.out.tok HG1.out (Kd.R_away HW.out.row (fun _ hk=>hk)),HO1.out,HB1.out⟩
       go_step3
       have hr2:=strRun_l HRun.out (by simp only [strStep];rw [if_neg (by have:=HLt.out;omega),if_pos (by rw [← HC.out];exact .inr H92.out)])
       try rw [← HC.out] at hr2
       exact ⟨m,Nat.lt_succ_self _,js_close (.plain (i + 1) (b ++ [c])) v1 n k _ hr2 (by have:=HLt.out;simp only [StrInv];omega) (by have:=HBl.out;have q:=HLt.out;simp [StrSt.b,StrSt.k,StrSt.i] at this ⊢;omega) rfl rfl (by intro i_ b_ n_ k_ h_;cases h_) hW1⟩
      ·have e92:(c == 92)=false:=by simp [h92]
       have H92:=Aside0.mk h92
       clear h92
       by_cases h110:c=110
       ·have e110:(c == 110)=true:=by simp [h110]
        have H110:=Aside0.mk h110
        clear h110
        go_wp2_with (first | ((with_reducible refine gate_builtin (b:=.append) (xs:=#[.tmp 93,.tmp 95]) rfl ?_);(try (refine gate_guard (by rfl) ?_;dsimp only));at_builtin;refine Kd.R_append (Kd.int .u8) (w0:=w) w.heap.size rfl (.tmp 93) (.tmp 95) 48 5 (.int .u8 0) 1 rfl Tryz.underlying48 info5 rfl (by decide) (by omega) vb b 10 [.int .u8 10] (fun k_=>k_ ≠ w.heap.size) (fun _=>False) rfl ?aX ?aP (fun _ hk=>hk.elim) ?aF ?aO ?aB ?aS ?aL ?_;(case aX=>simp [Act.eval]);(case aP=>exact rfl);(case aB=>exact HW.out.below);(case aF=>(intro k_ hk;have hk2:=blk_lt HW.out.tok;exact fun e_=>by omega));(case aO=>exact HW.out.row);(case aS=>exact HW.out.below.size);(case aL=>have:=HBl.out;simp only [StrSt.b,StrSt.k,StrSt.i] at this;omega);intro v1 w1 ho hb hg hat;have HO1:=Aside0.mk ho;have HB1:=Aside0.mk hb;have HG1:=Aside0.mk hg;clear ho hb hg hat))
        have hW1:StrW w g s p v1 (b ++ [10]) w1:=⟨⟨blk_grown HW.out.scan.blk HG1.out (fun e_=>by have q1:=Kd.R_base HW.out.row g e_.symm;have q2:=HS.out.lt;omega)⟩,blk_grown HW.out.tok HG1.out (Kd.R_away HW.out.row (fun _ hk=>hk)),HO1.out,HB1.out⟩
        go_step3
        have hr2:=strRun_l HRun.out (by simp only [strStep];rw [if_neg (by have:=HLt.out;omega),if_neg (by rw [← HC.out];exact fun h_=>h_.elim H34.out H92.out),if_pos (by rw [← HC.out];exact H110.out)])
        try rw [← HC.out] at hr2
        exact ⟨m,Nat.lt_succ_self _,js_close (.plain (i + 1) (b ++ [10])) v1 n k _ hr2 (by have:=HLt.out;simp only [StrInv];omega) (by have:=HBl.out;have q:=HLt.out;simp [StrSt.b,StrSt.k,StrSt.i] at this ⊢;omega) rfl rfl (by intro i_ b_ n_ k_ h_;cases h_) hW1⟩
       ·have e110:(c == 110)=false:=by simp [h110]
        have H110:=Aside0.mk h110
        clear h110
        by_cases h116:c=116
        ·have e116:(c == 116)=true:=by simp [h116]
         have H116:=Aside0.mk h116
         clear h116
         go_wp2_with (first | ((with_reducible refine gate_builtin (b:=.append) (xs:=#[.tmp 93,.tmp 95]) rfl ?_);(try (refine gate_guard (by rfl) ?_;dsimp only));at_builtin;refine Kd.R_append (Kd.int .u8) (w0:=w) w.heap.size rfl (.tmp 93) (.tmp 95) 48 5 (.int .u8 0) 1 rfl Tryz.underlying48 info5 rfl (by decide) (by omega) vb b 9 [.int .u8 9] (fun k_=>k_ ≠ w.heap.size) (fun _=>False) rfl ?aX ?aP (fun _ hk=>hk.elim) ?aF ?aO ?aB ?aS ?aL ?_;(case aX=>simp [Act.eval]);(case aP=>exact rfl);(case aB=>exact HW.out.below);(case aF=>(intro k_ hk;have hk2:=blk_lt HW.out.tok;exact fun e_=>by omega));(case aO=>exact HW.out.row);(case aS=>exact HW.out.below.size);(case aL=>have:=HBl.out;simp only [StrSt.b,StrSt.k,StrSt.i] at this;omega);intro v1 w1 ho hb hg hat;have HO1:=Aside0.mk ho;have HB1:=Aside0.mk hb;have HG1:=Aside0.mk hg;clear ho hb hg hat))
         have hW1:StrW w g s p v1 (b ++ [9]) w1:=⟨⟨blk_grown HW.out.scan.blk HG1.out (fun e_=>by have q1:=Kd.R_base HW.out.row g e_.symm;have q2:=HS.out.lt;omega)⟩,blk_grown HW.out.tok HG1.out (Kd.R_away HW.out.row (fun _ hk=>hk)),HO1.out,HB1.out⟩
         go_step3
         have hr2:=strRun_l HRun.out (by simp only [strStep];rw [if_neg (by have:=HLt.out;omega),if_neg (by rw [← HC.out];exact fun h_=>h_.elim H34.out H92.out),if_neg (by rw [← HC.out];exact H110.out),if_pos (by rw [← HC.out];exact H116.out)])
         try rw [← HC.out] at hr2
         exact ⟨m,Nat.lt_succ_self _,js_close (.plain (i + 1) (b ++ [9])) v1 n k _ hr2 (by have:=HLt.out;simp only [StrInv];omega) (by have:=HBl.out;have q:=HLt.out;simp [StrSt.b,StrSt.k,StrSt.i] at this ⊢;omega) rfl rfl (by intro i_ b_ n_ k_ h_;cases h_) hW1⟩
        ·have e116:(c == 116)=false:=by simp [h116]
         have H116:=Aside0.mk h116
         clear h116
         by_cases h114:c=114
         ·have e114:(c == 114)=true:=by simp [h114]
          have H114:=Aside0.mk h114
          clear h114
          go_wp2_with (first | ((with_reducible refine gate_builtin (b:=.append) (xs:=#[.tmp 93,.tmp 95]) rfl ?_);(try (refine gate_guard (by rfl) ?_;dsimp only));at_builtin;refine Kd.R_append (Kd.int .u8) (w0:=w) w.heap.size rfl (.tmp 93) (.tmp 95) 48 5 (.int .u8 0) 1 rfl Tryz.underlying48 info5 rfl (by decide) (by omega) vb b 13 [.int .u8 13] (fun k_=>k_ ≠ w.heap.size) (fun _=>False) rfl ?aX ?aP (fun _ hk=>hk.elim) ?aF ?aO ?aB ?aS ?aL ?_;(case aX=>simp [Act.eval]);(case aP=>exact rfl);(case aB=>exact HW.out.below);(case aF=>(intro k_ hk;have hk2:=blk_lt HW.out.tok;exact fun e_=>by omega));(case aO=>exact HW.out.row);(case aS=>exact HW.out.below.size);(case aL=>have:=HBl.out;simp only [StrSt.b,StrSt.k,StrSt.i] at this;omega);intro v1 w1 ho hb hg hat;have HO1:=Aside0.mk ho;have HB1:=Aside0.mk hb;have HG1:=Aside0.mk hg;clear ho hb hg hat))
          have hW1:StrW w g s p v1 (b ++ [13]) w1:=⟨⟨blk_grown HW.out.scan.blk HG1.out (fun e_=>by have q1:=Kd.R_base HW.out.row g e_.symm;have q2:=HS.out.lt;omega)⟩,blk_grown HW.out.tok HG1.out (Kd.R_away HW.out.row (fun _ hk=>hk)),HO1.out,HB1.out⟩
          go_step3
          have hr2:=strRun_l HRun.out (by simp only [strStep];rw [if_neg (by have:=HLt.out;omega),if_neg (by rw [← HC.out];exact fun h_=>h_.elim H34.out H92.out),if_neg (by rw [← HC.out];exact H110.out),if_neg (by rw [← HC.out];exact H116.out),if_pos (by rw [← HC.out];exact H114.out)])
          try rw [← HC.out] at hr2
          exact ⟨m,Nat.lt_succ_self _,js_close (.plain (i + 1) (b ++ [13])) v1 n k _ hr2 (by have:=HLt.out;simp only [StrInv];omega) (by have:=HBl.out;have q:=HLt.out;simp [StrSt.b,StrSt.k,StrSt.i] at this ⊢;omega) rfl rfl (by intro i_ b_ n_ k_ h_;cases h_) hW1⟩
         ·have e114:(c == 114)=false:=by simp [h114]
          have H114:=Aside0.mk h114
          clear h114
          by_cases h10:c=10
          ·have e10:(c == 10)=true:=by simp [h10]
           have H10:=Aside0.mk h10
           clear h10
           go_wp2
           go_step3
           have hr2:=strRun_l HRun.out (by simp only [strStep];rw [if_neg (by have:=HLt.out;omega),if_neg (by rw [← HC.out];exact fun h_=>h_.elim H34.out H92.out),if_neg (by rw [← HC.out];exact H110.out),if_neg (by rw [← HC.out];exact H116.out),if_neg (by rw [← HC.out];exact H114.out),if_pos (by rw [← HC.out];exact H10.out)])
           try rw [← HC.out] at hr2
           exact ⟨m,Nat.lt_succ_self _,js_close (.broken i b) vb n k _ hr2 (by have:=HLt.out;simp only [StrInv];omega) (by have:=HBl.out;have q:=HLt.out;simp [StrSt.b,StrSt.k,StrSt.i] at this ⊢;omega) rfl rfl (by intro i_ b_ n_ k_ h_;cases h_) HW.out⟩
          ·have e10:(c == 10)=false:=by simp [h10]
           have H10:=Aside0.mk h10
           clear h10
           go_wp2
           go_step3
           have hr2:=strRun_l HRun.out (by simp only [strStep];rw [if_neg (by have:=HLt.out;omega),if_neg (by rw [← HC.out];exact fun h_=>h_.elim H34.out H92.out),if_neg (by rw [← HC.out];exact H110.out),if_neg (by rw [← HC.out];exact H116.out),if_neg (by rw [← HC.out];exact H114.out),if_neg (by rw [← HC.out];exact H10.out)])
           try rw [← HC.out] at hr2
           exact ⟨m,Nat.lt_succ_self _,js_close (.digits i b 0 0) vb (.int .i64 0) (.int .i64 0) _ hr2 (by have:=HLt.out;simp only [StrInv];omega) (by have:=HBl.out;have q:=HLt.out;simp [StrSt.b,StrSt.k,StrSt.i] at this ⊢;omega) rfl rfl (by intro i_ b_ n_ k_ h_;cases h_;exact ⟨rfl,rfl⟩) HW.out⟩
    ·have l1:decide ((s.size:Int) ≤ (i:Int))=true:=decide_eq_true (by omega)
     have l2:decide (s.size ≤ i)=true:=decide_eq_true (by omega)
     have z1:((i:Int) < (s.size:Int))=False:=eq_false (by omega)
     have z3:(i < s.size)=False:=eq_false hlt
     have HLt:=Aside0.mk hlt
     clear hlt
     go_wp2
     have HE:=Aside0.mk (strRun_r HRun.out (by simp only [strStep];rw [if_pos (by have:=HLt.out;omega)]))
     go_region
     go_wp2_with (fail)
     change bodyPost Tryz.prog Tryz.f102 (StrPost w r) Exit.ret _ _
     have R:=four_put HW.out.tok (.int .u8 0) (.string ⟨#[]⟩) (.int .i64 0) (.int .i64 0)
     have e0:=blk_cell R 0
     have e1:=blk_cell R 1
     have e2:=blk_cell R 2
     have e3:=blk_cell R 3
     refine bodyPost_ret (v:=.tuple #[.agg #[.int .u8 0,.string ⟨#[]⟩,.int .i64 0,.int .i64 0],.int .i64 p,.int .i64 141]) ?_ rfl ⟨?_,?_⟩
     ·simp [results,Tryz.results102,go_sem,e0,e1,e2,e3]
     ·rw [← HE.out];first | done | rfl
     ·repeat (first | apply below_set' | exact HW.out.below | apply below_drew1)
   | broken i b =>
    subst hl
    refine ⟨_,rfl,?_⟩
    obtain ⟨hi1,hi2⟩:=hinv
    have HRun:=Aside0.mk hrun
    clear hrun hnk
    unfold frS
    simp only [StrSt.i]
    replace HW:Aside0 (StrW w g s p vb b W):=HW
    have c0:=HW.out.scan.c0
    have c1:=HW.out.scan.c1
    have t0:=blk_cell HW.out.tok 0
    have t1:=blk_cell HW.out.tok 1
    have t2:=blk_cell HW.out.tok 2
    have t3:=blk_cell HW.out.tok 3
    have hn1:g ≠ w.heap.size:=Nat.ne_of_lt HS.out.lt
    have hn2:w.heap.size ≠ g:=Nat.ne_of_gt HS.out.lt
    have x0:=blk_frozen HW.out.tok 0
    have x1:=blk_frozen HW.out.tok 1
    have x2:=blk_frozen HW.out.tok 2
    have x3:=blk_frozen HW.out.tok 3
    have y0:(0 ≤ (i:Int))=True:=eq_true (by omega)
    have q5:IntKind.i64.wrap ((i:Int) + 1)=((i + 1:Nat):Int):=by rw [show ((i + 1:Nat):Int)=(i:Int) + 1 from rfl];exact IntWalk.i64_in _ (by omega)
    go_wp2
    go_loop [6] (fun v=>∃ j:Nat,v = .int .i64 (j:Nat) ∧ i + 1 ≤ j ∧ j ≤ s.size ∧ skipB s (s.size - j) j=skipB s (s.size - (i + 1)) (i + 1)) (fun v=>s.size - (intOf v).toNat)
    case atStart=>exact ⟨i + 1,rfl,Nat.le_refl _,by omega,rfl⟩
    case round =>
     obtain ⟨j,rfl,hj1,hj2,hj3⟩:=hrel
     have HJ3:=Aside0.mk hj3
     clear hj3 q5
     have y1:(0 ≤ (j:Int))=True:=eq_true (by omega)
     by_cases hlt:j < s.size
     ·have d1:decide ((j:Int) < (s.size:Int))=true:=decide_eq_true (by omega)
      have d2:decide (j < s.size)=true:=decide_eq_true hlt
      obtain ⟨c,hc⟩:∃ c,c=bt s (j:Int):=⟨_,rfl⟩
      have b1:=bt_atN' s j
      rw [← hc] at b1
      have l1:decide ((s.size:Int) ≤ (j:Int))=false:=decide_eq_false (by omega)
      have l2:decide (s.size ≤ j)=false:=decide_eq_false (by omega)
      have z1:((j:Int) < (s.size:Int))=True:=eq_true (by omega)
      have z3:(j < s.size)=True:=eq_true hlt
      have q5:IntKind.i64.wrap ((j:Int) + 1)=((j + 1:Nat):Int):=by rw [show ((j + 1:Nat):Int)=(j:Int) + 1 from rfl];exact IntWalk.i64_in _ (by omega)
      have HC:=Aside0.mk hc
      have HLt:=Aside0.mk hlt
      clear hc hlt
      by_cases h32:c=32
      ·have e32:(c == 32)=true:=by simp [h32]
       have H32:=Aside0.mk h32
       clear h32
       go_wp2
       refine ⟨⟨j + 1,by go_num,by omega,by have:=HLt.out;omega,?_⟩,?_⟩
       ·rw [← HJ3.out,skipB_go s j HLt.out (by rw [← HC.out];exact .inl H32.out)]
       ·have:=HLt.out;simp [intOf];omega
      ·have e32:(c == 32)=false:=by simp [h32]
       have H32:=Aside0.mk h32
       clear h32
       by_cases h9:c=9
       ·have e9:(c == 9)=true:=by simp [h9]
        have H9:=Aside0.mk h9
        clear h9
        go_wp2
        refine ⟨⟨j + 1,by go_num,by omega,by have:=HLt.out;omega,?_⟩,?_⟩
        ·rw [← HJ3.out,skipB_go s j HLt.out (by rw [← HC.out];exact .inr (.inl H9.out))]
        ·have:=HLt.out;simp [intOf];omega
       ·have e9:(c == 9)=false:=by simp [h9]
        have H9:=Aside0.mk h9
        clear h9
        by_cases h13:c=13
        ·have e13:(c == 13)=true:=by simp [h13]
         have H13:=Aside0.mk h13
         clear h13
         go_wp2
         refine ⟨⟨j + 1,by go_num,by omega,by have:=HLt.out;omega,?_⟩,?_⟩
         ·rw [← HJ3.out,skipB_go s j HLt.out (by rw [← HC.out];exact .inr (.inr H13.out))]
         ·have:=HLt.out;simp [intOf];omega
        ·have e13:(c == 13)=false:=by simp [h13]
         have H13:=Aside0.mk h13
         clear h13
         go_wp2
         go_step3
         have hsk:=HJ3.out
         rw [skipB_stop s j (by have:=HLt.out;omega) (by rw [← HC.out];exact fun h_=>h_.elim H32.out (fun h_=>h_.elim H9.out H13.out))] at hsk
         have hr2:=strRun_l HRun.out (show strStep s p (.broken i b) = .inl (.plain j b) by simp only [strStep];rw [← hsk])
         exact ⟨m,Nat.lt_succ_self _,js_close (.plain j b) vb n k _ hr2 (by simp only [StrInv];omega) (by have:=HBl.out;simp only [StrSt.b,StrSt.k,StrSt.i] at this ⊢;omega) rfl rfl (by intro i_ b_ n_ k_ h_;cases h_) HW.out⟩
     ·have d1:decide ((j:Int) < (s.size:Int))=false:=decide_eq_false (by omega)
      have d2:decide (j < s.size)=false:=decide_eq_false hlt
      have z1:((j:Int) < (s.size:Int))=False:=eq_false (by omega)
      have z3:(j < s.size)=False:=eq_false hlt
      have HLt:=Aside0.mk hlt
      clear hlt
      go_wp2
      go_step3
      have hsk:=HJ3.out
      rw [skipB_end s j (by have:=HLt.out;omega)] at hsk
      have hr2:=strRun_l HRun.out (show strStep s p (.broken i b) = .inl (.plain j b) by simp only [strStep];rw [← hsk])
      exact ⟨m,Nat.lt_succ_self _,js_close (.plain j b) vb n k _ hr2 (by simp only [StrInv];omega) (by have:=HBl.out;simp only [StrSt.b,StrSt.k,StrSt.i] at this ⊢;omega) rfl rfl (by intro i_ b_ n_ k_ h_;cases h_) HW.out⟩
   | digits i b n' k' =>
    subst hl
    obtain ⟨rfl,rfl⟩:=hnk _ _ _ _ rfl
    refine ⟨_,rfl,?_⟩
    obtain ⟨hi1,hi2,hi3,hi4⟩:=hinv
    have HRun:=Aside0.mk hrun
    clear hrun hnk
    unfold frS
    simp only [StrSt.i]
    replace HW:Aside0 (StrW w g s p vb b W):=HW
    have c0:=HW.out.scan.c0
    have c1:=HW.out.scan.c1
    have t0:=blk_cell HW.out.tok 0
    have t1:=blk_cell HW.out.tok 1
    have t2:=blk_cell HW.out.tok 2
    have t3:=blk_cell HW.out.tok 3
    have hn1:g ≠ w.heap.size:=Nat.ne_of_lt HS.out.lt
    have hn2:w.heap.size ≠ g:=Nat.ne_of_gt HS.out.lt
    have x0:=blk_frozen HW.out.tok 0
    have x1:=blk_frozen HW.out.tok 1
    have x2:=blk_frozen HW.out.tok 2
    have x3:=blk_frozen HW.out.tok 3
    have y0:(0 ≤ (i:Int))=True:=eq_true (by omega)
    by_cases hk:k' = 3
    ·subst hk
     have HLt:=Aside0.mk hi2
     by_cases h255:255 < n'
     ·have d1:decide ((255:Int) < (n':Int))=true:=decide_eq_true (by omega)
      have d2:decide (255 < n')=true:=decide_eq_true h255
      have q4:IntKind.i64.wrap ((i:Int) - 4)=(i:Int) - 4:=IntWalk.i64_in _ (by omega)
      have H255:=Aside0.mk h255
      clear h255
      go_wp2
      have HE:=Aside0.mk (strRun_r HRun.out (by simp only [strStep,if_true];rw [if_pos H255.out]))
      change bodyPost Tryz.prog Tryz.f102 (StrPost w r) Exit.ret _ _
      have R:=four_put HW.out.tok (.int .u8 0) (.string ⟨#[]⟩) (.int .i64 0) (.int .i64 0)
      have e0:=blk_cell R 0
      have e1:=blk_cell R 1
      have e2:=blk_cell R 2
      have e3:=blk_cell R 3
      refine bodyPost_ret (v:=.tuple #[.agg #[.int .u8 0,.string ⟨#[]⟩,.int .i64 0,.int .i64 0],.int .i64 ((i:Int) - 4),.int .i64 142]) ?_ rfl ⟨?_,?_⟩
      ·simp [results,Tryz.results102,go_sem,e0,e1,e2,e3]
      ·rw [← HE.out];first | done | rfl
      ·repeat (first | apply below_set' | exact HW.out.below | apply below_drew1)
     ·have d1:decide ((255:Int) < (n':Int))=false:=decide_eq_false (by omega)
      have d2:decide (255 < n')=false:=decide_eq_false h255
      have q4:IntKind.u8.wrap (n':Int)=(n':Int):=IntWalk.u8_in _ (by omega)
      have H255:=Aside0.mk h255
      clear h255
      go_wp2_with (first | ((with_reducible refine gate_builtin (b:=.append) (xs:=#[.tmp 142,.tmp 145]) rfl ?_);(try (refine gate_guard (by rfl) ?_;dsimp only));at_builtin;refine Kd.R_append (Kd.int .u8) (w0:=w) w.heap.size rfl (.tmp 142) (.tmp 145) 48 5 (.int .u8 0) 1 rfl Tryz.underlying48 info5 rfl (by decide) (by omega) vb b (n':Int) [.int .u8 (n':Int)] (fun k_=>k_ ≠ w.heap.size) (fun _=>False) rfl ?aX ?aP (fun _ hk=>hk.elim) ?aF ?aO ?aB ?aS ?aL ?_;(case aX=>simp [Act.eval]);(case aP=>exact rfl);(case aB=>exact HW.out.below);(case aF=>(intro k_ hk;have hk2:=blk_lt HW.out.tok;exact fun e_=>by omega));(case aO=>exact HW.out.row);(case aS=>exact HW.out.below.size);(case aL=>have:=HBl.out;simp only [StrSt.b,StrSt.k,StrSt.i] at this;omega);intro v1 w1 ho hb hg hat;have HO1:=Aside0.mk ho;have HB1:=Aside0.mk hb;have HG1:=Aside0.mk hg;clear ho hb hg hat))
      have hW1:StrW w g s p v1 (b ++ [(n':Int)]) w1:=⟨⟨blk_grown HW.out.scan.blk HG1.out (fun e_=>by have q1:=Kd.R_base HW.out.row g e_.symm;have q2:=HS.out.lt;omega)⟩,blk_grown HW.out.tok HG1.out (Kd.R_away HW.out.row (fun _ hk=>hk)),HO1.out,HB1.out⟩
      go_step3
      have hr2:=strRun_l HRun.out (by simp only [strStep,if_true];rw [if_neg H255.out])
      exact ⟨m,Nat.lt_succ_self _,js_close (.plain i (b ++ [(n':Int)])) v1 (.int .i64 (n':Nat)) (.int .i64 ((3:Nat):Int)) _ hr2 (by have:=HLt.out;simp only [StrInv];omega) (by have:=HBl.out;have q:=HLt.out;simp [StrSt.b,StrSt.k,StrSt.i] at this ⊢;omega) rfl rfl (by intro i_ b_ n_ k_ h_;cases h_) hW1⟩
    ·have e3:((k':Int) == 3)=false:=by rw [beq_eq_false_iff_ne];omega
     have e3':(k' == 3)=false:=by rw [beq_eq_false_iff_ne];exact hk
     have HK3:=Aside0.mk hk
     have HI1:=Aside0.mk hi1
     have HI3:=Aside0.mk hi3
     have HI4:=Aside0.mk hi4
     by_cases hlt:i < s.size
     ·have d1:decide ((i:Int) < (s.size:Int))=true:=decide_eq_true (by omega)
      have d2:decide (i < s.size)=true:=decide_eq_true hlt
      obtain ⟨c,hc⟩:∃ c,c=bt s (i:Int):=⟨_,rfl⟩
      have b1:=bt_atN' s i
      rw [← hc] at b1
      have l1:decide ((s.size:Int) ≤ (i:Int))=false:=decide_eq_false (by omega)
      have l2:decide (s.size ≤ i)=false:=decide_eq_false (by omega)
      have z1:((i:Int) < (s.size:Int))=True:=eq_true (by omega)
      have z3:(i < s.size)=True:=eq_true hlt
      have q6:IntKind.i64.wrap ((i:Int) - (k':Int))=(i:Int) - (k':Int):=IntWalk.i64_in _ (by omega)
      have q7:IntKind.i64.wrap ((i:Int) - (k':Int) - 1)=(i:Int) - (k':Int) - 1:=IntWalk.i64_in _ (by omega)
      have q8:IntKind.i64.wrap ((k':Int) + 1)=((k' + 1:Nat):Int):=by rw [show ((k' + 1:Nat):Int)=(k':Int) + 1 from rfl];exact IntWalk.i64_in _ (by omega)
      have q5:IntKind.i64.wrap ((i:Int) + 1)=((i + 1:Nat):Int):=by rw [show ((i + 1:Nat):Int)=(i:Int) + 1 from rfl];exact IntWalk.i64_in _ (by omega)
      have HC:=Aside0.mk hc
      have HLt:=Aside0.mk hlt
      clear hc hlt
      have HRg:=Aside0.mk (bt_range s (i:Int))
      by_cases h48:c < 48
      ·have e48:decide (c < 48)=true:=decide_eq_true h48
       have H48:=Aside0.mk h48
       clear h48
       go_wp2
       have HE:=Aside0.mk (strRun_r HRun.out (by simp only [strStep];rw [if_neg HK3.out,if_neg (by have:=HLt.out;omega),if_pos (by rw [← HC.out];exact .inl H48.out)]))
       change bodyPost Tryz.prog Tryz.f102 (StrPost w r) Exit.ret _ _
       have R:=four_put HW.out.tok (.int .u8 0) (.string ⟨#[]⟩) (.int .i64 0) (.int .i64 0)
       have e0:=blk_cell R 0
       have e1:=blk_cell R 1
       have e2:=blk_cell R 2
       have e3:=blk_cell R 3
       refine bodyPost_ret (v:=.tuple #[.agg #[.int .u8 0,.string ⟨#[]⟩,.int .i64 0,.int .i64 0],.int .i64 ((i:Int) - (k':Int) - 1),.int .i64 142]) ?_ rfl ⟨?_,?_⟩
       ·simp [results,Tryz.results102,go_sem,e0,e1,e2,e3]
       ·rw [← HE.out];first | done | rfl
       ·repeat (first | apply below_set' | exact HW.out.below | apply below_drew1)
      ·have e48:decide (c < 48)=false:=decide_eq_false h48
       have H48:=Aside0.mk h48
       clear h48
       by_cases h55:55 < c
       ·have e55:decide (55 < c)=true:=decide_eq_true h55
        have H55:=Aside0.mk h55
        clear h55
        go_wp2
        have HE:=Aside0.mk (strRun_r HRun.out (by simp only [strStep];rw [if_neg HK3.out,if_neg (by have:=HLt.out;omega),if_pos (by rw [← HC.out];exact .inr H55.out)]))
        change bodyPost Tryz.prog Tryz.f102 (StrPost w r) Exit.ret _ _
        have R:=four_put HW.out.tok (.int .u8 0) (.string ⟨#[]⟩) (.int .i64 0) (.int .i64 0)
        have e0:=blk_cell R 0
        have e1:=blk_cell R 1
        have e2:=blk_cell R 2
        have e3:=blk_cell R 3
        refine bodyPost_ret (v:=.tuple #[.agg #[.int .u8 0,.string ⟨#[]⟩,.int .i64 0,.int .i64 0],.int .i64 ((i:Int) - (k':Int) - 1),.int .i64 142]) ?_ rfl ⟨?_,?_⟩
        ·simp [results,Tryz.results102,go_sem,e0,e1,e2,e3]
        ·rw [← HE.out];first | done | rfl
        ·repeat (first | apply below_set' | exact HW.out.below | apply below_drew1)
       ·have e55:decide (55 < c)=false:=decide_eq_false h55
        have H55:=Aside0.mk h55
        clear h55
        go_wp2
        have hn64:n' < 64:=by
         have q1:=HI4.out
         have q2:=HI3.out
         have q3:=HK3.out
         rcases (show k' = 0 ∨ k' = 1 ∨ k' = 2 by omega) with rfl | rfl | rfl <;> simp at q1 <;> omega
        have hor:=or_digit n' c hn64 (by have:=H48.out;omega) (by have:=H55.out;omega)
        rw [hor]
        go_step3
        have hr2:=strRun_l HRun.out (by simp only [strStep];rw [if_neg HK3.out,if_neg (by have:=HLt.out;omega),if_neg (by rw [← HC.out];exact fun h_=>h_.elim (fun h1_=>by have:=H48.out;omega) (fun h1_=>by have:=H55.out;omega))])
        try rw [← HC.out] at hr2
        exact ⟨m,Nat.lt_succ_self _,js_close (.digits (i + 1) b (n' * 8 + (c.toNat - 48)) (k' + 1)) vb (.int .i64 ((n' * 8 + (c.toNat - 48):Nat):Int)) (.int .i64 ((k' + 1:Nat):Int)) _ hr2 (by have:=HLt.out;have q1:=HI1.out;have q2:=HI3.out;have q3:=HK3.out;have q4:=HI4.out;refine ⟨by omega,by omega,by omega,?_⟩;rw [Nat.pow_succ];have:=H55.out;omega) (by have:=HBl.out;have q:=HLt.out;simp [StrSt.b,StrSt.k,StrSt.i] at this ⊢;omega) rfl rfl (by intro i_ b_ n_ k_ h_;cases h_;exact ⟨rfl,rfl⟩) HW.out⟩
     ·have l1:decide ((s.size:Int) ≤ (i:Int))=true:=decide_eq_true (by omega)
      have l2:decide (s.size ≤ i)=true:=decide_eq_true (by omega)
      have z1:((i:Int) < (s.size:Int))=False:=eq_false (by omega)
      have z3:(i < s.size)=False:=eq_false hlt
      have HLt:=Aside0.mk hlt
      clear hlt
      go_wp2
      have HE:=Aside0.mk (strRun_r HRun.out (by simp only [strStep];rw [if_neg HK3.out,if_pos (by have:=HLt.out;omega)]))
      go_region
      go_wp2_with (fail)
      change bodyPost Tryz.prog Tryz.f102 (StrPost w r) Exit.ret _ _
      have R:=four_put HW.out.tok (.int .u8 0) (.string ⟨#[]⟩) (.int .i64 0) (.int .i64 0)
      have e0:=blk_cell R 0
      have e1:=blk_cell R 1
      have e2:=blk_cell R 2
      have e3:=blk_cell R 3
      refine bodyPost_ret (v:=.tuple #[.agg #[.int .u8 0,.string ⟨#[]⟩,.int .i64 0,.int .i64 0],.int .i64 p,.int .i64 141]) ?_ rfl ⟨?_,?_⟩
      ·simp [results,Tryz.results102,go_sem,e0,e1,e2,e3]
      ·rw [← HE.out];first | done | rfl
      ·repeat (first | apply below_set' | exact HW.out.below | apply below_drew1)
end Go.Proofs.YtjapfefiaijfcaaGreatDoor.Q
