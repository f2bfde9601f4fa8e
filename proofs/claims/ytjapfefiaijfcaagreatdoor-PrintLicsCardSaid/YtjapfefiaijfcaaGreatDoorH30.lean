/- A text of the contracts of the printer of licensees. The reference's reader of licensees: its signs and parentheses, its error. The contract of KeptLic. -/
import Derived.BigRegion
import Derived.Deep.RegionHeld3
import Derived.Test.YtjapfefiaijfcaaGreatDoorH5
import Derived.Test.YtjapfefiaijfcaaGreatDoorH16
import Derived.Test.YtjapfefiaijfcaaGreatDoorH23
namespace Go.Proofs.YtjapfefiaijfcaaGreatDoor.Q
open Go.RowKit Go.Proofs.YtjapfefiaijfcaaGreatDoorW.PrintWords Go.Proofs.YtjapfefiaijfcaaGreatDoorW.PrintLast Go.Proofs.YtjapfefiaijfcaaGreatDoorW.PrintMore
set_option linter.unusedVariables false
def Lim (er:Int):Prop:=er=3
theorem Lim.ne {er:Int} (h:Lim er):er ≠ 0:=by unfold Lim at h;omega
def LicBad3 (g:Nat) (w0 w:World) (toks:List S70) (cs:List S138) (e:Ending) (w':World):Prop :=
 ∃ (a:Int) (b:ByteArray) (c:Int) (A:Option Addr) (n cap:Nat) (er:Int) (j:Nat) (dp:Int),e = .returned (.tuple #[.agg #[.int .u8 a,.string b,.int .i64 c,.slice A n cap],.int .i64 er]) ∧ Lim er ∧ j ≤ toks.length ∧ IsS67 w0 w' g toks cs j dp ∧ Below w0.heap.size w0 w' ∧ KeepBut w w' g none
def PartNo3 (toks:List S70) (cs:List S138) (fn:Nat) (i dp:Int):Prop:=∀ (g:Nat) (w0 w:World),IsS67 w0 w g toks cs i dp → Below w0.heap.size w0 w → Calls Tryz.prog fn #[.pointer (some ⟨g,0,none⟩)] w (LicBad3 g w0 w toks cs)
set_option maxHeartbeats 8000000 in
set_option maxRecDepth 100000 in
theorem lics_one_shut3.calls (toks:List S70) (cs:List S138) (i:Nat) (dp:Int) (x:S70) (hi:i < toks.length) (hm:toks.length ≤ 8192) (hx:x=rd_T70 toks i) (hk1:x.f0 ≠ 1) (hk4:x.f0 ≠ 4) (hk5:x.f0 ≠ 5) (er:Int) (hE:lics_reader_enter.f toks cs i dp=some (er,(i:Int),dp)) (her:Lim er):PartNo3 toks cs 81 i dp:=by
 have HE:=Aside0.mk hE
 have hern:(er == 0)=false:=beq_eq_false_iff_ne.mpr (Lim.ne her)
 have HEr:=Aside0.mk her
 have HIn:=Aside0.mk hi
 clear hE her
 have kd5:(x.f0 == 5)=false:=beq_eq_false_iff_ne.mpr hk5
 have kd1:(x.f0 == 1)=false:=beq_eq_false_iff_ne.mpr hk1
 have kd4:(x.f0 == 4)=false:=beq_eq_false_iff_ne.mpr hk4
 intro g w0 w hI hB
 have HI:=Aside0.mk hI
 have HB:=Aside0.mk hB
 have HX:=Aside0.mk hx
 have q1:decide ((i:Int) < (toks.length:Int))=true:=decide_eq_true (by omega)
 have q2:((i:Int) == (toks.length:Int))=false:=beq_eq_false_iff_ne.mpr (by omega)
 have q3:(i == toks.length)=false:=beq_eq_false_iff_ne.mpr (by omega)
 have q4:IntKind.i64.wrap ((i:Int) + 1)=(i:Int) + 1:=IntWalk.i64_in _ (by omega)
 obtain ⟨A0,c0,A1,c1,hG,hge,hS0,hS1⟩:=hI
 obtain ⟨ad,e0,x0,x1,x2,x3⟩:=at_T70 hS0 (i:Int) (by omega) (by omega)
 subst e0
 rw [← hx] at x0 x1 x2 x3
 replace x0:=pw_cell_below hB x0
 replace x1:=pw_cell_below hB x1
 replace x2:=pw_cell_below hB x2
 replace x3:=pw_cell_below hB x3
 have p1:(0 ≤ (i:Int))=True:=eq_true (by omega)
 have p2:((i:Int) < (toks.length:Int))=True:=eq_true (by omega)
 have p3:(i < toks.length)=True:=eq_true hi
 have g0:=cellS67_0 hG
 have g1:=cellS67_1 hG
 have g2:=cellS67_2 hG
 have g3:=cellS67_3 hG
 have gf:=blk_frozen hG 2
 have HG:=Aside0.mk hG
 clear hG hge hS0 hS1 hB hx hi
 have up:∀ (o:Obj) {a:Addr} {v:Value},w.cell? a=some v → (w.alloc o).cell? a=some v:=fun o {a} {v} h=>pw_cell_below ((Below.refl _ w).alloc (Nat.le_refl _) o) h
 have m0:=fun o=>up o g0
 have m2:=fun o=>up o g2
 have y0:=fun o=>up o x0
 have y1:=fun o=>up o x1
 have y2:=fun o=>up o x2
 have y3:=fun o=>up o x3
 clear up
 go_enter Tryz.func81,Tryz.ntmps81
 go_wp2_with (fail)
 go_quiet (fail)
 go_wp2_with (fail)
 generalize hW:(w.alloc (.cells #[.int .u8 0,.string ⟨#[]⟩,.int .i64 0,.slice none 0 0] 24)).drewN _=W
 have m0':W.cell? ⟨g,0,none⟩=some (.slice (some ad) toks.length c0):=by rw [← hW];exact m0 _
 have m2':W.cell? ⟨g,2,none⟩=some (.int .i64 i):=by rw [← hW];exact m2 _
 have y0':W.cell? (ad.add (i * 4))=some (.int .u8 x.f0):=by rw [← hW];exact y0 _
 have y1':W.cell? ⟨(ad.add (i * 4)).block,(ad.add (i * 4)).off + 1,none⟩=some (.string x.f1):=by rw [← hW];exact y1 _
 have y2':W.cell? ⟨(ad.add (i * 4)).block,(ad.add (i * 4)).off + 2,none⟩=some (.int .i64 x.f2):=by rw [← hW];exact y2 _
 have y3':W.cell? ⟨(ad.add (i * 4)).block,(ad.add (i * 4)).off + 3,none⟩=some (.int .i64 x.f3):=by rw [← hW];exact y3 _
 have HW:=Aside0.mk hW
 have up2:∀ (o:Obj) {a:Addr} {v:Value},W.cell? a=some v → (W.alloc o).cell? a=some v:=fun o {a} {v} h=>pw_cell_below ((Below.refl _ W).alloc (Nat.le_refl _) o) h
 have m0'':=fun o=>up2 o m0'
 have m2'':=fun o=>up2 o m2'
 have y0'':=fun o=>up2 o y0'
 have y1'':=fun o=>up2 o y1'
 have y2'':=fun o=>up2 o y2'
 have y3'':=fun o=>up2 o y3'
 clear hW m0 m2 y0 y1 y2 y3 up2
 go_region
 generalize hW2:(W.alloc (.cells #[.int .u8 x.f0,.string x.f1,.int .i64 x.f2,.int .i64 x.f3] 70)).drew=W2
 have b1:W2.heap[W.heap.size]? = some (.cells #[.int .u8 x.f0,.string x.f1,.int .i64 x.f2,.int .i64 x.f3] 70 (0,0)):=by rw [← hW2];exact blk_new W _
 have B1:Below w.heap.size w W:=by rw [← HW.out];exact pw_below_drewN ((Below.refl _ w).alloc (Nat.le_refl _) _) _
 have s1:W.heap.size=w.heap.size + 1:=by rw [← HW.out];simp
 have HS1:=Aside0.mk s1
 have B2:Below w.heap.size w W2:=by rw [← hW2];exact below_drew1 (B1.alloc B1.size _)
 have b2:W2.heap[w.heap.size]? = some (.cells #[.int .u8 0,.string ⟨#[]⟩,.int .i64 0,.slice none 0 0] 24 (0,0)):=by
  rw [← hW2]
  refine blk_drew (blk_alloc ?_ _)
  rw [← HW.out];exact blk_drewN (blk_new w _) _
 have IW2:IsS67 w0 W2 g toks cs i dp:=HI.out.below B2
 have hG:=(B2.block g HI.out.lt).trans HG.out
 have c1:=blk_cell b1 0
 have c2:=blk_cell b1 1
 have c3:=cellS67_2 hG
 have c4:=blk_frozen hG 2
 have gl:=HI.out.lt
 have n1:g ≠ W.heap.size:=by omega
 have HI2:=Aside0.mk IW2
 have Hb1:=Aside0.mk b1
 have Hb2:=Aside0.mk b2
 have HB2:=Aside0.mk B2
 clear s1 hG b1 b2 B1 B2 IW2 m0' m2' y0' y1' y2' y3' m0'' m2'' y0'' y1'' y2'' y3'' g0 g1 g2 g3 x0 x1 x2 x3 hW2
 go_wp2_with (fail)
 go_at_call 107
 refine (lics_reader_enter.calls g toks cs i dp er i dp w0 _ HI2.out (HB.out.trans (HB2.out.mono HB.out.size)) HE.out).mono ?_
 rintro e_ w3 ⟨rfl,hi,hb,hk⟩
 have f0:=hk.blk Hb2.out (by have:=HI.out.lt;omega) (by simp)
 have HF0:=Aside0.mk f0
 have HI3:=Aside0.mk hi
 have HB3:=Aside0.mk hb
 have HK3:=Aside0.mk ((KeepBut.of_below HB2.out g none).trans hk (.inl rfl))
 have d0:=blk_cell f0 0
 have d1:=blk_cell f0 1
 have d2:=blk_cell f0 2
 have d3:=blk_cell f0 3
 have k0:=blk_frozen f0 0
 have k1:=blk_frozen f0 1
 have k2:=blk_frozen f0 2
 have k3:=blk_frozen f0 3
 clear f0 hi hb hk
 go_wp2_with (fail)
 obtain ⟨o1,o2,o3,o5⟩:=lic_bad HI3.out HB3.out HK3.out HF0.out HB.out.size HI.out.lt (.int .u8 0) (.string ⟨#[]⟩) (.int .i64 0) (.slice none 0 0)
 have e0:=blk_cell o5 0
 have e1:=blk_cell o5 1
 have e2:=blk_cell o5 2
 have e3:=blk_cell o5 3
 refine bodyPost_ret (v:=.tuple #[.agg #[.int .u8 0,.string ⟨#[]⟩,.int .i64 0,.slice none 0 0],.int .i64 er]) ?_ rfl ⟨0,⟨#[]⟩,0,none,0,0,er,i,dp,rfl,HEr.out,Nat.le_of_lt HIn.out,o1,o2,o3⟩
 simp [results,Tryz.results81,go_sem,e0,e1,e2,e3]
set_option maxHeartbeats 8000000 in
set_option maxRecDepth 100000 in
theorem lics_one_in_no3.calls (toks:List S70) (cs:List S138) (i:Nat) (dp:Int) (x:S70) (hi:i < toks.length) (hm:toks.length ≤ 8192) (hx:x=rd_T70 toks i) (hk1:x.f0 ≠ 1) (hk4:x.f0 ≠ 4) (hk5:x.f0 ≠ 5) (hE:lics_reader_enter.f toks cs i dp=some (0,(i:Int) + 1,dp + 1)) (hP:PartNo3 toks cs 36 ((i:Int) + 1) (dp + 1)):PartNo3 toks cs 81 i dp:=by
 have HE:=Aside0.mk hE
 have HP:=Aside0.mk hP
 have HIn:=Aside0.mk hi
 clear hE hP
 have kd5:(x.f0 == 5)=false:=beq_eq_false_iff_ne.mpr hk5
 have kd1:(x.f0 == 1)=false:=beq_eq_false_iff_ne.mpr hk1
 have kd4:(x.f0 == 4)=false:=beq_eq_false_iff_ne.mpr hk4
 intro g w0 w hI hB
 have HI:=Aside0.mk hI
 have HB:=Aside0.mk hB
 have HX:=Aside0.mk hx
 have q1:decide ((i:Int) < (toks.length:Int))=true:=decide_eq_true (by omega)
 have q2:((i:Int) == (toks.length:Int))=false:=beq_eq_false_iff_ne.mpr (by omega)
 have q3:(i == toks.length)=false:=beq_eq_false_iff_ne.mpr (by omega)
 have q4:IntKind.i64.wrap ((i:Int) + 1)=(i:Int) + 1:=IntWalk.i64_in _ (by omega)
 obtain ⟨A0,c0,A1,c1,hG,hge,hS0,hS1⟩:=hI
 obtain ⟨ad,e0,x0,x1,x2,x3⟩:=at_T70 hS0 (i:Int) (by omega) (by omega)
 subst e0
 rw [← hx] at x0 x1 x2 x3
 replace x0:=pw_cell_below hB x0
 replace x1:=pw_cell_below hB x1
 replace x2:=pw_cell_below hB x2
 replace x3:=pw_cell_below hB x3
 have p1:(0 ≤ (i:Int))=True:=eq_true (by omega)
 have p2:((i:Int) < (toks.length:Int))=True:=eq_true (by omega)
 have p3:(i < toks.length)=True:=eq_true hi
 have g0:=cellS67_0 hG
 have g1:=cellS67_1 hG
 have g2:=cellS67_2 hG
 have g3:=cellS67_3 hG
 have gf:=blk_frozen hG 2
 have HG:=Aside0.mk hG
 clear hG hge hS0 hS1 hB hx hi
 have up:∀ (o:Obj) {a:Addr} {v:Value},w.cell? a=some v → (w.alloc o).cell? a=some v:=fun o {a} {v} h=>pw_cell_below ((Below.refl _ w).alloc (Nat.le_refl _) o) h
 have m0:=fun o=>up o g0
 have m2:=fun o=>up o g2
 have y0:=fun o=>up o x0
 have y1:=fun o=>up o x1
 have y2:=fun o=>up o x2
 have y3:=fun o=>up o x3
 clear up
 go_enter Tryz.func81,Tryz.ntmps81
 go_wp2_with (fail)
 go_quiet (fail)
 go_wp2_with (fail)
 generalize hW:(w.alloc (.cells #[.int .u8 0,.string ⟨#[]⟩,.int .i64 0,.slice none 0 0] 24)).drewN _=W
 have m0':W.cell? ⟨g,0,none⟩=some (.slice (some ad) toks.length c0):=by rw [← hW];exact m0 _
 have m2':W.cell? ⟨g,2,none⟩=some (.int .i64 i):=by rw [← hW];exact m2 _
 have y0':W.cell? (ad.add (i * 4))=some (.int .u8 x.f0):=by rw [← hW];exact y0 _
 have y1':W.cell? ⟨(ad.add (i * 4)).block,(ad.add (i * 4)).off + 1,none⟩=some (.string x.f1):=by rw [← hW];exact y1 _
 have y2':W.cell? ⟨(ad.add (i * 4)).block,(ad.add (i * 4)).off + 2,none⟩=some (.int .i64 x.f2):=by rw [← hW];exact y2 _
 have y3':W.cell? ⟨(ad.add (i * 4)).block,(ad.add (i * 4)).off + 3,none⟩=some (.int .i64 x.f3):=by rw [← hW];exact y3 _
 have HW:=Aside0.mk hW
 have up2:∀ (o:Obj) {a:Addr} {v:Value},W.cell? a=some v → (W.alloc o).cell? a=some v:=fun o {a} {v} h=>pw_cell_below ((Below.refl _ W).alloc (Nat.le_refl _) o) h
 have m0'':=fun o=>up2 o m0'
 have m2'':=fun o=>up2 o m2'
 have y0'':=fun o=>up2 o y0'
 have y1'':=fun o=>up2 o y1'
 have y2'':=fun o=>up2 o y2'
 have y3'':=fun o=>up2 o y3'
 clear hW m0 m2 y0 y1 y2 y3 up2
 go_region
 generalize hW2:(W.alloc (.cells #[.int .u8 x.f0,.string x.f1,.int .i64 x.f2,.int .i64 x.f3] 70)).drew=W2
 have b1:W2.heap[W.heap.size]? = some (.cells #[.int .u8 x.f0,.string x.f1,.int .i64 x.f2,.int .i64 x.f3] 70 (0,0)):=by rw [← hW2];exact blk_new W _
 have B1:Below w.heap.size w W:=by rw [← HW.out];exact pw_below_drewN ((Below.refl _ w).alloc (Nat.le_refl _) _) _
 have s1:W.heap.size=w.heap.size + 1:=by rw [← HW.out];simp
 have HS1:=Aside0.mk s1
 have B2:Below w.heap.size w W2:=by rw [← hW2];exact below_drew1 (B1.alloc B1.size _)
 have b2:W2.heap[w.heap.size]? = some (.cells #[.int .u8 0,.string ⟨#[]⟩,.int .i64 0,.slice none 0 0] 24 (0,0)):=by
  rw [← hW2]
  refine blk_drew (blk_alloc ?_ _)
  rw [← HW.out];exact blk_drewN (blk_new w _) _
 have IW2:IsS67 w0 W2 g toks cs i dp:=HI.out.below B2
 have hG:=(B2.block g HI.out.lt).trans HG.out
 have c1:=blk_cell b1 0
 have c2:=blk_cell b1 1
 have c3:=cellS67_2 hG
 have c4:=blk_frozen hG 2
 have gl:=HI.out.lt
 have n1:g ≠ W.heap.size:=by omega
 have HI2:=Aside0.mk IW2
 have Hb1:=Aside0.mk b1
 have Hb2:=Aside0.mk b2
 have HB2:=Aside0.mk B2
 clear s1 hG b1 b2 B1 B2 IW2 m0' m2' y0' y1' y2' y3' m0'' m2'' y0'' y1'' y2'' y3'' g0 g1 g2 g3 x0 x1 x2 x3 hW2
 go_wp2_with (fail)
 go_at_call 107
 refine (lics_reader_enter.calls g toks cs i dp 0 ((i:Int) + 1) (dp + 1) w0 _ HI2.out (HB.out.trans (HB2.out.mono HB.out.size)) HE.out).mono ?_
 rintro e_ w3 ⟨rfl,hi,hb,hk⟩
 have f0:=hk.blk Hb2.out (by have:=HI.out.lt;omega) (by simp)
 have HF0:=Aside0.mk f0
 have HI3:=Aside0.mk hi
 have HB3:=Aside0.mk hb
 have HK3:=Aside0.mk ((KeepBut.of_below HB2.out g none).trans hk (.inl rfl))
 have d0:=blk_cell f0 0
 have d1:=blk_cell f0 1
 have d2:=blk_cell f0 2
 have d3:=blk_cell f0 3
 have k0:=blk_frozen f0 0
 have k1:=blk_frozen f0 1
 have k2:=blk_frozen f0 2
 have k3:=blk_frozen f0 3
 clear f0 hi hb hk
 clear d0 d1 d2 d3 k0 k1 k2 k3
 go_wp2_with (fail)
 go_at_call 36
 refine (HP.out g w0 _ HI3.out HB3.out).mono ?_
 rintro e_ w4 ⟨a,b,c,A,n,cap,er,j,dp2,rfl,her,hj,hi,hb,hk⟩
 have hern:(er == 0)=false:=beq_eq_false_iff_ne.mpr (Lim.ne her)
 have HEr:=Aside0.mk her
 have HJ:=Aside0.mk hj
 have f0:=hk.blk HF0.out (by have:=HI.out.lt;omega) (by simp)
 have HF4:=Aside0.mk f0
 have HI4:=Aside0.mk hi
 have HB4:=Aside0.mk hb
 have HK4:=Aside0.mk (HK3.out.trans hk (.inl rfl))
 have d0:=blk_cell f0 0
 have d1:=blk_cell f0 1
 have d2:=blk_cell f0 2
 have d3:=blk_cell f0 3
 have k0:=blk_frozen f0 0
 have k1:=blk_frozen f0 1
 have k2:=blk_frozen f0 2
 have k3:=blk_frozen f0 3
 clear f0 hi hb hk
 clear her hj
 go_wp2_with (fail)
 obtain ⟨o1,o2,o3,o5⟩:=lic_bad HI4.out HB4.out HK4.out HF4.out HB.out.size HI.out.lt (.int .u8 a) (.string b) (.int .i64 c) (.slice A n cap)
 obtain ⟨p1,p2,p3,p5⟩:=lic_bad o1 o2 o3 o5 HB.out.size HI.out.lt (.int .u8 a) (.string b) (.int .i64 c) (.slice A n cap)
 have e0:=blk_cell p5 0
 have e1:=blk_cell p5 1
 have e2:=blk_cell p5 2
 have e3:=blk_cell p5 3
 refine bodyPost_ret (v:=.tuple #[.agg #[.int .u8 a,.string b,.int .i64 c,.slice A n cap],.int .i64 er]) ?_ rfl ⟨a,b,c,A,n,cap,er,j,dp2,rfl,HEr.out,HJ.out,p1,p2,p3⟩
 simp [results,Tryz.results81,go_sem,e0,e1,e2,e3]
set_option maxHeartbeats 8000000 in
set_option maxRecDepth 100000 in
theorem lics_one_of_no3.calls (toks:List S70) (cs:List S138) (i:Nat) (dp:Int) (x:S70) (hi:i < toks.length) (hm:toks.length ≤ 8192) (hx:x=rd_T70 toks i) (hk:x.f0=5) (hP:PartNo3 toks cs 104 i dp):PartNo3 toks cs 81 i dp:=by
 intro g w0 w hI hB
 have HI:=Aside0.mk hI
 have HB:=Aside0.mk hB
 have HX:=Aside0.mk hx
 have HP:=Aside0.mk hP
 clear hP
 have q1:decide ((i:Int) < (toks.length:Int))=true:=decide_eq_true (by omega)
 have q2:((i:Int) == (toks.length:Int))=false:=beq_eq_false_iff_ne.mpr (by omega)
 have q3:(i == toks.length)=false:=beq_eq_false_iff_ne.mpr (by omega)
 have q4:IntKind.i64.wrap ((i:Int) + 1)=(i:Int) + 1:=IntWalk.i64_in _ (by omega)
 obtain ⟨A0,c0,A1,c1,hG,hge,hS0,hS1⟩:=hI
 obtain ⟨ad,e0,x0,x1,x2,x3⟩:=at_T70 hS0 (i:Int) (by omega) (by omega)
 subst e0
 rw [← hx] at x0 x1 x2 x3
 rw [hk] at x0
 replace x0:=pw_cell_below hB x0
 replace x1:=pw_cell_below hB x1
 replace x2:=pw_cell_below hB x2
 replace x3:=pw_cell_below hB x3
 have p1:(0 ≤ (i:Int))=True:=eq_true (by omega)
 have p2:((i:Int) < (toks.length:Int))=True:=eq_true (by omega)
 have p3:(i < toks.length)=True:=eq_true hi
 have g0:=cellS67_0 hG
 have g1:=cellS67_1 hG
 have g2:=cellS67_2 hG
 have g3:=cellS67_3 hG
 have gf:=blk_frozen hG 2
 have HG:=Aside0.mk hG
 clear hG hge hS0 hS1 hB hx hi
 have up:∀ (o:Obj) {a:Addr} {v:Value},w.cell? a=some v → (w.alloc o).cell? a=some v:=fun o {a} {v} h=>pw_cell_below ((Below.refl _ w).alloc (Nat.le_refl _) o) h
 have m0:=fun o=>up o g0
 have m2:=fun o=>up o g2
 have y0:=fun o=>up o x0
 have y1:=fun o=>up o x1
 have y2:=fun o=>up o x2
 have y3:=fun o=>up o x3
 clear up
 go_enter Tryz.func81,Tryz.ntmps81
 go_wp2_with (fail)
 go_quiet (fail)
 go_wp2_with (fail)
 generalize hW:(w.alloc (.cells #[.int .u8 0,.string ⟨#[]⟩,.int .i64 0,.slice none 0 0] 24)).drewN _=W
 have m0':W.cell? ⟨g,0,none⟩=some (.slice (some ad) toks.length c0):=by rw [← hW];exact m0 _
 have m2':W.cell? ⟨g,2,none⟩=some (.int .i64 i):=by rw [← hW];exact m2 _
 have y0':W.cell? (ad.add (i * 4))=some (.int .u8 5):=by rw [← hW];exact y0 _
 have y1':W.cell? ⟨(ad.add (i * 4)).block,(ad.add (i * 4)).off + 1,none⟩=some (.string x.f1):=by rw [← hW];exact y1 _
 have y2':W.cell? ⟨(ad.add (i * 4)).block,(ad.add (i * 4)).off + 2,none⟩=some (.int .i64 x.f2):=by rw [← hW];exact y2 _
 have y3':W.cell? ⟨(ad.add (i * 4)).block,(ad.add (i * 4)).off + 3,none⟩=some (.int .i64 x.f3):=by rw [← hW];exact y3 _
 have HW:=Aside0.mk hW
 have up2:∀ (o:Obj) {a:Addr} {v:Value},W.cell? a=some v → (W.alloc o).cell? a=some v:=fun o {a} {v} h=>pw_cell_below ((Below.refl _ W).alloc (Nat.le_refl _) o) h
 have m0'':=fun o=>up2 o m0'
 have m2'':=fun o=>up2 o m2'
 have y0'':=fun o=>up2 o y0'
 have y1'':=fun o=>up2 o y1'
 have y2'':=fun o=>up2 o y2'
 have y3'':=fun o=>up2 o y3'
 clear hW m0 m2 y0 y1 y2 y3 up2
 go_region
 generalize hW2:(W.alloc (.cells #[.int .u8 5,.string x.f1,.int .i64 x.f2,.int .i64 x.f3] 70)).drew=W2
 have b1:W2.heap[W.heap.size]? = some (.cells #[.int .u8 5,.string x.f1,.int .i64 x.f2,.int .i64 x.f3] 70 (0,0)):=by rw [← hW2];exact blk_new W _
 have B1:Below w.heap.size w W:=by rw [← HW.out];exact pw_below_drewN ((Below.refl _ w).alloc (Nat.le_refl _) _) _
 have s1:W.heap.size=w.heap.size + 1:=by rw [← HW.out];simp
 have HS1:=Aside0.mk s1
 have B2:Below w.heap.size w W2:=by rw [← hW2];exact below_drew1 (B1.alloc B1.size _)
 have b2:W2.heap[w.heap.size]? = some (.cells #[.int .u8 0,.string ⟨#[]⟩,.int .i64 0,.slice none 0 0] 24 (0,0)):=by
  rw [← hW2]
  refine blk_drew (blk_alloc ?_ _)
  rw [← HW.out];exact blk_drewN (blk_new w _) _
 have IW2:IsS67 w0 W2 g toks cs i dp:=HI.out.below B2
 have hG:=(B2.block g HI.out.lt).trans HG.out
 have c1:=blk_cell b1 0
 have c2:=blk_cell b1 1
 have c3:=cellS67_2 hG
 have c4:=blk_frozen hG 2
 have gl:=HI.out.lt
 have n1:g ≠ W.heap.size:=by omega
 have HI2:=Aside0.mk IW2
 have Hb1:=Aside0.mk b1
 have Hb2:=Aside0.mk b2
 have HB2:=Aside0.mk B2
 clear s1 c2 c3 c4 hG b1 b2 B1 B2 IW2 m0' m2' y0' y1' y2' y3' m0'' m2'' y0'' y1'' y2'' y3'' g0 g1 g2 g3 x0 x1 x2 x3 hW2
 go_wp2_with (fail)
 go_at_call 104
 refine (HP.out g w0 _ HI2.out (HB.out.trans (HB2.out.mono HB.out.size))).mono ?_
 rintro e_ w3 ⟨a,b,c,A,n,cap,er,j,dp2,rfl,her,hj,hi,hb,hk⟩
 have HEr:=Aside0.mk her
 have HJ:=Aside0.mk hj
 have f0:=hk.blk Hb2.out (by have:=HI.out.lt;omega) (by simp)
 have HF0:=Aside0.mk f0
 have HI3:=Aside0.mk hi
 have HB3:=Aside0.mk hb
 have HK3:=Aside0.mk ((KeepBut.of_below HB2.out g none).trans hk (.inl rfl))
 have d0:=blk_cell f0 0
 have d1:=blk_cell f0 1
 have d2:=blk_cell f0 2
 have d3:=blk_cell f0 3
 have k0:=blk_frozen f0 0
 have k1:=blk_frozen f0 1
 have k2:=blk_frozen f0 2
 have k3:=blk_frozen f0 3
 clear f0 hi hb hk her hj
 go_wp2_with (fail)
 obtain ⟨p1,p2,p3,p5⟩:=lic_bad HI3.out HB3.out HK3.out HF0.out HB.out.size HI.out.lt (.int .u8 a) (.string b) (.int .i64 c) (.slice A n cap)
 have e0:=blk_cell p5 0
 have e1:=blk_cell p5 1
 have e2:=blk_cell p5 2
 have e3:=blk_cell p5 3
 refine bodyPost_ret (v:=.tuple #[.agg #[.int .u8 a,.string b,.int .i64 c,.slice A n cap],.int .i64 er]) ?_ rfl ⟨a,b,c,A,n,cap,er,j,dp2,rfl,HEr.out,HJ.out,p1,p2,p3⟩
 simp [results,Tryz.results81,go_sem,e0,e1,e2,e3]
set_option maxHeartbeats 8000000 in
set_option maxRecDepth 100000 in
theorem lics_chain_81_no3.calls (toks:List S70) (cs:List S138) (s:ByteArray) (op:Int) (i dp:Int) (hP:PartNo3 toks cs 81 i dp)
  (g:Nat) (w0 w:World) (hI:IsS67 w0 w g toks cs i dp) (hB:Below w0.heap.size w0 w) :
  Calls Tryz.prog 58 #[.pointer (some ⟨g,0,none⟩),.string s,.int .u8 op,.func (.func 81) #[.pointer (some ⟨g,0,none⟩)] #[]] w (LicBad3 g w0 w toks cs):=by
 have HI:=Aside0.mk hI
 have HB:=Aside0.mk hB
 have HP:=Aside0.mk hP
 clear hI hB hP
 go_enter Tryz.func58,Tryz.ntmps58
 have a1:∀ o:Obj,IsS67 w0 (w.alloc o) g toks cs i dp:=fun o=>HI.out.alloc o
 have a2:∀ o:Obj,Below w0.heap.size w0 (w.alloc o):=fun o=>HB.out.alloc HB.out.size o
 have HA1:=Aside0.mk a1
 have HA2:=Aside0.mk a2
 clear a1 a2
 go_wp2_with (fail)
 go_at_call 81
 refine (HP.out g w0 _ (HA1.out _) (HA2.out _)).mono ?_
 rintro e_ w1 ⟨a,b,c,A,n,cap,er,j,dp2,rfl,her,hj,hi,hb,hk⟩
 have hern:(er == 0)=false:=beq_eq_false_iff_ne.mpr (Lim.ne her)
 have HEr:=Aside0.mk her
 have HJ:=Aside0.mk hj
 have HI1:=Aside0.mk hi
 have HB1:=Aside0.mk hb
 have HK1:=Aside0.mk hk
 have hr0:w1.heap[w.heap.size]? = some (.cells #[.int .u8 0,.string ⟨#[]⟩,.int .i64 0,.slice none 0 0] 24 (0,0)):=hk.blk (blk_new w _) (by have:=HI.out.lt;omega) (by simp)
 have HR0:=Aside0.mk hr0
 clear her hj hi hb hk hr0
 go_wp2_with (fail)
 go_loopw [11] (fun u wr=>u = .int .i64 er ∧ wr=w1.alloc (.cells #[.int .u8 a,.string b,.int .i64 c,.slice A n cap] 24)) (fun _ wr=>0)
 case atStart=>exact ⟨rfl,rfl⟩
 case round =>
  obtain ⟨rfl,rfl⟩:=hrel
  have f1:=blk_new w1 (.cells #[.int .u8 a,.string b,.int .i64 c,.slice A n cap] 24)
  have f0:=blk_alloc HR0.out (.cells #[.int .u8 a,.string b,.int .i64 c,.slice A n cap] 24)
  have F0:=Aside0.mk f0
  have c0:=blk_cell f1 0
  have c1:=blk_cell f1 1
  have c2:=blk_cell f1 2
  have c3:=blk_cell f1 3
  have d0:=blk_cell f0 0
  have d1:=blk_cell f0 1
  have d2:=blk_cell f0 2
  have d3:=blk_cell f0 3
  have k0:=blk_frozen f0 0
  have k1:=blk_frozen f0 1
  have k2:=blk_frozen f0 2
  have k3:=blk_frozen f0 3
  clear f0 f1
  go_wp2_with (fail)
  obtain ⟨p1,p2,p3,p5⟩:=lic_bad (HI1.out.alloc _) (HB1.out.alloc HB1.out.size _) (keep_alloc ((keep_alloc (KeepBut.refl w g none) _).trans HK1.out (.inl rfl)) _) F0.out HB.out.size HI.out.lt (.int .u8 a) (.string b) (.int .i64 c) (.slice A n cap)
  have e0:=blk_cell p5 0
  have e1:=blk_cell p5 1
  have e2:=blk_cell p5 2
  have e3:=blk_cell p5 3
  refine bodyPost_ret (v:=.tuple #[.agg #[.int .u8 a,.string b,.int .i64 c,.slice A n cap],.int .i64 er]) ?_ rfl ⟨a,b,c,A,n,cap,er,j,dp2,rfl,HEr.out,HJ.out,p1,p2,p3⟩
  simp [results,Tryz.results58,go_sem,e0,e1,e2,e3]
set_option maxHeartbeats 8000000 in
set_option maxRecDepth 100000 in
theorem lics_chain_59_no3.calls (toks:List S70) (cs:List S138) (s:ByteArray) (op:Int) (i dp:Int) (hP:PartNo3 toks cs 59 i dp)
  (g:Nat) (w0 w:World) (hI:IsS67 w0 w g toks cs i dp) (hB:Below w0.heap.size w0 w) :
  Calls Tryz.prog 58 #[.pointer (some ⟨g,0,none⟩),.string s,.int .u8 op,.func (.func 59) #[.pointer (some ⟨g,0,none⟩)] #[]] w (LicBad3 g w0 w toks cs):=by
 have HI:=Aside0.mk hI
 have HB:=Aside0.mk hB
 have HP:=Aside0.mk hP
 clear hI hB hP
 go_enter Tryz.func58,Tryz.ntmps58
 have a1:∀ o:Obj,IsS67 w0 (w.alloc o) g toks cs i dp:=fun o=>HI.out.alloc o
 have a2:∀ o:Obj,Below w0.heap.size w0 (w.alloc o):=fun o=>HB.out.alloc HB.out.size o
 have HA1:=Aside0.mk a1
 have HA2:=Aside0.mk a2
 clear a1 a2
 go_wp2_with (fail)
 go_at_call 59
 refine (HP.out g w0 _ (HA1.out _) (HA2.out _)).mono ?_
 rintro e_ w1 ⟨a,b,c,A,n,cap,er,j,dp2,rfl,her,hj,hi,hb,hk⟩
 have hern:(er == 0)=false:=beq_eq_false_iff_ne.mpr (Lim.ne her)
 have HEr:=Aside0.mk her
 have HJ:=Aside0.mk hj
 have HI1:=Aside0.mk hi
 have HB1:=Aside0.mk hb
 have HK1:=Aside0.mk hk
 have hr0:w1.heap[w.heap.size]? = some (.cells #[.int .u8 0,.string ⟨#[]⟩,.int .i64 0,.slice none 0 0] 24 (0,0)):=hk.blk (blk_new w _) (by have:=HI.out.lt;omega) (by simp)
 have HR0:=Aside0.mk hr0
 clear her hj hi hb hk hr0
 go_wp2_with (fail)
 go_loopw [11] (fun u wr=>u = .int .i64 er ∧ wr=w1.alloc (.cells #[.int .u8 a,.string b,.int .i64 c,.slice A n cap] 24)) (fun _ wr=>0)
 case atStart=>exact ⟨rfl,rfl⟩
 case round =>
  obtain ⟨rfl,rfl⟩:=hrel
  have f1:=blk_new w1 (.cells #[.int .u8 a,.string b,.int .i64 c,.slice A n cap] 24)
  have f0:=blk_alloc HR0.out (.cells #[.int .u8 a,.string b,.int .i64 c,.slice A n cap] 24)
  have F0:=Aside0.mk f0
  have c0:=blk_cell f1 0
  have c1:=blk_cell f1 1
  have c2:=blk_cell f1 2
  have c3:=blk_cell f1 3
  have d0:=blk_cell f0 0
  have d1:=blk_cell f0 1
  have d2:=blk_cell f0 2
  have d3:=blk_cell f0 3
  have k0:=blk_frozen f0 0
  have k1:=blk_frozen f0 1
  have k2:=blk_frozen f0 2
  have k3:=blk_frozen f0 3
  clear f0 f1
  go_wp2_with (fail)
  obtain ⟨p1,p2,p3,p5⟩:=lic_bad (HI1.out.alloc _) (HB1.out.alloc HB1.out.size _) (keep_alloc ((keep_alloc (KeepBut.refl w g none) _).trans HK1.out (.inl rfl)) _) F0.out HB.out.size HI.out.lt (.int .u8 a) (.string b) (.int .i64 c) (.slice A n cap)
  have e0:=blk_cell p5 0
  have e1:=blk_cell p5 1
  have e2:=blk_cell p5 2
  have e3:=blk_cell p5 3
  refine bodyPost_ret (v:=.tuple #[.agg #[.int .u8 a,.string b,.int .i64 c,.slice A n cap],.int .i64 er]) ?_ rfl ⟨a,b,c,A,n,cap,er,j,dp2,rfl,HEr.out,HJ.out,p1,p2,p3⟩
  simp [results,Tryz.results58,go_sem,e0,e1,e2,e3]
inductive ChainBad3 (toks:List S70) (cs:List S138) (pf:Nat) (s:ByteArray) (dp:Int):Nat → Prop
 | bad {j:Nat}:j < toks.length → lics_reader_sign.f toks cs j dp s=some (true,(j:Int),dp) → PartNo3 toks cs pf ((j:Int) + 1) dp → ChainBad3 toks cs pf s dp j
 | more {j:Nat} {m:S24} {k:Nat}:j < toks.length → lics_reader_sign.f toks cs j dp s=some (true,(j:Int),dp) → PartOK toks cs pf ((j:Int) + 1) dp m k → j < k → ChainBad3 toks cs pf s dp k → ChainBad3 toks cs pf s dp j
set_option maxHeartbeats 8000000 in
set_option maxRecDepth 100000 in
theorem lics_chain_81_bad3.calls (toks:List S70) (cs:List S138) (hm:toks.length ≤ 8192) (s:ByteArray) (op:Int) (i dp:Int) (l:S24) (j:Nat) (hP:PartOK toks cs 81 i dp l j) (hC:ChainBad3 toks cs 81 s dp j)
  (g:Nat) (w0 w:World) (hI:IsS67 w0 w g toks cs i dp) (hB:Below w0.heap.size w0 w) :
  Calls Tryz.prog 58 #[.pointer (some ⟨g,0,none⟩),.string s,.int .u8 op,.func (.func 81) #[.pointer (some ⟨g,0,none⟩)] #[]] w (LicBad3 g w0 w toks cs):=by
 have HI:=Aside0.mk hI
 have HB:=Aside0.mk hB
 have HP:=Aside0.mk hP
 have HC:=Aside0.mk hC
 clear hI hB hP hC
 go_enter Tryz.func58,Tryz.ntmps58
 have a1:∀ o:Obj,IsS67 w0 (w.alloc o) g toks cs i dp:=fun o=>HI.out.alloc o
 have a2:∀ o:Obj,Below w0.heap.size w0 (w.alloc o):=fun o=>HB.out.alloc HB.out.size o
 have HA1:=Aside0.mk a1
 have HA2:=Aside0.mk a2
 clear a1 a2
 go_wp2_with (first | (go_at_call 81;(refine (HP.out g w0 _ (HA1.out _) (HA2.out _)).mono ?_);rintro e_ w1 ⟨v1,rfl,hi,hb,hk,hr⟩;obtain ⟨A1,cp1,rfl⟩:=Kd.R_slice hr;have HI1:=Aside0.mk hi;have HB1:=Aside0.mk hb;have HK1:=Aside0.mk hk;have HR1:=Aside0.mk hr;clear hi hb hk hr))
 have hz1:w.heap.size + 1 ≤ w1.heap.size:=by have:=HK1.out.1;simpa using this
 have HZ1:=Aside0.mk hz1
 have hr0:w1.heap[w.heap.size]? = some (.cells #[.int .u8 0,.string ⟨#[]⟩,.int .i64 0,.slice none 0 0] 24 (0,0)):=HK1.out.blk (blk_new w _) (by have:=HI.out.lt;omega) (by simp)
 have HR0:=Aside0.mk hr0
 clear hz1 hr0
 go_loopw [11] (fun u wr=>(u = .int .i64 0 ∧ ∃ (a:Int) (b:ByteArray) (c:Int) (A:Option Addr) (n cap:Nat) (j:Nat),ChainBad3 toks cs 81 s dp j ∧ IsS67 w0 wr g toks cs j dp ∧ Below w0.heap.size w0 wr ∧ KeepBut w wr g none ∧ wr.heap[w1.heap.size]? = some (.cells #[.int .u8 a,.string b,.int .i64 c,.slice A n cap] 24 (0,0)) ∧ wr.heap[w.heap.size]? = some (.cells #[.int .u8 0,.string ⟨#[]⟩,.int .i64 0,.slice none 0 0] 24 (0,0))) ∨ (∃ (a:Int) (b:ByteArray) (c:Int) (A:Option Addr) (n cap:Nat) (er:Int) (j:Nat) (dp2:Int),u = .int .i64 er ∧ Lim er ∧ j ≤ toks.length ∧ IsS67 w0 wr g toks cs j dp2 ∧ Below w0.heap.size w0 wr ∧ KeepBut w wr g none ∧ wr.heap[w1.heap.size]? = some (.cells #[.int .u8 a,.string b,.int .i64 c,.slice A n cap] 24 (0,0)) ∧ wr.heap[w.heap.size]? = some (.cells #[.int .u8 0,.string ⟨#[]⟩,.int .i64 0,.slice none 0 0] 24 (0,0)))) (fun u wr=>if intOf u=0 then (8193 - rdAt wr g).toNat else 0)
 case atStart =>
  refine .inl ⟨rfl,l.f0,l.f1,l.f2,A1,l.f3.length,cp1,j,HC.out,HI1.out.alloc _,HB1.out.alloc HB1.out.size _,?_,blk_new _ _,blk_alloc HR0.out _⟩
  exact keep_alloc ((keep_alloc (KeepBut.refl w g none) _).trans HK1.out (.inl rfl)) _
 case round =>
  rcases hrel with ⟨rfl,la,lb,lc,A2,ln,cp2,j,hC,hI,hB,hK,hb1,hb0⟩ | ⟨a,b,c,A,n,cap,er,j,dp2,rfl,her,hj,hI,hB,hK,hb1,hb0⟩
  ·have HIr:=Aside0.mk hI
   have HBr:=Aside0.mk hB
   have HKr:=Aside0.mk hK
   have Hb1:=Aside0.mk hb1
   have Hb0:=Aside0.mk hb0
   cases hC with
   | bad hj hs hp =>
    have HS:=Aside0.mk hs
    have HP2:=Aside0.mk hp
    have HJ:=Aside0.mk hj
    have q4:IntKind.i64.wrap ((j:Int) + 1)=(j:Int) + 1:=IntWalk.i64_in _ (by omega)
    clear hI hB hK hb1 hb0 hs hp hj
    go_wp2_with (first | (go_at_call 80;(refine (lics_reader_sign.calls g toks cs _ dp s true _ dp w0 _ HIr.out HBr.out HS.out).mono ?_);rintro e_ w3 ⟨rfl,hi,hb,hk⟩;have f1:=hk.blk Hb1.out (by have:=HIr.out.ne_blk Hb1.out (by decide);omega) (by simp);have f0:=hk.blk Hb0.out (by have:=HIr.out.ne_blk Hb0.out (by decide);omega) (by simp);have F0:=Aside0.mk f0;have F1:=Aside0.mk f1;have HI3:=Aside0.mk hi;have HB3:=Aside0.mk hb;have HK3:=Aside0.mk hk;obtain ⟨A0',c0',A1',c1',hG,-,-,-⟩:=hi;have g2:=cellS67_2 hG;have gf:=blk_frozen hG 2;clear f0 f1 hG hb hk) | (go_at_call 81;(refine (HP2.out g w0 _ ((HI3.out.set_2 _).alloc _) ((HB3.out.setCell HI.out.ge _).alloc (by have:=HB3.out.size;simpa using this) _)).mono ?_);rintro e_ w4 ⟨a,b,c,A3,n,cp3,er,j2,dp2,rfl,her,hj2,hi,hb,hk⟩;have HEr:=Aside0.mk her;have HJ2:=Aside0.mk hj2;clear her hj2;have HI4:=Aside0.mk hi;have HB4:=Aside0.mk hb;have HK4:=Aside0.mk hk;obtain ⟨g10,g0,g12,hn⟩:=chain_w4 HI.out.lt HZ1.out HKr.out HK3.out F1.out F0.out HK4.out;have x10:=four_far g10 (by omega:w1.heap.size ≠ w3.heap.size) (.int .u8 a) (.string b) (.int .i64 c) (.slice A3 n cp3);have x0:=four_far g0 (by have:=HZ1.out;omega:w.heap.size ≠ w3.heap.size) (.int .u8 a) (.string b) (.int .i64 c) (.slice A3 n cp3);have x12:=four_at g12 (.int .u8 a) (.string b) (.int .i64 c) (.slice A3 n cp3);have t0:=blk_cell g12 0;have t1:=blk_cell g12 1;have t2:=blk_cell g12 2;have t3:=blk_cell g12 3;have z0:=blk_frozen g12 0;have z1:=blk_frozen g12 1;have z2:=blk_frozen g12 2;have z3:=blk_frozen g12 3;have p0:World.cell? (four _ _ _ _ _ _) _=_:=blk_cell x10 0;have p1:World.cell? (four _ _ _ _ _ _) _=_:=blk_cell x10 1;have p2:World.cell? (four _ _ _ _ _ _) _=_:=blk_cell x10 2;have p3:World.cell? (four _ _ _ _ _ _) _=_:=blk_cell x10 3;have r0:World.cell? (four _ _ _ _ _ _) _=_:=blk_cell x12 0;have r1:World.cell? (four _ _ _ _ _ _) _=_:=blk_cell x12 1;have r2:World.cell? (four _ _ _ _ _ _) _=_:=blk_cell x12 2;have r3:World.cell? (four _ _ _ _ _ _) _=_:=blk_cell x12 3;unfold four at p0 p1 p2 p3 r0 r1 r2 r3;have y0:=fun o=>blk_cell (blk_alloc x10 o) 0;have y1:=fun o=>blk_cell (blk_alloc x10 o) 1;have y2:=fun o=>blk_cell (blk_alloc x10 o) 2;have y3:=fun o=>blk_cell (blk_alloc x10 o) 3;have h0:=fun o=>blk_frozen (blk_alloc x10 o) 0;have h1:=fun o=>blk_frozen (blk_alloc x10 o) 1;have h2:=fun o=>blk_frozen (blk_alloc x10 o) 2;have h3:=fun o=>blk_frozen (blk_alloc x10 o) 3;unfold four at y0 y1 y2 y3 h0 h1 h2 h3;have X10:=Aside0.mk x10;have X0:=Aside0.mk x0;have X12:=Aside0.mk x12;have HN:=Aside0.mk hn;clear hi hb hk g10 g0 g12 x10 x0 x12 hn))
    have z3:w.heap.size ≤ w3.heap.size:=(HKr.out.trans HK3.out (.inl rfl)).1
    have zc:((w3.setCell ⟨g,2,none⟩ (.int .i64 ((j:Int) + 1))).alloc (.cells #[.int .u8 0,.string ⟨#[]⟩,.int .i64 0,.slice none 0 0] 24)).heap.size=w3.heap.size + 1:=by simp
    have z4:w3.heap.size + 1 ≤ w4.heap.size:=by have:=HK4.out.1;rw [zc] at this;exact this
    have gl:=HI.out.lt
    have hn:=HN.out
    have hz1:=HZ1.out
    have hI7:=((HI4.out.four (by omega:g ≠ w3.heap.size) (.int .u8 a) (.string b) (.int .i64 c) (.slice A3 n cp3)).alloc (.cells #[.int .u8 la,.string lb,.int .i64 lc,.slice A2 ln cp2,.int .u8 a,.string b,.int .i64 c,.slice A3 n cp3] 24)).four (by omega:g ≠ w1.heap.size) (.int .u8 op) (.string ⟨#[]⟩) (.int .i64 0) (.slice (some ⟨w4.heap.size,0,none⟩) 2 2)
    refine ⟨.inr ⟨op,⟨#[]⟩,0,some ⟨w4.heap.size,0,none⟩,2,2,er,j2,dp2,rfl,HEr.out,HJ2.out,hI7,?_,?_,four_at (blk_alloc X10.out _) _ _ _ _,four_far (blk_alloc X0.out _) (by omega) _ _ _ _⟩,?_⟩
    ·exact below_four ((below_four HB4.out (by have:=HB3.out.size;omega) _ _ _ _).alloc (by rw [four_size];exact HB4.out.size) _) (by have:=HB.out.size;omega) _ _ _ _
    ·refine keep_four (keep_alloc (keep_four (KeepBut.trans ?_ HK4.out (.inl rfl)) (by omega) _ _ _ _) _) (by omega) _ _ _ _
     exact keep_alloc ((HKr.out.trans HK3.out (.inl rfl)).set_ _ _) _
    ·have e2:intOf (.int .i64 er) ≠ 0:=Lim.ne HEr.out
     rw [if_neg e2,if_pos (show intOf (.int .i64 0)=0 from rfl),HIr.out.at_eq]
     have:=HJ.out
     omega
   | more hj hs hp hk hr =>
    rename_i m k
    have HS:=Aside0.mk hs
    have HP2:=Aside0.mk hp
    have HJ:=Aside0.mk hj
    have HKj:=Aside0.mk hk
    have HRr:=Aside0.mk hr
    have q4:IntKind.i64.wrap ((j:Int) + 1)=(j:Int) + 1:=IntWalk.i64_in _ (by omega)
    clear hI hB hK hb1 hb0 hs hp hj hk hr
    go_wp2_with (first | (go_at_call 80;(refine (lics_reader_sign.calls g toks cs _ dp s true _ dp w0 _ HIr.out HBr.out HS.out).mono ?_);rintro e_ w3 ⟨rfl,hi,hb,hk⟩;have f1:=hk.blk Hb1.out (by have:=HIr.out.ne_blk Hb1.out (by decide);omega) (by simp);have f0:=hk.blk Hb0.out (by have:=HIr.out.ne_blk Hb0.out (by decide);omega) (by simp);have F0:=Aside0.mk f0;have F1:=Aside0.mk f1;have HI3:=Aside0.mk hi;have HB3:=Aside0.mk hb;have HK3:=Aside0.mk hk;obtain ⟨A0',c0',A1',c1',hG,-,-,-⟩:=hi;have g2:=cellS67_2 hG;have gf:=blk_frozen hG 2;clear f0 f1 hG hb hk) | (go_at_call 81;(refine (HP2.out g w0 _ ((HI3.out.set_2 _).alloc _) ((HB3.out.setCell HI.out.ge _).alloc (by have:=HB3.out.size;simpa using this) _)).mono ?_);rintro e_ w4 ⟨v2,rfl,hi,hb,hk,hr⟩;obtain ⟨A3,cp3,rfl⟩:=Kd.R_slice hr;have HI4:=Aside0.mk hi;have HB4:=Aside0.mk hb;have HK4:=Aside0.mk hk;have HR4:=Aside0.mk hr;obtain ⟨g10,g0,g12,hn⟩:=chain_w4 HI.out.lt HZ1.out HKr.out HK3.out F1.out F0.out HK4.out;have x10:=four_far g10 (by omega:w1.heap.size ≠ w3.heap.size) (.int .u8 m.f0) (.string m.f1) (.int .i64 m.f2) (.slice A3 m.f3.length cp3);have x0:=four_far g0 (by have:=HZ1.out;omega:w.heap.size ≠ w3.heap.size) (.int .u8 m.f0) (.string m.f1) (.int .i64 m.f2) (.slice A3 m.f3.length cp3);have x12:=four_at g12 (.int .u8 m.f0) (.string m.f1) (.int .i64 m.f2) (.slice A3 m.f3.length cp3);have t0:=blk_cell g12 0;have t1:=blk_cell g12 1;have t2:=blk_cell g12 2;have t3:=blk_cell g12 3;have z0:=blk_frozen g12 0;have z1:=blk_frozen g12 1;have z2:=blk_frozen g12 2;have z3:=blk_frozen g12 3;have p0:World.cell? (four _ _ _ _ _ _) _=_:=blk_cell x10 0;have p1:World.cell? (four _ _ _ _ _ _) _=_:=blk_cell x10 1;have p2:World.cell? (four _ _ _ _ _ _) _=_:=blk_cell x10 2;have p3:World.cell? (four _ _ _ _ _ _) _=_:=blk_cell x10 3;have r0:World.cell? (four _ _ _ _ _ _) _=_:=blk_cell x12 0;have r1:World.cell? (four _ _ _ _ _ _) _=_:=blk_cell x12 1;have r2:World.cell? (four _ _ _ _ _ _) _=_:=blk_cell x12 2;have r3:World.cell? (four _ _ _ _ _ _) _=_:=blk_cell x12 3;unfold four at p0 p1 p2 p3 r0 r1 r2 r3;have y0:=fun o=>blk_cell (blk_alloc x10 o) 0;have y1:=fun o=>blk_cell (blk_alloc x10 o) 1;have y2:=fun o=>blk_cell (blk_alloc x10 o) 2;have y3:=fun o=>blk_cell (blk_alloc x10 o) 3;have h0:=fun o=>blk_frozen (blk_alloc x10 o) 0;have h1:=fun o=>blk_frozen (blk_alloc x10 o) 1;have h2:=fun o=>blk_frozen (blk_alloc x10 o) 2;have h3:=fun o=>blk_frozen (blk_alloc x10 o) 3;unfold four at y0 y1 y2 y3 h0 h1 h2 h3;have X10:=Aside0.mk x10;have X0:=Aside0.mk x0;have X12:=Aside0.mk x12;have HN:=Aside0.mk hn;clear hi hb hk hr g10 g0 g12 x10 x0 x12 hn))
    have z3:w.heap.size ≤ w3.heap.size:=(HKr.out.trans HK3.out (.inl rfl)).1
    have zc:((w3.setCell ⟨g,2,none⟩ (.int .i64 ((j:Int) + 1))).alloc (.cells #[.int .u8 0,.string ⟨#[]⟩,.int .i64 0,.slice none 0 0] 24)).heap.size=w3.heap.size + 1:=by simp
    have z4:w3.heap.size + 1 ≤ w4.heap.size:=by have:=HK4.out.1;rw [zc] at this;exact this
    have gl:=HI.out.lt
    have hn:=HN.out
    have hz1:=HZ1.out
    have hI7:=((HI4.out.four (by omega:g ≠ w3.heap.size) (.int .u8 m.f0) (.string m.f1) (.int .i64 m.f2) (.slice A3 m.f3.length cp3)).alloc (.cells #[.int .u8 la,.string lb,.int .i64 lc,.slice A2 ln cp2,.int .u8 m.f0,.string m.f1,.int .i64 m.f2,.slice A3 m.f3.length cp3] 24)).four (by omega:g ≠ w1.heap.size) (.int .u8 op) (.string ⟨#[]⟩) (.int .i64 0) (.slice (some ⟨w4.heap.size,0,none⟩) 2 2)
    refine ⟨.inl ⟨rfl,op,⟨#[]⟩,0,some ⟨w4.heap.size,0,none⟩,2,2,k,HRr.out,hI7,?_,?_,four_at (blk_alloc X10.out _) _ _ _ _,four_far (blk_alloc X0.out _) (by omega) _ _ _ _⟩,?_⟩
    ·exact below_four ((below_four HB4.out (by have:=HB3.out.size;omega) _ _ _ _).alloc (by rw [four_size];exact HB4.out.size) _) (by have:=HB.out.size;omega) _ _ _ _
    ·refine keep_four (keep_alloc (keep_four (KeepBut.trans ?_ HK4.out (.inl rfl)) (by omega) _ _ _ _) _) (by omega) _ _ _ _
     exact keep_alloc ((HKr.out.trans HK3.out (.inl rfl)).set_ _ _) _
    ·have e1:=hI7.at_eq
     unfold four at e1
     rw [if_pos (show intOf (.int .i64 0)=0 from rfl),if_pos (show intOf (.int .i64 0)=0 from rfl),e1,HIr.out.at_eq]
     have:=HKj.out
     have:=HJ.out
     omega
  ·have hern:(er == 0)=false:=beq_eq_false_iff_ne.mpr (Lim.ne her)
   have HEr:=Aside0.mk her
   have HJ:=Aside0.mk hj
   have HIr:=Aside0.mk hI
   have HBr:=Aside0.mk hB
   have HKr:=Aside0.mk hK
   have F0:=Aside0.mk hb0
   have c0:=blk_cell hb1 0
   have c1:=blk_cell hb1 1
   have c2:=blk_cell hb1 2
   have c3:=blk_cell hb1 3
   have d0:=blk_cell hb0 0
   have d1:=blk_cell hb0 1
   have d2:=blk_cell hb0 2
   have d3:=blk_cell hb0 3
   have k0:=blk_frozen hb0 0
   have k1:=blk_frozen hb0 1
   have k2:=blk_frozen hb0 2
   have k3:=blk_frozen hb0 3
   clear hI hB hK hb1 hb0 her hj
   go_wp2_with (fail)
   obtain ⟨p1,p2,p3,p5⟩:=lic_bad HIr.out HBr.out HKr.out F0.out HB.out.size HI.out.lt (.int .u8 a) (.string b) (.int .i64 c) (.slice A n cap)
   have e0:=blk_cell p5 0
   have e1:=blk_cell p5 1
   have e2:=blk_cell p5 2
   have e3:=blk_cell p5 3
   refine bodyPost_ret (v:=.tuple #[.agg #[.int .u8 a,.string b,.int .i64 c,.slice A n cap],.int .i64 er]) ?_ rfl ⟨a,b,c,A,n,cap,er,j,dp2,rfl,HEr.out,HJ.out,p1,p2,p3⟩
   simp [results,Tryz.results58,go_sem,e0,e1,e2,e3]
set_option maxHeartbeats 8000000 in
set_option maxRecDepth 100000 in
theorem lics_chain_59_bad3.calls (toks:List S70) (cs:List S138) (hm:toks.length ≤ 8192) (s:ByteArray) (op:Int) (i dp:Int) (l:S24) (j:Nat) (hP:PartOK toks cs 59 i dp l j) (hC:ChainBad3 toks cs 59 s dp j)
  (g:Nat) (w0 w:World) (hI:IsS67 w0 w g toks cs i dp) (hB:Below w0.heap.size w0 w) :
  Calls Tryz.prog 58 #[.pointer (some ⟨g,0,none⟩),.string s,.int .u8 op,.func (.func 59) #[.pointer (some ⟨g,0,none⟩)] #[]] w (LicBad3 g w0 w toks cs):=by
 have HI:=Aside0.mk hI
 have HB:=Aside0.mk hB
 have HP:=Aside0.mk hP
 have HC:=Aside0.mk hC
 clear hI hB hP hC
 go_enter Tryz.func58,Tryz.ntmps58
 have a1:∀ o:Obj,IsS67 w0 (w.alloc o) g toks cs i dp:=fun o=>HI.out.alloc o
 have a2:∀ o:Obj,Below w0.heap.size w0 (w.alloc o):=fun o=>HB.out.alloc HB.out.size o
 have HA1:=Aside0.mk a1
 have HA2:=Aside0.mk a2
 clear a1 a2
 go_wp2_with (first | (go_at_call 59;(refine (HP.out g w0 _ (HA1.out _) (HA2.out _)).mono ?_);rintro e_ w1 ⟨v1,rfl,hi,hb,hk,hr⟩;obtain ⟨A1,cp1,rfl⟩:=Kd.R_slice hr;have HI1:=Aside0.mk hi;have HB1:=Aside0.mk hb;have HK1:=Aside0.mk hk;have HR1:=Aside0.mk hr;clear hi hb hk hr))
 have hz1:w.heap.size + 1 ≤ w1.heap.size:=by have:=HK1.out.1;simpa using this
 have HZ1:=Aside0.mk hz1
 have hr0:w1.heap[w.heap.size]? = some (.cells #[.int .u8 0,.string ⟨#[]⟩,.int .i64 0,.slice none 0 0] 24 (0,0)):=HK1.out.blk (blk_new w _) (by have:=HI.out.lt;omega) (by simp)
 have HR0:=Aside0.mk hr0
 clear hz1 hr0
 go_loopw [11] (fun u wr=>(u = .int .i64 0 ∧ ∃ (a:Int) (b:ByteArray) (c:Int) (A:Option Addr) (n cap:Nat) (j:Nat),ChainBad3 toks cs 59 s dp j ∧ IsS67 w0 wr g toks cs j dp ∧ Below w0.heap.size w0 wr ∧ KeepBut w wr g none ∧ wr.heap[w1.heap.size]? = some (.cells #[.int .u8 a,.string b,.int .i64 c,.slice A n cap] 24 (0,0)) ∧ wr.heap[w.heap.size]? = some (.cells #[.int .u8 0,.string ⟨#[]⟩,.int .i64 0,.slice none 0 0] 24 (0,0))) ∨ (∃ (a:Int) (b:ByteArray) (c:Int) (A:Option Addr) (n cap:Nat) (er:Int) (j:Nat) (dp2:Int),u = .int .i64 er ∧ Lim er ∧ j ≤ toks.length ∧ IsS67 w0 wr g toks cs j dp2 ∧ Below w0.heap.size w0 wr ∧ KeepBut w wr g none ∧ wr.heap[w1.heap.size]? = some (.cells #[.int .u8 a,.string b,.int .i64 c,.slice A n cap] 24 (0,0)) ∧ wr.heap[w.heap.size]? = some (.cells #[.int .u8 0,.string ⟨#[]⟩,.int .i64 0,.slice none 0 0] 24 (0,0)))) (fun u wr=>if intOf u=0 then (8193 - rdAt wr g).toNat else 0)
 case atStart =>
  refine .inl ⟨rfl,l.f0,l.f1,l.f2,A1,l.f3.length,cp1,j,HC.out,HI1.out.alloc _,HB1.out.alloc HB1.out.size _,?_,blk_new _ _,blk_alloc HR0.out _⟩
  exact keep_alloc ((keep_alloc (KeepBut.refl w g none) _).trans HK1.out (.inl rfl)) _
 case round =>
  rcases hrel with ⟨rfl,la,lb,lc,A2,ln,cp2,j,hC,hI,hB,hK,hb1,hb0⟩ | ⟨a,b,c,A,n,cap,er,j,dp2,rfl,her,hj,hI,hB,hK,hb1,hb0⟩
  ·have HIr:=Aside0.mk hI
   have HBr:=Aside0.mk hB
   have HKr:=Aside0.mk hK
   have Hb1:=Aside0.mk hb1
   have Hb0:=Aside0.mk hb0
   cases hC with
   | bad hj hs hp =>
    have HS:=Aside0.mk hs
    have HP2:=Aside0.mk hp
    have HJ:=Aside0.mk hj
    have q4:IntKind.i64.wrap ((j:Int) + 1)=(j:Int) + 1:=IntWalk.i64_in _ (by omega)
    clear hI hB hK hb1 hb0 hs hp hj
    go_wp2_with (first | (go_at_call 80;(refine (lics_reader_sign.calls g toks cs _ dp s true _ dp w0 _ HIr.out HBr.out HS.out).mono ?_);rintro e_ w3 ⟨rfl,hi,hb,hk⟩;have f1:=hk.blk Hb1.out (by have:=HIr.out.ne_blk Hb1.out (by decide);omega) (by simp);have f0:=hk.blk Hb0.out (by have:=HIr.out.ne_blk Hb0.out (by decide);omega) (by simp);have F0:=Aside0.mk f0;have F1:=Aside0.mk f1;have HI3:=Aside0.mk hi;have HB3:=Aside0.mk hb;have HK3:=Aside0.mk hk;obtain ⟨A0',c0',A1',c1',hG,-,-,-⟩:=hi;have g2:=cellS67_2 hG;have gf:=blk_frozen hG 2;clear f0 f1 hG hb hk) | (go_at_call 59;(refine (HP2.out g w0 _ ((HI3.out.set_2 _).alloc _) ((HB3.out.setCell HI.out.ge _).alloc (by have:=HB3.out.size;simpa using this) _)).mono ?_);rintro e_ w4 ⟨a,b,c,A3,n,cp3,er,j2,dp2,rfl,her,hj2,hi,hb,hk⟩;have HEr:=Aside0.mk her;have HJ2:=Aside0.mk hj2;clear her hj2;have HI4:=Aside0.mk hi;have HB4:=Aside0.mk hb;have HK4:=Aside0.mk hk;obtain ⟨g10,g0,g12,hn⟩:=chain_w4 HI.out.lt HZ1.out HKr.out HK3.out F1.out F0.out HK4.out;have x10:=four_far g10 (by omega:w1.heap.size ≠ w3.heap.size) (.int .u8 a) (.string b) (.int .i64 c) (.slice A3 n cp3);have x0:=four_far g0 (by have:=HZ1.out;omega:w.heap.size ≠ w3.heap.size) (.int .u8 a) (.string b) (.int .i64 c) (.slice A3 n cp3);have x12:=four_at g12 (.int .u8 a) (.string b) (.int .i64 c) (.slice A3 n cp3);have t0:=blk_cell g12 0;have t1:=blk_cell g12 1;have t2:=blk_cell g12 2;have t3:=blk_cell g12 3;have z0:=blk_frozen g12 0;have z1:=blk_frozen g12 1;have z2:=blk_frozen g12 2;have z3:=blk_frozen g12 3;have p0:World.cell? (four _ _ _ _ _ _) _=_:=blk_cell x10 0;have p1:World.cell? (four _ _ _ _ _ _) _=_:=blk_cell x10 1;have p2:World.cell? (four _ _ _ _ _ _) _=_:=blk_cell x10 2;have p3:World.cell? (four _ _ _ _ _ _) _=_:=blk_cell x10 3;have r0:World.cell? (four _ _ _ _ _ _) _=_:=blk_cell x12 0;have r1:World.cell? (four _ _ _ _ _ _) _=_:=blk_cell x12 1;have r2:World.cell? (four _ _ _ _ _ _) _=_:=blk_cell x12 2;have r3:World.cell? (four _ _ _ _ _ _) _=_:=blk_cell x12 3;unfold four at p0 p1 p2 p3 r0 r1 r2 r3;have y0:=fun o=>blk_cell (blk_alloc x10 o) 0;have y1:=fun o=>blk_cell (blk_alloc x10 o) 1;have y2:=fun o=>blk_cell (blk_alloc x10 o) 2;have y3:=fun o=>blk_cell (blk_alloc x10 o) 3;have h0:=fun o=>blk_frozen (blk_alloc x10 o) 0;have h1:=fun o=>blk_frozen (blk_alloc x10 o) 1;have h2:=fun o=>blk_frozen (blk_alloc x10 o) 2;have h3:=fun o=>blk_frozen (blk_alloc x10 o) 3;unfold four at y0 y1 y2 y3 h0 h1 h2 h3;have X10:=Aside0.mk x10;have X0:=Aside0.mk x0;have X12:=Aside0.mk x12;have HN:=Aside0.mk hn;clear hi hb hk g10 g0 g12 x10 x0 x12 hn))
    have z3:w.heap.size ≤ w3.heap.size:=(HKr.out.trans HK3.out (.inl rfl)).1
    have zc:((w3.setCell ⟨g,2,none⟩ (.int .i64 ((j:Int) + 1))).alloc (.cells #[.int .u8 0,.string ⟨#[]⟩,.int .i64 0,.slice none 0 0] 24)).heap.size=w3.heap.size + 1:=by simp
    have z4:w3.heap.size + 1 ≤ w4.heap.size:=by have:=HK4.out.1;rw [zc] at this;exact this
    have gl:=HI.out.lt
    have hn:=HN.out
    have hz1:=HZ1.out
    have hI7:=((HI4.out.four (by omega:g ≠ w3.heap.size) (.int .u8 a) (.string b) (.int .i64 c) (.slice A3 n cp3)).alloc (.cells #[.int .u8 la,.string lb,.int .i64 lc,.slice A2 ln cp2,.int .u8 a,.string b,.int .i64 c,.slice A3 n cp3] 24)).four (by omega:g ≠ w1.heap.size) (.int .u8 op) (.string ⟨#[]⟩) (.int .i64 0) (.slice (some ⟨w4.heap.size,0,none⟩) 2 2)
    refine ⟨.inr ⟨op,⟨#[]⟩,0,some ⟨w4.heap.size,0,none⟩,2,2,er,j2,dp2,rfl,HEr.out,HJ2.out,hI7,?_,?_,four_at (blk_alloc X10.out _) _ _ _ _,four_far (blk_alloc X0.out _) (by omega) _ _ _ _⟩,?_⟩
    ·exact below_four ((below_four HB4.out (by have:=HB3.out.size;omega) _ _ _ _).alloc (by rw [four_size];exact HB4.out.size) _) (by have:=HB.out.size;omega) _ _ _ _
    ·refine keep_four (keep_alloc (keep_four (KeepBut.trans ?_ HK4.out (.inl rfl)) (by omega) _ _ _ _) _) (by omega) _ _ _ _
     exact keep_alloc ((HKr.out.trans HK3.out (.inl rfl)).set_ _ _) _
    ·have e2:intOf (.int .i64 er) ≠ 0:=Lim.ne HEr.out
     rw [if_neg e2,if_pos (show intOf (.int .i64 0)=0 from rfl),HIr.out.at_eq]
     have:=HJ.out
     omega
   | more hj hs hp hk hr =>
    rename_i m k
    have HS:=Aside0.mk hs
    have HP2:=Aside0.mk hp
    have HJ:=Aside0.mk hj
    have HKj:=Aside0.mk hk
    have HRr:=Aside0.mk hr
    have q4:IntKind.i64.wrap ((j:Int) + 1)=(j:Int) + 1:=IntWalk.i64_in _ (by omega)
    clear hI hB hK hb1 hb0 hs hp hj hk hr
    go_wp2_with (first | (go_at_call 80;(refine (lics_reader_sign.calls g toks cs _ dp s true _ dp w0 _ HIr.out HBr.out HS.out).mono ?_);rintro e_ w3 ⟨rfl,hi,hb,hk⟩;have f1:=hk.blk Hb1.out (by have:=HIr.out.ne_blk Hb1.out (by decide);omega) (by simp);have f0:=hk.blk Hb0.out (by have:=HIr.out.ne_blk Hb0.out (by decide);omega) (by simp);have F0:=Aside0.mk f0;have F1:=Aside0.mk f1;have HI3:=Aside0.mk hi;have HB3:=Aside0.mk hb;have HK3:=Aside0.mk hk;obtain ⟨A0',c0',A1',c1',hG,-,-,-⟩:=hi;have g2:=cellS67_2 hG;have gf:=blk_frozen hG 2;clear f0 f1 hG hb hk) | (go_at_call 59;(refine (HP2.out g w0 _ ((HI3.out.set_2 _).alloc _) ((HB3.out.setCell HI.out.ge _).alloc (by have:=HB3.out.size;simpa using this) _)).mono ?_);rintro e_ w4 ⟨v2,rfl,hi,hb,hk,hr⟩;obtain ⟨A3,cp3,rfl⟩:=Kd.R_slice hr;have HI4:=Aside0.mk hi;have HB4:=Aside0.mk hb;have HK4:=Aside0.mk hk;have HR4:=Aside0.mk hr;obtain ⟨g10,g0,g12,hn⟩:=chain_w4 HI.out.lt HZ1.out HKr.out HK3.out F1.out F0.out HK4.out;have x10:=four_far g10 (by omega:w1.heap.size ≠ w3.heap.size) (.int .u8 m.f0) (.string m.f1) (.int .i64 m.f2) (.slice A3 m.f3.length cp3);have x0:=four_far g0 (by have:=HZ1.out;omega:w.heap.size ≠ w3.heap.size) (.int .u8 m.f0) (.string m.f1) (.int .i64 m.f2) (.slice A3 m.f3.length cp3);have x12:=four_at g12 (.int .u8 m.f0) (.string m.f1) (.int .i64 m.f2) (.slice A3 m.f3.length cp3);have t0:=blk_cell g12 0;have t1:=blk_cell g12 1;have t2:=blk_cell g12 2;have t3:=blk_cell g12 3;have z0:=blk_frozen g12 0;have z1:=blk_frozen g12 1;have z2:=blk_frozen g12 2;have z3:=blk_frozen g12 3;have p0:World.cell? (four _ _ _ _ _ _) _=_:=blk_cell x10 0;have p1:World.cell? (four _ _ _ _ _ _) _=_:=blk_cell x10 1;have p2:World.cell? (four _ _ _ _ _ _) _=_:=blk_cell x10 2;have p3:World.cell? (four _ _ _ _ _ _) _=_:=blk_cell x10 3;have r0:World.cell? (four _ _ _ _ _ _) _=_:=blk_cell x12 0;have r1:World.cell? (four _ _ _ _ _ _) _=_:=blk_cell x12 1;have r2:World.cell? (four _ _ _ _ _ _) _=_:=blk_cell x12 2;have r3:World.cell? (four _ _ _ _ _ _) _=_:=blk_cell x12 3;unfold four at p0 p1 p2 p3 r0 r1 r2 r3;have y0:=fun o=>blk_cell (blk_alloc x10 o) 0;have y1:=fun o=>blk_cell (blk_alloc x10 o) 1;have y2:=fun o=>blk_cell (blk_alloc x10 o) 2;have y3:=fun o=>blk_cell (blk_alloc x10 o) 3;have h0:=fun o=>blk_frozen (blk_alloc x10 o) 0;have h1:=fun o=>blk_frozen (blk_alloc x10 o) 1;have h2:=fun o=>blk_frozen (blk_alloc x10 o) 2;have h3:=fun o=>blk_frozen (blk_alloc x10 o) 3;unfold four at y0 y1 y2 y3 h0 h1 h2 h3;have X10:=Aside0.mk x10;have X0:=Aside0.mk x0;have X12:=Aside0.mk x12;have HN:=Aside0.mk hn;clear hi hb hk hr g10 g0 g12 x10 x0 x12 hn))
    have z3:w.heap.size ≤ w3.heap.size:=(HKr.out.trans HK3.out (.inl rfl)).1
    have zc:((w3.setCell ⟨g,2,none⟩ (.int .i64 ((j:Int) + 1))).alloc (.cells #[.int .u8 0,.string ⟨#[]⟩,.int .i64 0,.slice none 0 0] 24)).heap.size=w3.heap.size + 1:=by simp
    have z4:w3.heap.size + 1 ≤ w4.heap.size:=by have:=HK4.out.1;rw [zc] at this;exact this
    have gl:=HI.out.lt
    have hn:=HN.out
    have hz1:=HZ1.out
    have hI7:=((HI4.out.four (by omega:g ≠ w3.heap.size) (.int .u8 m.f0) (.string m.f1) (.int .i64 m.f2) (.slice A3 m.f3.length cp3)).alloc (.cells #[.int .u8 la,.string lb,.int .i64 lc,.slice A2 ln cp2,.int .u8 m.f0,.string m.f1,.int .i64 m.f2,.slice A3 m.f3.length cp3] 24)).four (by omega:g ≠ w1.heap.size) (.int .u8 op) (.string ⟨#[]⟩) (.int .i64 0) (.slice (some ⟨w4.heap.size,0,none⟩) 2 2)
    refine ⟨.inl ⟨rfl,op,⟨#[]⟩,0,some ⟨w4.heap.size,0,none⟩,2,2,k,HRr.out,hI7,?_,?_,four_at (blk_alloc X10.out _) _ _ _ _,four_far (blk_alloc X0.out _) (by omega) _ _ _ _⟩,?_⟩
    ·exact below_four ((below_four HB4.out (by have:=HB3.out.size;omega) _ _ _ _).alloc (by rw [four_size];exact HB4.out.size) _) (by have:=HB.out.size;omega) _ _ _ _
    ·refine keep_four (keep_alloc (keep_four (KeepBut.trans ?_ HK4.out (.inl rfl)) (by omega) _ _ _ _) _) (by omega) _ _ _ _
     exact keep_alloc ((HKr.out.trans HK3.out (.inl rfl)).set_ _ _) _
    ·have e1:=hI7.at_eq
     unfold four at e1
     rw [if_pos (show intOf (.int .i64 0)=0 from rfl),if_pos (show intOf (.int .i64 0)=0 from rfl),e1,HIr.out.at_eq]
     have:=HKj.out
     have:=HJ.out
     omega
  ·have hern:(er == 0)=false:=beq_eq_false_iff_ne.mpr (Lim.ne her)
   have HEr:=Aside0.mk her
   have HJ:=Aside0.mk hj
   have HIr:=Aside0.mk hI
   have HBr:=Aside0.mk hB
   have HKr:=Aside0.mk hK
   have F0:=Aside0.mk hb0
   have c0:=blk_cell hb1 0
   have c1:=blk_cell hb1 1
   have c2:=blk_cell hb1 2
   have c3:=blk_cell hb1 3
   have d0:=blk_cell hb0 0
   have d1:=blk_cell hb0 1
   have d2:=blk_cell hb0 2
   have d3:=blk_cell hb0 3
   have k0:=blk_frozen hb0 0
   have k1:=blk_frozen hb0 1
   have k2:=blk_frozen hb0 2
   have k3:=blk_frozen hb0 3
   clear hI hB hK hb1 hb0 her hj
   go_wp2_with (fail)
   obtain ⟨p1,p2,p3,p5⟩:=lic_bad HIr.out HBr.out HKr.out F0.out HB.out.size HI.out.lt (.int .u8 a) (.string b) (.int .i64 c) (.slice A n cap)
   have e0:=blk_cell p5 0
   have e1:=blk_cell p5 1
   have e2:=blk_cell p5 2
   have e3:=blk_cell p5 3
   refine bodyPost_ret (v:=.tuple #[.agg #[.int .u8 a,.string b,.int .i64 c,.slice A n cap],.int .i64 er]) ?_ rfl ⟨a,b,c,A,n,cap,er,j,dp2,rfl,HEr.out,HJ.out,p1,p2,p3⟩
   simp [results,Tryz.results58,go_sem,e0,e1,e2,e3]
set_option maxHeartbeats 8000000 in
set_option maxRecDepth 100000 in
theorem lics_of_shut3.calls (toks:List S70) (cs:List S138) (hm:toks.length ≤ 8192) (i:Nat) (dp:Int) (x:S70) (d:ByteArray) (kk er:Int) (hi:i < toks.length) (hx:x=rd_T70 toks i) (hd:d=⟨(Lib.trimLeftB x.f1.data.toList 48).toArray⟩) (hd0:d.toList ≠ []) (hd4:d.size ≤ 4) (ha:Lib.atoi d.data.toList=some kk) (her:Lim er) (hE:lics_reader_enter.f toks cs ((i:Int) + 1) dp=some (er,(i:Int) + 1,dp)):PartNo3 toks cs 104 i dp:=by
 have HIn:=Aside0.mk (show i + 1 ≤ toks.length from hi)
 have HEr:=Aside0.mk her
 have hern:(er == 0)=false:=beq_eq_false_iff_ne.mpr (Lim.ne her)
 clear her
 intro g w0 w hI hB
 have HI:=Aside0.mk hI
 have HB:=Aside0.mk hB
 have HX:=Aside0.mk hx
 have HD:=Aside0.mk hd
 have HD4:=Aside0.mk hd4
 have HA:=Aside0.mk ha
 have HE:=Aside0.mk hE
 have q4:IntKind.i64.wrap ((i:Int) + 1)=(i:Int) + 1:=IntWalk.i64_in _ (by omega)
 obtain ⟨A0,c0,A1,c1,hG,hge,hS0,hS1⟩:=hI
 obtain ⟨ad,e0,x0,x1,x2,x3⟩:=at_T70 hS0 (i:Int) (by omega) (by omega)
 subst e0
 rw [← hx] at x1
 replace x1:=pw_cell_below hB x1
 rw [Int.toNat_natCast] at x1
 have p1:(0 ≤ (i:Int))=True:=eq_true (by omega)
 have p2:((i:Int) < (toks.length:Int))=True:=eq_true (by omega)
 have p3:(i < toks.length)=True:=eq_true (by omega)
 have g0:=cellS67_0 hG
 have g2:=cellS67_2 hG
 have gf:=blk_frozen hG 2
 have up:∀ (o:Obj) {a:Addr} {v:Value},w.cell? a=some v → (w.alloc o).cell? a=some v:=fun o {a} {v} h=>pw_cell_below ((Below.refl _ w).alloc (Nat.le_refl _) o) h
 have m0:=fun o=>up o g0
 have m2:=fun o=>up o g2
 have y1:=fun o=>up o x1
 have t1:(d.toList=[])=False:=eq_false hd0
 have t2:(d.toList == [])=false:=beq_eq_false_iff_ne.mpr hd0
 have b2:decide ((4:Int) < (d.size:Int))=false:=decide_eq_false (by omega)
 have b3:decide (4 < d.size)=false:=decide_eq_false (by omega)
 have HG:=Aside0.mk hG
 clear hd0 up hG hge hS0 hS1 hB hx x0 x1 x2 x3 g0 g2 hd hd4 ha hE hi
 go_enter Tryz.func104,Tryz.ntmps104
 go_wp2_with (fail)
 go_quiet ((refine (Tryz.strings_TrimLeft_one _ 48 (by decide) _).mono ?_;rintro e_ w_ ⟨rfl,rfl⟩;exact ⟨by rw [← HD.out],_,rfl⟩))
 generalize hW2:(w.alloc (.cells #[.int .u8 0,.string ⟨#[]⟩,.int .i64 0,.slice none 0 0] 24)).drewN _=W2
 have B2:Below w.heap.size w W2:=by rw [← hW2];exact pw_below_drewN ((Below.refl _ w).alloc (Nat.le_refl _) _) _
 have s2:W2.heap.size=w.heap.size + 1:=by rw [← hW2];simp
 have b2:W2.heap[w.heap.size]? = some (.cells #[.int .u8 0,.string ⟨#[]⟩,.int .i64 0,.slice none 0 0] 24 (0,0)):=by rw [← hW2];exact blk_drewN (blk_new w _) _
 have HS2:=Aside0.mk s2
 have HB2:=Aside0.mk B2
 have Hb2:=Aside0.mk b2
 clear s2 B2 b2 hW2 m0 m2 y1 gf
 go_wp2_with (first | (go_at_call 124;refine (Tryz.strconv_Atoi d kk (by have:=HD4.out;omega) HA.out _).mono ?_;rintro e_ w3 ⟨rfl,t,hw3⟩;have hb3:Below W2.heap.size W2 w3:=(by rw [hw3];exact bytes_below (Below.refl _ _) (Nat.le_refl _) 5 t);have bw3:=HB2.out.trans (hb3.mono (by have:=HS2.out;omega));have Hb3:=Aside0.mk (blk_below Hb2.out hb3);have HI3:=Aside0.mk (HI.out.below bw3);have HBw3:=Aside0.mk bw3;have g2:=cellS67_2 ((bw3.block g HI.out.lt).trans HG.out);have gf:=blk_frozen ((bw3.block g HI.out.lt).trans HG.out) 2;clear hw3 hb3 bw3) | (go_at_call 107;(refine (lics_reader_enter.calls g toks cs ((i:Int) + 1) dp er ((i:Int) + 1) dp w0 _ (HI3.out.set_2 _) ((HB.out.trans (HBw3.out.mono HB.out.size)).setCell HI.out.ge _) HE.out).mono ?_);rintro e_ w4 ⟨rfl,hi,hb,hk⟩;have b4:=hk.blk (blk_far Hb3.out (p:=⟨g,2,none⟩) (by have:=HI.out.lt;simp only;omega) (.int .i64 ((i:Int) + 1))) (by have:=HI.out.lt;omega) (by simp);have Hb4:=Aside0.mk b4;have HI4:=Aside0.mk hi;have HB4:=Aside0.mk hb;have HK4:=Aside0.mk (((KeepBut.of_below HBw3.out g none).set_ _ _).trans hk (.inl rfl));have d0:=blk_cell b4 0;have d1:=blk_cell b4 1;have d2:=blk_cell b4 2;have d3:=blk_cell b4 3;have k0:=blk_frozen b4 0;have k1:=blk_frozen b4 1;have k2:=blk_frozen b4 2;have k3:=blk_frozen b4 3;clear b4 hi hb hk g2 gf))
 obtain ⟨o1,o2,o3,o5⟩:=lic_bad HI4.out HB4.out HK4.out Hb4.out HB.out.size HI.out.lt (.int .u8 0) (.string ⟨#[]⟩) (.int .i64 0) (.slice none 0 0)
 have e0:=blk_cell o5 0
 have e1:=blk_cell o5 1
 have e2:=blk_cell o5 2
 have e3:=blk_cell o5 3
 refine bodyPost_ret (v:=.tuple #[.agg #[.int .u8 0,.string ⟨#[]⟩,.int .i64 0,.slice none 0 0],.int .i64 er]) ?_ rfl ⟨0,⟨#[]⟩,0,none,0,0,er,i + 1,dp,rfl,HEr.out,HIn.out,o1,o2,o3⟩
 simp [results,Tryz.results104,go_sem,e0,e1,e2,e3]
inductive OfBad3 (toks:List S70) (cs:List S138) (dp kk:Int):List S24 → Int → Prop
 | part {acc:List S24} {i:Nat}:i ≤ toks.length → PartNo3 toks cs 36 i (dp + 1) → OfBad3 toks cs dp kk acc i
 | more {acc:List S24} {i:Nat} {m:S24} {j:Nat}:i < toks.length → j < toks.length → i ≤ j → PartOK toks cs 36 i (dp + 1) m j → lics_reader_sign.f toks cs j (dp + 1) ⟨#[44]⟩=some (true,(j:Int),dp + 1) → OfBad3 toks cs dp kk (acc ++ [m]) ((j:Int) + 1) → OfBad3 toks cs dp kk acc i
set_option maxHeartbeats 8000000 in
set_option maxRecDepth 100000 in
theorem lics_of_bad3.calls (toks:List S70) (cs:List S138) (hm:toks.length ≤ 8192) (i:Nat) (dp:Int) (x:S70) (d:ByteArray) (kk:Int) (hi:i < toks.length) (hx:x=rd_T70 toks i) (hd:d=⟨(Lib.trimLeftB x.f1.data.toList 48).toArray⟩) (hd0:d.toList ≠ []) (hd4:d.size ≤ 4) (ha:Lib.atoi d.data.toList=some kk) (hE:lics_reader_enter.f toks cs ((i:Int) + 1) dp=some (0,(i:Int) + 2,dp + 1)) (hA:OfBad3 toks cs dp kk [] ((i:Int) + 2)):PartNo3 toks cs 104 i dp:=by
 intro g w0 w hI hB
 have HI:=Aside0.mk hI
 have HB:=Aside0.mk hB
 have HX:=Aside0.mk hx
 have HD:=Aside0.mk hd
 have HD4:=Aside0.mk hd4
 have HA:=Aside0.mk ha
 have HE:=Aside0.mk hE
 have HAr:=Aside0.mk hA
 have q4:IntKind.i64.wrap ((i:Int) + 1)=(i:Int) + 1:=IntWalk.i64_in _ (by omega)
 obtain ⟨A0,c0,A1,c1,hG,hge,hS0,hS1⟩:=hI
 obtain ⟨ad,e0,x0,x1,x2,x3⟩:=at_T70 hS0 (i:Int) (by omega) (by omega)
 subst e0
 rw [← hx] at x1
 replace x1:=pw_cell_below hB x1
 rw [Int.toNat_natCast] at x1
 have p1:(0 ≤ (i:Int))=True:=eq_true (by omega)
 have p2:((i:Int) < (toks.length:Int))=True:=eq_true (by omega)
 have p3:(i < toks.length)=True:=eq_true (by omega)
 have g0:=cellS67_0 hG
 have g2:=cellS67_2 hG
 have gf:=blk_frozen hG 2
 have up:∀ (o:Obj) {a:Addr} {v:Value},w.cell? a=some v → (w.alloc o).cell? a=some v:=fun o {a} {v} h=>pw_cell_below ((Below.refl _ w).alloc (Nat.le_refl _) o) h
 have m0:=fun o=>up o g0
 have m2:=fun o=>up o g2
 have y1:=fun o=>up o x1
 have t1:(d.toList=[])=False:=eq_false hd0
 have t2:(d.toList == [])=false:=beq_eq_false_iff_ne.mpr hd0
 have b2:decide ((4:Int) < (d.size:Int))=false:=decide_eq_false (by omega)
 have b3:decide (4 < d.size)=false:=decide_eq_false (by omega)
 have HG:=Aside0.mk hG
 clear hd0 up hG hge hS0 hS1 hB hx x0 x1 x2 x3 g0 g2 hd hd4 ha hE hA hi
 go_enter Tryz.func104,Tryz.ntmps104
 go_wp2_with (fail)
 go_quiet ((refine (Tryz.strings_TrimLeft_one _ 48 (by decide) _).mono ?_;rintro e_ w_ ⟨rfl,rfl⟩;exact ⟨by rw [← HD.out],_,rfl⟩))
 generalize hW2:(w.alloc (.cells #[.int .u8 0,.string ⟨#[]⟩,.int .i64 0,.slice none 0 0] 24)).drewN _=W2
 have B2:Below w.heap.size w W2:=by rw [← hW2];exact pw_below_drewN ((Below.refl _ w).alloc (Nat.le_refl _) _) _
 have s2:W2.heap.size=w.heap.size + 1:=by rw [← hW2];simp
 have b2:W2.heap[w.heap.size]? = some (.cells #[.int .u8 0,.string ⟨#[]⟩,.int .i64 0,.slice none 0 0] 24 (0,0)):=by rw [← hW2];exact blk_drewN (blk_new w _) _
 have HS2:=Aside0.mk s2
 have HB2:=Aside0.mk B2
 have Hb2:=Aside0.mk b2
 clear s2 B2 b2 hW2 m0 m2 y1 gf
 go_wp2_with (first | (go_at_call 124;refine (Tryz.strconv_Atoi d kk (by have:=HD4.out;omega) HA.out _).mono ?_;rintro e_ w3 ⟨rfl,t,hw3⟩;have hb3:Below W2.heap.size W2 w3:=(by rw [hw3];exact bytes_below (Below.refl _ _) (Nat.le_refl _) 5 t);have bw3:=HB2.out.trans (hb3.mono (by have:=HS2.out;omega));have Hb3:=Aside0.mk (blk_below Hb2.out hb3);have HI3:=Aside0.mk (HI.out.below bw3);have HBw3:=Aside0.mk bw3;have g2:=cellS67_2 ((bw3.block g HI.out.lt).trans HG.out);have gf:=blk_frozen ((bw3.block g HI.out.lt).trans HG.out) 2;clear hw3 hb3 bw3) | (go_at_call 107;(refine (lics_reader_enter.calls g toks cs ((i:Int) + 1) dp 0 ((i:Int) + 2) (dp + 1) w0 _ (HI3.out.set_2 _) ((HB.out.trans (HBw3.out.mono HB.out.size)).setCell HI.out.ge _) HE.out).mono ?_);rintro e_ w4 ⟨rfl,hi,hb,hk⟩;have b4:=hk.blk (blk_far Hb3.out (p:=⟨g,2,none⟩) (by have:=HI.out.lt;simp only;omega) (.int .i64 ((i:Int) + 1))) (by have:=HI.out.lt;omega) (by simp);have Hb4:=Aside0.mk b4;have HI4:=Aside0.mk hi;have HB4:=Aside0.mk hb;have HK4:=Aside0.mk (((KeepBut.of_below HBw3.out g none).set_ _ _).trans hk (.inl rfl));clear b4 hi hb hk g2 gf))
 have hz4:w.heap.size + 1 ≤ w4.heap.size:=by have q:=blk_lt Hb4.out;omega
 have HN8:=Aside0.mk hz4
 clear hz4
 go_loopw [] (fun wr=>∃ (acc:List S24) (j:Int) (v:Value),OfBad3 toks cs dp kk acc j ∧ (acc.length:Int) ≤ j ∧ IsS67 w0 wr g toks cs j (dp + 1) ∧ Below w0.heap.size w0 wr ∧ KeepBut w wr g none ∧ wr.heap[w4.heap.size]? = some (.cells #[.int .u8 4,.string ⟨#[]⟩,.int .i64 kk,v] 24 (0,0)) ∧ wr.heap[w.heap.size]? = some (.cells #[.int .u8 0,.string ⟨#[]⟩,.int .i64 0,.slice none 0 0] 24 (0,0)) ∧ Kd.R k24 24 wr w.heap.size (fun k=>k ≠ w.heap.size ∧ k ≠ w4.heap.size) v acc) (fun wr=>(8192 - rdAt wr g).toNat)
 case atStart =>
  exact ⟨[],(i:Int) + 2,.slice none 0 0,HAr.out,by simp;omega,HI4.out.alloc _,HB4.out.alloc HB4.out.size _,keep_alloc HK4.out _,blk_new _ _,blk_alloc Hb4.out _,Kd.R_nil _ _ _ _ _⟩
 case round =>
  obtain ⟨acc,j,v,hA,hac,hI,hB,hK,hb8,hb0,hR⟩:=hrel
  obtain ⟨A2,cp2,rfl⟩:=Kd.R_slice hR
  have HIr:=Aside0.mk hI
  have HBr:=Aside0.mk hB
  have HKr:=Aside0.mk hK
  have HR:=Aside0.mk hR
  have Hb8:=Aside0.mk hb8
  have Hb0:=Aside0.mk hb0
  have HAc:=Aside0.mk hac
  have HZw:=Aside0.mk hK.1
  have HN8w:=Aside0.mk (blk_lt hb8)
  cases hA with
  | part hj hp =>
   rename_i jn
   have HP2:=Aside0.mk hp
   have HJ:=Aside0.mk hj
   clear hI hB hK hR hb8 hb0 hp hj hac
   go_wp2_with (fail)
   go_at_call 36
   refine (HP2.out g w0 _ HIr.out HBr.out).mono ?_
   rintro e_ w5 ⟨a,b,c,A,n,cap,er,j2,dp2,rfl,her,hj2,hi,hb,hk⟩
   have hern:(er == 0)=false:=beq_eq_false_iff_ne.mpr (Lim.ne her)
   have HEr:=Aside0.mk her
   have HJ2:=Aside0.mk hj2
   have HI5:=Aside0.mk hi
   have HB5:=Aside0.mk hb
   have HK5:=Aside0.mk (HKr.out.trans hk (.inl rfl))
   have f8:=hk.blk Hb8.out (by have:=HI.out.lt;have:=HN8.out;omega) (by simp)
   have f0:=hk.blk Hb0.out (by have:=HI.out.lt;omega) (by simp)
   have F0:=Aside0.mk f0
   have ga0:=fun o=>blk_cell (blk_alloc f8 o) 0
   have ga1:=fun o=>blk_cell (blk_alloc f8 o) 1
   have ga2:=fun o=>blk_cell (blk_alloc f8 o) 2
   have ga3:=fun o=>blk_cell (blk_alloc f8 o) 3
   have gb0:=fun o=>blk_cell (blk_alloc f0 o) 0
   have gb1:=fun o=>blk_cell (blk_alloc f0 o) 1
   have gb2:=fun o=>blk_cell (blk_alloc f0 o) 2
   have gb3:=fun o=>blk_cell (blk_alloc f0 o) 3
   have gc0:=fun o=>blk_frozen (blk_alloc f0 o) 0
   have gc1:=fun o=>blk_frozen (blk_alloc f0 o) 1
   have gc2:=fun o=>blk_frozen (blk_alloc f0 o) 2
   have gc3:=fun o=>blk_frozen (blk_alloc f0 o) 3
   clear her hj2 hi hb hk f8 f0
   go_wp2_with (fail)
   obtain ⟨o1,o2,o3,o5⟩:=lic_bad (HI5.out.alloc _) (HB5.out.alloc HB5.out.size _) (keep_alloc HK5.out _) (blk_alloc F0.out _) HB.out.size HI.out.lt (.int .u8 4) (.string ⟨#[]⟩) (.int .i64 kk) (.slice A2 acc.length cp2)
   have e0:=blk_cell o5 0
   have e1:=blk_cell o5 1
   have e2:=blk_cell o5 2
   have e3:=blk_cell o5 3
   refine bodyPost_ret (v:=.tuple #[.agg #[.int .u8 4,.string ⟨#[]⟩,.int .i64 kk,.slice A2 acc.length cp2],.int .i64 er]) ?_ rfl ⟨4,⟨#[]⟩,kk,A2,acc.length,cp2,er,j2,dp2,rfl,HEr.out,HJ2.out,o1,o2,o3⟩
   simp [results,Tryz.results104,go_sem,e0,e1,e2,e3]
  | more hj hk hjk hp hs hr =>
   rename_i jn m k
   have HP2:=Aside0.mk hp
   have HS:=Aside0.mk hs
   have HJ:=Aside0.mk hj
   have HKlt:=Aside0.mk hk
   have HJk:=Aside0.mk hjk
   have HRr:=Aside0.mk hr
   have q5:IntKind.i64.wrap ((k:Int) + 1)=(k:Int) + 1:=IntWalk.i64_in _ (by omega)
   clear hI hB hK hR hb8 hb0 hp hs hj hac hk hjk hr
   go_wp2_with (first | (go_at_call 36;(refine (HP2.out g w0 _ HIr.out HBr.out).mono ?_);rintro e_ w5 ⟨v2,rfl,hi,hb,hk,hr⟩;obtain ⟨A3,cp3,rfl⟩:=Kd.R_slice hr;have HI5:=Aside0.mk hi;have HB5:=Aside0.mk hb;have HK5:=Aside0.mk hk;have HR5:=Aside0.mk hr;have f8:=hk.blk Hb8.out (by have:=HI.out.lt;have:=HN8.out;omega) (by simp);have f0:=hk.blk Hb0.out (by have:=HI.out.lt;omega) (by simp);have a3:=fun o=>blk_cell (blk_alloc f8 o) 3;have F8:=Aside0.mk f8;have F0:=Aside0.mk f0;have hR5:=Kd.R_keep (Kd.R_mono (Kd.R_bound HR.out) (fun k hk=>(⟨hk.1,hk.2.1,hk.2.2.1⟩:(k ≠ w.heap.size ∧ k ≠ w4.heap.size) ∧ w.heap.size ≤ k ∧ k < wr.heap.size))) hk (fun k hk=>by have:=HI.out.lt;omega);have HRr5:=Aside0.mk hR5;have hN9:wr.heap.size ≤ w5.heap.size:=hk.1;have HN9:=Aside0.mk hN9;clear hi hb hk hr f8 f0 hR5 hN9) | ((with_reducible refine gate_builtin (b:=.append) (xs:=#[.tmp 61,.tmp 63]) rfl ?_);at_builtin;refine Kd.R_append k24 (w0:=w5.alloc (.cells #[.int .u8 m.f0,.string m.f1,.int .i64 m.f2,.slice A3 m.f3.length cp3] 24)) w.heap.size rfl (.tmp 61) (.tmp 63) 22 24 (.agg #[(.int .u8 0),(.string ⟨#[]⟩),(.int .i64 0),(.slice none 0 0)]) 56 rfl Tryz.underlying22 info24 rfl (by decide) (by omega) (.slice A2 acc.length cp2) acc m [.int .u8 m.f0,.string m.f1,.int .i64 m.f2,.slice A3 m.f3.length cp3] (fun k=>k ≠ w.heap.size ∧ k ≠ w4.heap.size ∧ k ≠ w5.heap.size) (fun k=>wr.heap.size ≤ k ∧ k < w5.heap.size) rfl ?aX ?aP ?aK ?aF ?aO ?aB ?aS ?aL ?_;(case aX=>simp [Act.eval]);(case aP=>exact of_aP HR5.out HZw.out _);(case aK=>exact fun k hk=>⟨⟨by have:=HN8.out;have:=HN8w.out;omega,by have:=HN8w.out;omega,by omega⟩,fun e=>by have:=HRr5.out.1 k e.symm;omega⟩);(case aF=>intro k hk;have hk2:w5.heap.size + 1 ≤ k:=(by simpa using hk);have:=HZw.out;have:=HN9.out;have:=HN8w.out;exact ⟨by omega,by omega,by omega⟩);(case aO=>exact Kd.R_mono (Kd.R_alloc HRr5.out _) (fun k hk=>⟨hk.1.1,hk.1.2,by have:=HN9.out;omega⟩));(case aB=>exact Below.refl _ _);(case aS=>have:=HZw.out;have:=HN9.out;simp;omega);(case aL=>have:=HAc.out;have:=HJ.out;omega);intro v1 w6 ho hb hg hat;obtain ⟨A4,cp4,rfl⟩:=Kd.R_slice ho;have f8:=blk_grown (blk_alloc F8.out (.cells #[.int .u8 m.f0,.string m.f1,.int .i64 m.f2,.slice A3 m.f3.length cp3] 24)) hg (Kd.R_away HRr5.out (fun k hk=>hk.1.2));have f0:=blk_grown (blk_alloc F0.out (.cells #[.int .u8 m.f0,.string m.f1,.int .i64 m.f2,.slice A3 m.f3.length cp3] 24)) hg (Kd.R_away HRr5.out (fun k hk=>hk.1.1));rw [List.length_append,List.length_singleton] at ho;have hI6:=(HI5.out.alloc (.cells #[.int .u8 m.f0,.string m.f1,.int .i64 m.f2,.slice A3 m.f3.length cp3] 24)).grown hg (Kd.R_away HRr5.out (fun k hk=>by have:=HI.out.lt;omega));have hB6:=(HB5.out.alloc HB5.out.size (.cells #[.int .u8 m.f0,.string m.f1,.int .i64 m.f2,.slice A3 m.f3.length cp3] 24)).trans (hb.mono HB.out.size);have hK6:=((keep_alloc (HKr.out.trans HK5.out (.inl rfl)) (.cells #[.int .u8 m.f0,.string m.f1,.int .i64 m.f2,.slice A3 m.f3.length cp3] 24)).trans (KeepBut.of_grown hg g) (Kd.R_base2 HRr5.out));have HI7:=Aside0.mk (hI6.far (p:=⟨w4.heap.size,3,none⟩) (by have:=HI.out.lt;have:=HN8.out;simp only;omega) (.slice A4 (acc.length + 1) cp4));have HB7:=Aside0.mk (hB6.setCell (p:=⟨w4.heap.size,3,none⟩) (by have:=HB.out.size;have:=HN8.out;simp only;omega) (.slice A4 (acc.length + 1) cp4));have HK7:=Aside0.mk (keep_far hK6 (p:=⟨w4.heap.size,3,none⟩) (by have:=HN8.out;simp only;omega) (.slice A4 (acc.length + 1) cp4));have HO7:=Aside0.mk (Kd.R_far ho (p:=⟨w4.heap.size,3,none⟩) (fun k hk=>hk.2.1) (.slice A4 (acc.length + 1) cp4));have G8:=Aside0.mk (blk_put f8 3 (.slice A4 (acc.length + 1) cp4) rfl);have G0:=Aside0.mk (blk_far f0 (p:=⟨w4.heap.size,3,none⟩) (by have:=HN8.out;simp only;omega) (.slice A4 (acc.length + 1) cp4));have c3:=blk_cell f8 3;have d3:=blk_frozen f8 3;clear ho hb hg hat f8 f0 hI6 hB6 hK6) | (go_at_call 80;(refine (lics_reader_sign.calls g toks cs _ (dp + 1) ⟨#[44]⟩ true _ (dp + 1) w0 _ HI7.out HB7.out HS.out).mono ?_);rintro e_ w8 ⟨rfl,hi,hb,hk⟩;have f8:=hk.blk G8.out (by have:=HI.out.lt;have:=HN8.out;omega) (by simp);have f0:=hk.blk G0.out (by have:=HI.out.lt;omega) (by simp);have hr8:=Kd.R_keep (Kd.R_mono (Kd.R_bound HO7.out) (fun k hk=>(⟨⟨hk.1.1,hk.1.2.1⟩,hk.2.1⟩:(k ≠ w.heap.size ∧ k ≠ w4.heap.size) ∧ w.heap.size ≤ k))) hk (fun k hk=>by have:=HI.out.lt;omega);have HI8:=Aside0.mk hi;have HB8:=Aside0.mk hb;have HK8:=Aside0.mk (HK7.out.trans hk (.inl rfl));have HR8:=Aside0.mk (Kd.R_mono hr8 (fun k hk=>hk.1));have g8:=blk_cell f8 3;have J8:=Aside0.mk f8;have J0:=Aside0.mk f0;obtain ⟨A0',c0',A1',c1',hG,-,-,-⟩:=hi;have gg2:=cellS67_2 hG;have ggf:=blk_frozen hG 2;clear f8 f0 hb hk hr8 hG))
   have hI9:=HI8.out.set_2 ((k:Int) + 1)
   refine ⟨⟨acc ++ [m],(k:Int) + 1,.slice A4 (acc.length + 1) cp4,HRr.out,?_,hI9,HB8.out.setCell HI.out.ge _,HK8.out.set_ _ _,blk_far J8.out (by have:=HI.out.lt;have:=HN8.out;simp only;omega) _,blk_far J0.out (by have:=HI.out.lt;simp only;omega) _,?_⟩,?_⟩
   ·have:=HAc.out;have:=HJk.out;simp;omega
   ·exact Kd.R_mono (Kd.R_far (Kd.R_mono (Kd.R_bound HR8.out) (fun k hk=>(⟨hk.1,hk.2.1⟩:(k ≠ w.heap.size ∧ k ≠ w4.heap.size) ∧ w.heap.size ≤ k))) (fun k hk=>by have:=HI.out.lt;simp only;omega) _) (fun k hk=>hk.1)
   ·rw [hI9.at_eq,HIr.out.at_eq]
    have:=HJk.out
    have:=HKlt.out
    omega
set_option maxHeartbeats 8000000 in
set_option maxRecDepth 100000 in
theorem lics_all_of3.calls (toks:List S70) (cs:List S138) (i dp:Int) (hC:∀ (g:Nat) (w0 w:World),IsS67 w0 w g toks cs i dp → Below w0.heap.size w0 w → Calls Tryz.prog 58 #[.pointer (some ⟨g,0,none⟩),.string ⟨#[38,38]⟩,.int .u8 2,.func (.func 81) #[.pointer (some ⟨g,0,none⟩)] #[]] w (LicBad3 g w0 w toks cs)):PartNo3 toks cs 59 i dp:=by
 intro g w0 w hI hB
 have HI:=Aside0.mk hI
 have HB:=Aside0.mk hB
 have HC:=Aside0.mk hC
 clear hI hB hC
 go_enter Tryz.func59,Tryz.ntmps59
 go_wp2_with (fail)
 go_at_call 58
 refine (HC.out g w0 _ (HI.out.alloc _) (HB.out.alloc HB.out.size _)).mono ?_
 rintro e_ w1 ⟨a,b,c,A,n,cap,er,j,dp1,rfl,her,hj,hi,hb,hk⟩
 have HI1:=Aside0.mk hi
 have HB1:=Aside0.mk hb
 have HK1:=Aside0.mk hk
 have HEr:=Aside0.mk her
 have HJ:=Aside0.mk hj
 have hr0:w1.heap[w.heap.size]? = some (.cells #[.int .u8 0,.string ⟨#[]⟩,.int .i64 0,.slice none 0 0] 24 (0,0)):=HK1.out.blk (blk_new w _) (by have:=HI.out.lt;omega) (by simp)
 have HR0:=Aside0.mk hr0
 have d0:=blk_cell hr0 0
 have d1:=blk_cell hr0 1
 have d2:=blk_cell hr0 2
 have d3:=blk_cell hr0 3
 have k0:=blk_frozen hr0 0
 have k1:=blk_frozen hr0 1
 have k2:=blk_frozen hr0 2
 have k3:=blk_frozen hr0 3
 clear her hj hi hb hk hr0
 go_wp2_with (fail)
 have hkw:=(keep_alloc (KeepBut.refl w g none) (.cells #[.int .u8 0,.string ⟨#[]⟩,.int .i64 0,.slice none 0 0] 24)).trans HK1.out (.inl rfl)
 obtain ⟨o1,o2,o3,o5⟩:=lic_bad HI1.out HB1.out hkw HR0.out HB.out.size HI.out.lt (.int .u8 a) (.string b) (.int .i64 c) (.slice A n cap)
 have e0:=blk_cell o5 0
 have e1:=blk_cell o5 1
 have e2:=blk_cell o5 2
 have e3:=blk_cell o5 3
 refine bodyPost_ret (v:=.tuple #[.agg #[.int .u8 a,.string b,.int .i64 c,.slice A n cap],.int .i64 er]) ?_ rfl ⟨a,b,c,A,n,cap,er,j,dp1,rfl,HEr.out,HJ.out,o1,o2,o3⟩
 simp [results,Tryz.results59,go_sem,e0,e1,e2,e3]
set_option maxHeartbeats 8000000 in
set_option maxRecDepth 100000 in
theorem lics_all_no3.calls (toks:List S70) (cs:List S138) (i dp:Int) (hP:PartNo3 toks cs 81 i dp):PartNo3 toks cs 59 i dp:=lics_all_of3.calls toks cs i dp (fun g w0 w hI hB=>lics_chain_81_no3.calls toks cs ⟨#[38,38]⟩ 2 i dp hP g w0 w hI hB)
set_option maxHeartbeats 8000000 in
set_option maxRecDepth 100000 in
theorem lics_all_bad3.calls (toks:List S70) (cs:List S138) (hm:toks.length ≤ 8192) (i dp:Int) (l:S24) (j:Nat) (hP:PartOK toks cs 81 i dp l j) (hC:ChainBad3 toks cs 81 ⟨#[38,38]⟩ dp j):PartNo3 toks cs 59 i dp:=lics_all_of3.calls toks cs i dp (fun g w0 w hI hB=>lics_chain_81_bad3.calls toks cs hm ⟨#[38,38]⟩ 2 i dp l j hP hC g w0 w hI hB)
set_option maxHeartbeats 8000000 in
set_option maxRecDepth 100000 in
theorem lics_some_of3.calls (toks:List S70) (cs:List S138) (i dp:Int) (hC:∀ (g:Nat) (w0 w:World),IsS67 w0 w g toks cs i dp → Below w0.heap.size w0 w → Calls Tryz.prog 58 #[.pointer (some ⟨g,0,none⟩),.string ⟨#[124,124]⟩,.int .u8 3,.func (.func 59) #[.pointer (some ⟨g,0,none⟩)] #[]] w (LicBad3 g w0 w toks cs)):PartNo3 toks cs 36 i dp:=by
 intro g w0 w hI hB
 have HI:=Aside0.mk hI
 have HB:=Aside0.mk hB
 have HC:=Aside0.mk hC
 clear hI hB hC
 go_enter Tryz.func36,Tryz.ntmps36
 go_wp2_with (fail)
 go_at_call 58
 refine (HC.out g w0 _ (HI.out.alloc _) (HB.out.alloc HB.out.size _)).mono ?_
 rintro e_ w1 ⟨a,b,c,A,n,cap,er,j,dp1,rfl,her,hj,hi,hb,hk⟩
 have HI1:=Aside0.mk hi
 have HB1:=Aside0.mk hb
 have HK1:=Aside0.mk hk
 have HEr:=Aside0.mk her
 have HJ:=Aside0.mk hj
 have hr0:w1.heap[w.heap.size]? = some (.cells #[.int .u8 0,.string ⟨#[]⟩,.int .i64 0,.slice none 0 0] 24 (0,0)):=HK1.out.blk (blk_new w _) (by have:=HI.out.lt;omega) (by simp)
 have HR0:=Aside0.mk hr0
 have d0:=blk_cell hr0 0
 have d1:=blk_cell hr0 1
 have d2:=blk_cell hr0 2
 have d3:=blk_cell hr0 3
 have k0:=blk_frozen hr0 0
 have k1:=blk_frozen hr0 1
 have k2:=blk_frozen hr0 2
 have k3:=blk_frozen hr0 3
 clear her hj hi hb hk hr0
 go_wp2_with (fail)
 have hkw:=(keep_alloc (KeepBut.refl w g none) (.cells #[.int .u8 0,.string ⟨#[]⟩,.int .i64 0,.slice none 0 0] 24)).trans HK1.out (.inl rfl)
 obtain ⟨o1,o2,o3,o5⟩:=lic_bad HI1.out HB1.out hkw HR0.out HB.out.size HI.out.lt (.int .u8 a) (.string b) (.int .i64 c) (.slice A n cap)
 have e0:=blk_cell o5 0
 have e1:=blk_cell o5 1
 have e2:=blk_cell o5 2
 have e3:=blk_cell o5 3
 refine bodyPost_ret (v:=.tuple #[.agg #[.int .u8 a,.string b,.int .i64 c,.slice A n cap],.int .i64 er]) ?_ rfl ⟨a,b,c,A,n,cap,er,j,dp1,rfl,HEr.out,HJ.out,o1,o2,o3⟩
 simp [results,Tryz.results36,go_sem,e0,e1,e2,e3]
set_option maxHeartbeats 8000000 in
set_option maxRecDepth 100000 in
theorem lics_some_no3.calls (toks:List S70) (cs:List S138) (i dp:Int) (hP:PartNo3 toks cs 59 i dp):PartNo3 toks cs 36 i dp:=lics_some_of3.calls toks cs i dp (fun g w0 w hI hB=>lics_chain_59_no3.calls toks cs ⟨#[124,124]⟩ 3 i dp hP g w0 w hI hB)
set_option maxHeartbeats 8000000 in
set_option maxRecDepth 100000 in
theorem lics_some_bad3.calls (toks:List S70) (cs:List S138) (hm:toks.length ≤ 8192) (i dp:Int) (l:S24) (j:Nat) (hP:PartOK toks cs 59 i dp l j) (hC:ChainBad3 toks cs 59 ⟨#[124,124]⟩ dp j):PartNo3 toks cs 36 i dp:=lics_some_of3.calls toks cs i dp (fun g w0 w hI hB=>lics_chain_59_bad3.calls toks cs hm ⟨#[124,124]⟩ 3 i dp l j hP hC g w0 w hI hB)
end Go.Proofs.YtjapfefiaijfcaaGreatDoor.Q
namespace Go.Proofs.YtjapfefiaijfcaaGreatDoor.Q
open Go.RowKit Go.Proofs.YtjapfefiaijfcaaGreatDoorW.PrintWords Go.Proofs.YtjapfefiaijfcaaGreatDoorW.PrintLast Go.Proofs.YtjapfefiaijfcaaGreatDoorW.PrintMore
set_option linter.unusedVariables false
def RdOut (g:Nat) (w0 w:World) (toks:List S70) (cs:List S138) (i en dp er pl:Int) (w':World):Prop:=IsS76 w0 w' g toks cs i en dp er pl ∧ Below w0.heap.size w0 w' ∧ KeepBut w w' g none
set_option maxHeartbeats 8000000 in
set_option maxRecDepth 100000 in
theorem ref_fail_no.calls (g:Nat) (toks:List S70) (cs:List S138) (i en dp er pl c:Int) (her:er ≠ 0) (w0 w:World) (hI:IsS76 w0 w g toks cs i en dp er pl) (hB:Below w0.heap.size w0 w) :
  Calls Tryz.prog 43 #[.pointer (some ⟨g,0,none⟩),.int .i64 c] w fun e w'=>e = .returned (.tuple #[]) ∧ RdOut g w0 w toks cs i en dp er pl w':=by
 have HI:=Aside0.mk hI
 have HB:=Aside0.mk hB
 obtain ⟨A0,c0,A1,c1,hG,hge,hS0,hS1⟩:=hI
 have g5:=cellS76_5 hG
 have q1:(er != 0)=true:=bne_iff_ne.mpr her
 have q2:(er == 0)=false:=beq_eq_false_iff_ne.mpr her
 clear hG hge hS0 hS1 hB her
 go_enter Tryz.func43,Tryz.ntmps43
 go_wp2_with (fail)
 refine bodyPost_ret (v:=.tuple #[]) ?_ rfl ⟨rfl,HI.out,HB.out,KeepBut.refl w g none⟩
 simp [results,Tryz.results43,go_sem]
set_option maxHeartbeats 8000000 in
set_option maxRecDepth 100000 in
theorem ref_fail.calls (g:Nat) (toks:List S70) (cs:List S138) (i:Nat) (en dp pl c:Int) (hi:i < toks.length) (hm:toks.length ≤ 8192) (w0 w:World) (hI:IsS76 w0 w g toks cs i en dp 0 pl) (hB:Below w0.heap.size w0 w) :
  Calls Tryz.prog 43 #[.pointer (some ⟨g,0,none⟩),.int .i64 c] w fun e w'=>e = .returned (.tuple #[]) ∧ RdOut g w0 w toks cs i en dp c (rd_T70 toks i).f2 w':=by
 have HI:=Aside0.mk hI
 have HB:=Aside0.mk hB
 obtain ⟨A0,c0,A1,c1,hG,hge,hS0,hS1⟩:=hI
 obtain ⟨ad,e0,x0,x1,x2,x3⟩:=at_T70 hS0 (i:Int) (by omega) (by omega)
 subst e0
 rw [Int.toNat_natCast] at x2
 have g5:=cellS76_5 hG
 have g0:=cellS76_0 hG
 have g2:=cellS76_2 hG
 have g3:=cellS76_3 hG
 have gf5:=blk_frozen hG 5
 have hG1:=blk_set hG 5 (.int .i64 c)
 have gf6:=blk_frozen hG1 6
 have g6:(w.setCell ⟨g,5,none⟩ (.int .i64 c)).cell? ⟨g,6,none⟩=some (.int .i64 pl):=(blk_cell hG1 6).trans rfl
 have hG2:=blk_set hG1 6 (.int .i64 en)
 have hI2:=(HI.out.set_5 c).set_6 en
 have hB2:=(hB.setCell hge (.int .i64 c) (p:=⟨g,5,none⟩)).setCell hge (.int .i64 en) (p:=⟨g,6,none⟩)
 have hK2:=((KeepBut.refl w g none).set_ 5 (.int .i64 c)).set_ 6 (.int .i64 en)
 have p1:(0 ≤ (i:Int))=True:=eq_true (by omega)
 have p2:((i:Int) < (toks.length:Int))=True:=eq_true (by omega)
 have p3:(i < toks.length)=True:=eq_true hi
 have p4:decide ((i:Int) < (toks.length:Int))=true:=decide_eq_true (by omega)
 have HI2:=Aside0.mk hI2
 have HB2:=Aside0.mk hB2
 have HK2:=Aside0.mk hK2
 have HX:=Aside0.mk x2
 have HGE:=Aside0.mk hge
 clear hG hG1 hG2 hI2 hB2 hK2 hge hS0 hS1 hB x0 x1 x2 x3
 go_enter Tryz.func43,Tryz.ntmps43
 go_wp2_with (fail)
 generalize (w.setCell ⟨g,5,none⟩ (.int .i64 c)).setCell ⟨g,6,none⟩ (.int .i64 en)=W at HI2 HB2 HK2
 have HI3:=HI2.out
 obtain ⟨A0',c0',A1',c1',hG,hge,hS0,hS1⟩:=HI3
 obtain ⟨ad',e0,x0,x1,x2,x3⟩:=at_T70 hS0 (i:Int) (by omega) (by omega)
 subst e0
 rw [Int.toNat_natCast] at x2
 have y2:=pw_cell_below HB2.out x2
 have k0:=cellS76_0 hG
 have k2:=cellS76_2 hG
 have k6:=cellS76_6 hG
 have kf6:=blk_frozen hG 6
 clear hG hge hS0 hS1 x0 x1 x2 x3
 go_quiet (fail)
 generalize hW2:W.drewN _=W2
 replace HI2:=Aside0.mk (show IsS76 w0 W2 g toks cs i en dp c en by rw [← hW2];exact HI2.out)
 replace HB2:=Aside0.mk (show Below w0.heap.size w0 W2 by rw [← hW2];exact pw_below_drewN HB2.out _)
 replace HK2:=Aside0.mk (show KeepBut w W2 g none by rw [← hW2];exact HK2.out)
 replace y2:W2.cell? ⟨(ad'.add (i * 4)).block,(ad'.add (i * 4)).off + 2,none⟩=some (.int .i64 (rd_T70 toks i).f2):=by rw [← hW2];exact y2
 replace k0:W2.cell? ⟨g,0,none⟩=some (.slice (some ad') toks.length c0'):=by rw [← hW2];exact k0
 replace k2:W2.cell? ⟨g,2,none⟩=some (.int .i64 i):=by rw [← hW2];exact k2
 replace k6:W2.cell? ⟨g,6,none⟩=some (.int .i64 en):=by rw [← hW2];exact k6
 replace kf6:W2.frozen? ⟨g,6,none⟩=false:=by rw [← hW2];exact kf6
 clear hW2
 go_wp2_with (fail)
 go_region
 all_goals go_wp2_with (fail)
 refine bodyPost_end (v:=.tuple #[]) ?_ rfl ⟨rfl,?_,?_,?_⟩
 ·simp [results,Tryz.results43,go_sem]
 ·exact (HI2.out.set_6 _).drew
 ·exact below_drew1 (HB2.out.setCell HGE.out _)
 ·exact keep_drew (HK2.out.set_ 6 _)
set_option maxHeartbeats 8000000 in
set_option maxRecDepth 100000 in
theorem ref_open.calls (g:Nat) (toks:List S70) (cs:List S138) (i:Nat) (en dp pl:Int) (hi:i < toks.length) (hm:toks.length ≤ 8192) (h0:0 ≤ dp) (h6:dp < 64) (hS:vouchref16_reader_is.f toks cs i en dp 0 pl ⟨#[40]⟩=some (true,(i:Int),en,dp,0,pl)) (w0 w:World) (hI:IsS76 w0 w g toks cs i en dp 0 pl) (hB:Below w0.heap.size w0 w) :
  Calls Tryz.prog 113 #[.pointer (some ⟨g,0,none⟩)] w fun e w'=>e = .returned (.bool true) ∧ RdOut g w0 w toks cs ((i:Int) + 1) en (dp + 1) 0 pl w':=by
 have HI:=Aside0.mk hI
 have HB:=Aside0.mk hB
 have HS:=Aside0.mk hS
 have q1:IntKind.i64.wrap ((i:Int) + 1)=(i:Int) + 1:=IntWalk.i64_in _ (by omega)
 have q2:IntKind.i64.wrap (dp + 1)=dp + 1:=IntWalk.i64_in _ (by omega)
 have q3:(dp == 64)=false:=beq_eq_false_iff_ne.mpr (by omega)
 clear hI hB hS hi h0 h6
 go_enter Tryz.func113,Tryz.ntmps113
 go_wp2_with (first | (go_at_call 63;(refine (vouchref16_reader_is.calls g toks cs i en dp 0 pl ⟨#[40]⟩ true i en dp 0 pl w0 _ HI.out HB.out HS.out).mono ?_);rintro e_ w1 ⟨rfl,hi,hb,hk⟩;have HI1:=Aside0.mk hi;have HB1:=Aside0.mk hb;have HK1:=Aside0.mk hk;obtain ⟨A0,c0,A1,c1,hG,-,-,-⟩:=hi;have k4:=cellS76_4 hG;have kf4:=blk_frozen hG 4;have hG1:=blk_set hG 4 (.int .i64 (dp + 1));have k2:(w1.setCell ⟨g,4,none⟩ (.int .i64 (dp + 1))).cell? ⟨g,2,none⟩=some (.int .i64 i):=(blk_cell hG1 2).trans rfl;have kf2:=blk_frozen hG1 2;clear hG hG1 hb hk))
 refine bodyPost_ret (v:=.bool true) ?_ rfl ⟨rfl,(HI1.out.set_4 _).set_2 _,(HB1.out.setCell HI1.out.ge _).setCell HI1.out.ge _,(HK1.out.set_ 4 _).set_ 2 _⟩
 simp [results,Tryz.results113,go_sem]
set_option maxHeartbeats 8000000 in
set_option maxRecDepth 100000 in
theorem ref_open_lim.calls (g:Nat) (toks:List S70) (cs:List S138) (i:Nat) (en pl:Int) (hi:i < toks.length) (hm:toks.length ≤ 8192) (hS:vouchref16_reader_is.f toks cs i en 64 0 pl ⟨#[40]⟩=some (true,(i:Int),en,64,0,pl)) (w0 w:World) (hI:IsS76 w0 w g toks cs i en 64 0 pl) (hB:Below w0.heap.size w0 w) :
  Calls Tryz.prog 113 #[.pointer (some ⟨g,0,none⟩)] w fun e w'=>e = .returned (.bool false) ∧ RdOut g w0 w toks cs i en 64 3 (rd_T70 toks i).f2 w':=by
 have HI:=Aside0.mk hI
 have HB:=Aside0.mk hB
 have HS:=Aside0.mk hS
 have HL:=Aside0.mk hi
 have HM:=Aside0.mk hm
 clear hI hB hS hi hm
 go_enter Tryz.func113,Tryz.ntmps113
 go_wp2_with (first | (go_at_call 63;(refine (vouchref16_reader_is.calls g toks cs i en 64 0 pl ⟨#[40]⟩ true i en 64 0 pl w0 _ HI.out HB.out HS.out).mono ?_);rintro e_ w1 ⟨rfl,hi,hb,hk⟩;have HI1:=Aside0.mk hi;have HB1:=Aside0.mk hb;have HK1:=Aside0.mk hk;obtain ⟨A0,c0,A1,c1,hG,-,-,-⟩:=hi;have k4:=cellS76_4 hG;clear hG hb hk) | (go_at_call 43;(refine (ref_fail.calls g toks cs i en 64 pl 3 HL.out HM.out w0 _ HI1.out HB1.out).mono ?_);rintro e_ w2 ⟨rfl,hi,hb,hk⟩;have HI2:=Aside0.mk hi;have HB2:=Aside0.mk hb;have HK2:=Aside0.mk (HK1.out.trans hk (.inl rfl));clear hi hb hk))
 refine bodyPost_ret (v:=.bool false) ?_ rfl ⟨rfl,HI2.out,HB2.out,HK2.out⟩
 simp [results,Tryz.results113,go_sem]
set_option maxHeartbeats 8000000 in
set_option maxRecDepth 100000 in
theorem ref_shut.calls (g:Nat) (toks:List S70) (cs:List S138) (i:Nat) (en dp pl:Int) (hi:i < toks.length) (hm:toks.length ≤ 8192) (h0:1 ≤ dp) (h6:dp ≤ 64) (hS:vouchref16_reader_is.f toks cs i en dp 0 pl ⟨#[41]⟩=some (true,(i:Int),en,dp,0,pl)) (w0 w:World) (hI:IsS76 w0 w g toks cs i en dp 0 pl) (hB:Below w0.heap.size w0 w) :
  Calls Tryz.prog 114 #[.pointer (some ⟨g,0,none⟩)] w fun e w'=>e = .returned (.tuple #[]) ∧ RdOut g w0 w toks cs ((i:Int) + 1) en (dp - 1) 0 pl w':=by
 have HI:=Aside0.mk hI
 have HB:=Aside0.mk hB
 have HS:=Aside0.mk hS
 have q1:IntKind.i64.wrap ((i:Int) + 1)=(i:Int) + 1:=IntWalk.i64_in _ (by omega)
 have q2:IntKind.i64.wrap (dp - 1)=dp - 1:=IntWalk.i64_in _ (by omega)
 clear hI hB hS hi h0 h6
 go_enter Tryz.func114,Tryz.ntmps114
 go_wp2_with (first | (go_at_call 63;(refine (vouchref16_reader_is.calls g toks cs i en dp 0 pl ⟨#[41]⟩ true i en dp 0 pl w0 _ HI.out HB.out HS.out).mono ?_);rintro e_ w1 ⟨rfl,hi,hb,hk⟩;have HI1:=Aside0.mk hi;have HB1:=Aside0.mk hb;have HK1:=Aside0.mk hk;obtain ⟨A0,c0,A1,c1,hG,-,-,-⟩:=hi;have k4:=cellS76_4 hG;have kf4:=blk_frozen hG 4;have hG1:=blk_set hG 4 (.int .i64 (dp - 1));have k2:(w1.setCell ⟨g,4,none⟩ (.int .i64 (dp - 1))).cell? ⟨g,2,none⟩=some (.int .i64 i):=(blk_cell hG1 2).trans rfl;have kf2:=blk_frozen hG1 2;clear hG hG1 hb hk))
 refine bodyPost_end (v:=.tuple #[]) ?_ rfl ⟨rfl,(HI1.out.set_4 _).set_2 _,(HB1.out.setCell HI1.out.ge _).setCell HI1.out.ge _,(HK1.out.set_ 4 _).set_ 2 _⟩
 simp [results,Tryz.results114,go_sem]
theorem is_wrong (toks:List S70) (cs:List S138) (i en dp er pl:Int) (t:ByteArray) (h:er ≠ 0):vouchref16_reader_is.f toks cs i en dp er pl t=some (false,i,en,dp,er,pl):=by
 unfold vouchref16_reader_is.f
 rw [if_neg h]
set_option maxHeartbeats 8000000 in
set_option maxRecDepth 100000 in
theorem ref_shut_no.calls (g:Nat) (toks:List S70) (cs:List S138) (i en dp er pl:Int) (her:er ≠ 0) (w0 w:World) (hI:IsS76 w0 w g toks cs i en dp er pl) (hB:Below w0.heap.size w0 w) :
  Calls Tryz.prog 114 #[.pointer (some ⟨g,0,none⟩)] w fun e w'=>e = .returned (.tuple #[]) ∧ RdOut g w0 w toks cs i en dp er pl w':=by
 have HI:=Aside0.mk hI
 have HB:=Aside0.mk hB
 have HE:=Aside0.mk her
 clear hI hB her
 go_enter Tryz.func114,Tryz.ntmps114
 go_wp2_with (first | (go_at_call 63;(refine (vouchref16_reader_is.calls g toks cs i en dp er pl ⟨#[41]⟩ false i en dp er pl w0 _ HI.out HB.out (is_wrong _ _ _ _ _ _ _ _ HE.out)).mono ?_);rintro e_ w1 ⟨rfl,hi,hb,hk⟩;have HI1:=Aside0.mk hi;have HB1:=Aside0.mk hb;have HK1:=Aside0.mk hk;clear hi hb hk) | (go_at_call 43;(refine (ref_fail_no.calls g toks cs i en dp er pl 150 HE.out w0 _ HI1.out HB1.out).mono ?_);rintro e_ w2 ⟨rfl,hi,hb,hk⟩;have HI2:=Aside0.mk hi;have HB2:=Aside0.mk hb;have HK2:=Aside0.mk (HK1.out.trans hk (.inl rfl));clear hi hb hk))
 refine bodyPost_ret (v:=.tuple #[]) ?_ rfl ⟨rfl,HI2.out,HB2.out,HK2.out⟩
 simp [results,Tryz.results114,go_sem]
end Go.Proofs.YtjapfefiaijfcaaGreatDoor.Q
namespace Go.Proofs.YtjapfefiaijfcaaGreatDoor.Q
open Go.RowKit Go.Proofs.YtjapfefiaijfcaaGreatDoorW.PrintWords Go.Proofs.YtjapfefiaijfcaaGreatDoorW.PrintLast Go.Proofs.YtjapfefiaijfcaaGreatDoorW.PrintMore
set_option linter.unusedVariables false
theorem mark_at {w:World} {ad:Addr} {xs:List S24} (h:(optk km).C w (some ad) (xs.length + 1) (xs.map some ++ [none])):w.cell? (ad.add (xs.length * 4))=some (.int .u8 77):=by
 obtain ⟨h1,h2,h3⟩:=h
 obtain ⟨ad',e,hc⟩:=h3 (by omega)
 cases e
 obtain ⟨c,c1,c2,c3⟩:=hc xs.length none (by simp)
 obtain ⟨rfl,-⟩:=c2
 exact c3 0 _ rfl
theorem km_at {w:World} {ad:Addr} {xs:List S24} (h:(optk km).C w (some ad) (xs.length + 1) (xs.map some ++ [none])) (k:Nat) (hk:k < xs.length):∃ ad' c',w.cell? (ad.add (k * 4))=some (.int .u8 xs[k].f0) ∧ w.cell? ⟨(ad.add (k * 4)).block,(ad.add (k * 4)).off + 1,none⟩=some (.string xs[k].f1) ∧ w.cell? ⟨(ad.add (k * 4)).block,(ad.add (k * 4)).off + 2,none⟩=some (.int .i64 xs[k].f2) ∧ w.cell? ⟨(ad.add (k * 4)).block,(ad.add (k * 4)).off + 3,none⟩=some (.slice (some ad') xs[k].f3.length c') ∧ xs[k].f3.length + 1 ≤ c' ∧ (optk km).C w (some ad') (xs[k].f3.length + 1) (xs[k].f3.map some ++ [none]):=by
 obtain ⟨h1,h2,h3⟩:=h
 obtain ⟨ad0,e,hc0⟩:=h3 (by omega)
 cases e
 obtain ⟨c,c1,c2,c3⟩:=hc0 k (some xs[k]) (by rw [List.getElem?_append_left (by simpa using hk),List.getElem?_map,List.getElem?_eq_getElem hk];rfl)
 obtain ⟨ad',c',rfl,l,g⟩:=km_open (c2:km.K w xs[k] c)
 have hc:∀ j u,[Value.int .u8 xs[k].f0,.string xs[k].f1,.int .i64 xs[k].f2,.slice (some ad') xs[k].f3.length c'][j]? = some u → w.cell? (ad.add (k * 4 + j))=some u:=c3
 exact ⟨ad',c',hc 0 _ rfl,by rw [← add_field _ _ 1 (by omega)];exact hc 1 _ rfl,by rw [← add_field _ _ 2 (by omega)];exact hc 2 _ rfl,by rw [← add_field _ _ 3 (by omega)];exact hc 3 _ rfl,l,g⟩
set_option maxHeartbeats 8000000 in
set_option maxRecDepth 100000 in
theorem vouchkit_KeptLic.calls (N:Nat):∀ (x:S24) (ad:Addr) (c:Nat) (A:Option Addr) (c2:Nat) (w:World),szT x < N → N ≤ 10001 → x.f3.length + 1 ≤ c → (optk km).C w (some ad) (x.f3.length + 1) (x.f3.map some ++ [none]) → x.f3.length ≤ c2 → Kd.C k24 w A x.f3.length x.f3 →
  Calls Tryz.prog 11 #[.agg #[.int .u8 x.f0,.string x.f1,.int .i64 x.f2,.slice (some ad) x.f3.length c],.agg #[.int .u8 x.f0,.string x.f1,.int .i64 x.f2,.slice A x.f3.length c2]] w fun e w'=>e = .returned (.bool true) ∧ Below w.heap.size w w':=by
 induction N with
 | zero=>exact fun x ad c A c2 w h=>absurd h (Nat.not_lt_zero _)
 | succ N ih =>
  intro x ad c A c2 w hN hN2 hc hM hc2 hC
  have hlen:=szT_len x
  have hmk:=mark_at hM
  have hl3:x.f3.length ≤ 10001:=by omega
  have q4:IntKind.i64.wrap ((x.f3.length:Int) + 1)=(x.f3.length:Int) + 1:=IntWalk.i64_in _ (by omega)
  have hb2:∀ o o':Obj,Below w.heap.size w ((w.alloc o).alloc o'):=fun o o'=>((Below.refl _ _).alloc (Nat.le_refl _) o).alloc (by simp) o'
  have m0:∀ o o':Obj,((w.alloc o).alloc o').cell? (ad.add (x.f3.length * 4))=some (.int .u8 77):=fun o o'=>pw_cell_below (hb2 o o') hmk
  have HM:=Aside0.mk hM
  have HC:=Aside0.mk hC
  have IH:=Aside0.mk ih
  have HN:=Aside0.mk hN
  have HB2:=Aside0.mk hb2
  have p1:((x.f3.length:Int) + 1 ≤ (c:Int))=True:=eq_true (by omega)
  have p2:(x.f3.length + 1 ≤ c)=True:=eq_true hc
  have p3:(0 ≤ (x.f3.length:Int) + 1)=True:=eq_true (by omega)
  have HCc:=Aside0.mk hc
  have HC2:=Aside0.mk hc2
  clear ih hM hC hN hb2 hmk hlen hc hc2
  go_enter Tryz.func11,Tryz.ntmps11
  go_wp2
  go_loopw [6] (fun i wr=>∃ k:Nat,i = .int .i64 k ∧ k ≤ x.f3.length ∧ Below w.heap.size w wr ∧ wr.heap[w.heap.size]? = some (.cells #[.int .u8 x.f0,.string x.f1,.int .i64 x.f2,.slice (some ad) x.f3.length c] 24 (0,0)) ∧ wr.heap[w.heap.size + 1]? = some (.cells #[.int .u8 x.f0,.string x.f1,.int .i64 x.f2,.slice A x.f3.length c2] 24 (0,0))) (fun i _=>x.f3.length - (intOf i).toNat)
  case atStart=>exact ⟨0,rfl,Nat.zero_le _,HB2.out _ _,blk_alloc (blk_new w _) _,blk_new' _ (by simp)⟩
  case round =>
   obtain ⟨k,rfl,hk,hbel,hba,hbb⟩:=hrel
   have HBl:=Aside0.mk hbel
   have HBa:=Aside0.mk hba
   have HBb:=Aside0.mk hbb
   have s3:=blk_cell hba 3
   have t3:=blk_cell hbb 3
   clear m0 p1 p2 p3
   by_cases hlt:k < x.f3.length
   ·have d1:decide ((k:Int) < (x.f3.length:Int))=true:=decide_eq_true (by omega)
    have d2:(k < x.f3.length)=True:=eq_true hlt
    have d3:((k:Int) < (x.f3.length:Int))=True:=eq_true (by omega)
    have d4:(0 ≤ (k:Int))=True:=eq_true (by omega)
    have q5:IntKind.i64.wrap ((k:Int) + 1)=(k:Int) + 1:=IntWalk.i64_in _ (by omega)
    obtain ⟨ad',c',x0,x1,x2,x3,x4,x5⟩:=km_at HM.out k hlt
    obtain ⟨ad2,A3,c3',e0,k0,k1,k2,k3,k4,k5⟩:=at_T24 HC.out (k:Int) (by omega) (by omega)
    subst e0
    rw [Int.toNat_natCast] at k0 k1 k2 k3
    rw [rd_nat hlt] at k0 k1 k2 k3 k4 k5
    have hsz:=szT_mem (List.getElem_mem hlt)
    obtain ⟨y,hy⟩:∃ y,y=x.f3[k]:=⟨_,rfl⟩
    rw [← hy] at k0 k1 k2 k3 k4 k5 hsz x0 x1 x2 x3 x4 x5
    replace x0:=pw_cell_below hbel x0
    replace x1:=pw_cell_below hbel x1
    replace x2:=pw_cell_below hbel x2
    replace x3:=pw_cell_below hbel x3
    replace k0:=pw_cell_below hbel k0
    replace k1:=pw_cell_below hbel k1
    replace k2:=pw_cell_below hbel k2
    replace k3:=pw_cell_below hbel k3
    have hcall:∀ W,Below w.heap.size w W → Calls Tryz.prog 11 #[.agg #[.int .u8 y.f0,.string y.f1,.int .i64 y.f2,.slice (some ad') y.f3.length c'],.agg #[.int .u8 y.f0,.string y.f1,.int .i64 y.f2,.slice A3 y.f3.length c3']] W fun e w'=>e = .returned (.bool true) ∧ Below W.heap.size W w':=fun W hW=>IH.out y ad' c' A3 c3' W (by have:=HN.out;omega) (by omega) x4 (Kd.C_below x5 hW) k4 (Kd.C_below k5 hW)
    have HCall:=Aside0.mk hcall
    clear hcall x4 x5 k4 k5 hsz hy hbel hba hbb
    go_wp2
    go_region_with (first | (go_at_call 11;(refine (HCall.out _ (below_drew1 HBl.out)).mono ?_);rintro e_ w2 ⟨rfl,hb2⟩;have HB3:=Aside0.mk hb2;clear hb2))
    all_goals go_wp2_with (fail)
    all_goals (refine ⟨⟨k + 1,by go_num,by omega,(below_drew1 HBl.out).trans (HB3.out.mono (below_drew1 HBl.out).size),blk_below (blk_drew HBa.out) HB3.out,blk_below (blk_drew HBb.out) HB3.out⟩,?_⟩;simp [intOf];omega)
   ·have d1:decide ((k:Int) < (x.f3.length:Int))=false:=decide_eq_false (by omega)
    have d2:(k < x.f3.length)=False:=eq_false hlt
    clear hbel hba hbb
    go_wp2
    go_ret
    exact ⟨rfl,HBl.out⟩
end Go.Proofs.YtjapfefiaijfcaaGreatDoor.Q
