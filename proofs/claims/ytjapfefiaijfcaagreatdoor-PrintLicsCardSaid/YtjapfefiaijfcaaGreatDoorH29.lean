/- The parser: every part goes through, or it does not. Parse, of any text: what it answers. -/
import Derived.BigRegion
import Derived.Test.YtjapfefiaijfcaaGreatDoorH5
import Derived.Test.YtjapfefiaijfcaaGreatDoorH10
import Derived.Test.YtjapfefiaijfcaaGreatDoorH23
import Derived.Test.YtjapfefiaijfcaaGreatDoorH24
namespace Go.Proofs.YtjapfefiaijfcaaGreatDoor.Q
open Go.RowKit Go.Proofs.YtjapfefiaijfcaaGreatDoorW.PrintWords Go.Proofs.YtjapfefiaijfcaaGreatDoorW.PrintLast Go.Proofs.YtjapfefiaijfcaaGreatDoorW.PrintMore
set_option linter.unusedVariables false
theorem leaves_leaf (s:ByteArray):leaves ⟨1,s,0,[]⟩=[s]:=by rw [leaves_eq];simp [headL]
end Go.Proofs.YtjapfefiaijfcaaGreatDoor.Q
namespace Go.Proofs.YtjapfefiaijfcaaGreatDoor.Q
open Go.RowKit Go.Proofs.YtjapfefiaijfcaaGreatDoorW.PrintWords Go.Proofs.YtjapfefiaijfcaaGreatDoorW.PrintLast Go.Proofs.YtjapfefiaijfcaaGreatDoorW.PrintMore
set_option linter.unusedVariables false
def ParsePost (o:List S24 × Int × Int) (w:World) (e:Ending) (w':World):Prop :=
 ∃ v,e = .returned (.tuple #[v,.int .i64 o.2.1,.int .i64 o.2.2]) ∧ Kd.R k24 24 w' w.heap.size (fun _=>True) v o.1 ∧ Below w.heap.size w w'
set_option maxHeartbeats 8000000 in
set_option maxRecDepth 100000 in
theorem lics_Parse_err.calls (s:ByteArray) (cs:List S138) (p er:Int) (hne:er ≠ 0) (hT:∀ w,Calls Tryz.prog 35 #[.string s] w (TokPost (.inr (p,er)) w)) (Ac:Option Addr) (c:Nat) (w:World) :
  Calls Tryz.prog 19 #[.string s,.slice Ac cs.length c] w (ParsePost ([],p,er) w):=by
 have HT:=Aside0.mk hT
 have hern:(er == 0)=false:=beq_eq_false_iff_ne.mpr hne
 have hern2:(er != 0)=true:=by simp [bne,hern]
 clear hT hne
 go_enter Tryz.func19,Tryz.ntmps19
 go_wp2_with (fail)
 go_at_call 35
 refine (HT.out _).mono ?_
 rintro e_ w1 ⟨rfl,hb⟩
 have HB1:=Aside0.mk hb
 clear hb
 go_wp2_with (fail)
 refine bodyPost_ret (v:=.tuple #[.slice none 0 0,.int .i64 p,.int .i64 er]) ?_ rfl ⟨_,rfl,Kd.R_nil _ _ _ _ _,HB1.out⟩
 simp [results,Tryz.results19,go_sem]
set_option maxHeartbeats 8000000 in
set_option maxRecDepth 100000 in
theorem lics_Parse_ok.calls (s:ByteArray) (cs:List S138) (xs:List S70) (hne:0 < xs.length) (l:S24) (dp:Int) (hT:∀ w,Calls Tryz.prog 35 #[.string s] w (TokPost (.inl xs) w)) (hP:PartOK xs cs 36 0 0 l (xs.length:Nat)) (Ac:Option Addr) (c:Nat) (w:World) (hC:Kd.C k138 w Ac cs.length cs) :
  Calls Tryz.prog 19 #[.string s,.slice Ac cs.length c] w (ParsePost ([l],0,0) w):=by
 have HT:=Aside0.mk hT
 have HP:=Aside0.mk hP
 have HC:=Aside0.mk hC
 have z0:((xs.length:Int) == 0)=false:=beq_eq_false_iff_ne.mpr (by omega)
 have z1:(xs.length == 0)=false:=beq_eq_false_iff_ne.mpr (by omega)
 have z2:decide ((xs.length:Int) < (xs.length:Int))=false:=decide_eq_false (by omega)
 clear hT hP hC hne
 go_enter Tryz.func19,Tryz.ntmps19
 go_wp2_with (fail)
 go_at_call 35
 refine (HT.out _).mono ?_
 rintro e_ w1 ⟨v0,rfl,hr,hb⟩
 obtain ⟨A,cp,rfl,hc,hC1⟩:=Kd.R_reads hr
 have HB1:=Aside0.mk hb
 have HC1:=Aside0.mk hC1
 have HI1:=Aside0.mk (IsS67.new w1 w1 A cp Ac c xs cs 0 0 (Below.refl _ _) hC1 (Kd.C_below HC.out hb))
 have HBn:=Aside0.mk (below_alloc (Below.refl w1.heap.size w1) (.cells #[.slice A xs.length cp,.slice Ac cs.length c,.int .i64 0,.int .i64 0] 67))
 clear hb hr hc hC1
 go_wp2_with (fail)
 go_at_call 36
 refine (HP.out w1.heap.size w1 _ HI1.out HBn.out).mono ?_
 rintro e_ w3 ⟨v1,rfl,hi,hb,hk,hr⟩
 obtain ⟨A3,cp3,rfl⟩:=Kd.R_slice hr
 have HI3:=Aside0.mk hi
 have HB3:=Aside0.mk hb
 have HR3:=Aside0.mk hr
 obtain ⟨A0',c0',A1',c1',hG,-,-,-⟩:=hi
 have gg2:=fun o=>cellS67_2 (blk_alloc hG o)
 clear hb hk hr hG
 go_wp2_with (fail)
 have z1:w.heap.size ≤ w1.heap.size:=HB1.out.size
 have z3:w1.heap.size ≤ w3.heap.size:=HB3.out.size
 have hR:=one_row (W:=w3.alloc (.cells #[.int .u8 l.f0,.string l.f1,.int .i64 l.f2,.slice A3 l.f3.length cp3] 24)) (base:=w.heap.size) (ok:=fun _=>True) (l:=l) (Kd.R_alloc (Kd.R_lower HR3.out (by simp;omega)) _) (by simp;omega) trivial
 rw [show (w3.alloc (.cells #[.int .u8 l.f0,.string l.f1,.int .i64 l.f2,.slice A3 l.f3.length cp3] 24)).heap.size=w3.heap.size + 1 from by simp] at hR
 refine bodyPost_ret (v:=.tuple #[.slice (some ⟨w3.heap.size + 1,0,none⟩) 1 1,.int .i64 0,.int .i64 0]) ?_ rfl ⟨_,rfl,hR,?_⟩
 ·simp [results,Tryz.results19,go_sem]
 ·exact ((HB1.out.trans (HB3.out.mono z1)).alloc (by omega) _).alloc (by simp;omega) _
end Go.Proofs.YtjapfefiaijfcaaGreatDoor.Q
