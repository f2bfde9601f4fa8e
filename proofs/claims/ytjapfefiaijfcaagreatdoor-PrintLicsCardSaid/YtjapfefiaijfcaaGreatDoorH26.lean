/- The contract of the reference's Check, at every tree of at most 10000 parts. The contract of Check, at every tree of at most 10000 parts. -/
import Derived.Deep.CutRange
import Derived.Deep.CutBlock
import Derived.Test.YtjapfefiaijfcaaGreatDoorH5
import Derived.Test.YtjapfefiaijfcaaGreatDoorH23
namespace Go.Proofs.YtjapfefiaijfcaaGreatDoor.Q
open Go.RowKit Go.Proofs.YtjapfefiaijfcaaGreatDoorW.PrintWords Go.Proofs.YtjapfefiaijfcaaGreatDoorW.PrintLast Go.Proofs.YtjapfefiaijfcaaGreatDoorW.PrintMore
set_option linter.unusedVariables false
set_option maxHeartbeats 8000000 in
set_option maxRecDepth 100000 in
theorem vouchref16_Check.calls (N:Nat):∀ (x:S24) (A:Option Addr) (c:Nat) (w:World),szT x < N → N ≤ 10001 → x.f3.length ≤ c → Kd.C k24 w A x.f3.length x.f3 →
  Calls Tryz.prog 18 #[.agg #[.int .u8 x.f0,.string x.f1,.int .i64 x.f2,.slice A x.f3.length c]] w fun e w'=>e = .returned (.int .i64 (errT x)) ∧ Below w.heap.size w w':=by
 induction N with
 | zero=>exact fun x A c w h=>absurd h (Nat.not_lt_zero _)
 | succ N ih =>
  intro x A c w hN hN2 hc hC
  have hlen:=szT_len x
  have HC:=Aside0.mk hC
  have IH:=Aside0.mk ih
  have hb:∀ o:Obj,Below w.heap.size w (w.alloc o):=fun o=>(Below.refl _ _).alloc (Nat.le_refl _) o
  have HB:=Aside0.mk hb
  have HN:=Aside0.mk hN
  clear ih hC hb hN
  go_enter Tryz.func18,Tryz.ntmps18
  go_upto_block 0 with (fail)
  go_cut [3] (fun s wc=>s = .bool (headT x.f0 x.f1 x.f2 x.f3.length) ∧ wc=w.alloc (.cells #[.int .u8 x.f0,.string x.f1,.int .i64 x.f2,.slice A x.f3.length c] 24))
  case first =>
   clear HC IH HB hc hlen
   by_cases h1:x.f0=1
   ·have e1:(x.f0 == 1)=true:=by simp [h1]
    have e2:(x.f0 == 2)=false:=by simp [h1]
    have e3:(x.f0 == 3)=false:=by simp [h1]
    have e4:(x.f0 == 4)=false:=by simp [h1]
    by_cases z0:x.f2=0
    ·have z1:(x.f2 == 0)=true:=by simp [z0]
     by_cases n0:(x.f3.length:Int)=0
     ·have n1:((x.f3.length:Int) == 0)=true:=beq_iff_eq.mpr n0
      have n2:(x.f3.length == 0)=true:=beq_iff_eq.mpr (by omega)
      have E:headT x.f0 x.f1 x.f2 x.f3.length=true:=by generalize x.f3.length=n at *;simp [headT,h1,z0,n0]
      have HE:=Aside0.mk E
      clear E h1 z0 n0
      go_wp2
      go_meet
      case rel=>exact ⟨by rw [HE.out],rfl⟩
     ·have n1:((x.f3.length:Int) == 0)=false:=beq_eq_false_iff_ne.mpr n0
      have n2:(x.f3.length == 0)=false:=beq_eq_false_iff_ne.mpr (by omega)
      have E:headT x.f0 x.f1 x.f2 x.f3.length=false:=by generalize x.f3.length=n at *;simp [headT,h1,z0];omega
      have HE:=Aside0.mk E
      clear E h1 z0 n0
      go_wp2
      go_meet
      case rel=>exact ⟨by rw [HE.out],rfl⟩
    ·have z1:(x.f2 == 0)=false:=by simp [z0]
     have E:headT x.f0 x.f1 x.f2 x.f3.length=false:=by generalize x.f3.length=n at *;simp [headT,h1,z0]
     have HE:=Aside0.mk E
     clear E h1 z0
     go_wp2
     go_meet
     case rel=>exact ⟨by rw [HE.out],rfl⟩
   by_cases h2:x.f0=2
   ·have e1:(x.f0 == 1)=false:=by simp [h2]
    have e2:(x.f0 == 2)=true:=by simp [h2]
    have e3:(x.f0 == 3)=false:=by simp [h2]
    have e4:(x.f0 == 4)=false:=by simp [h2]
    by_cases t0:x.f1.toList=[]
    ·have t1:(x.f1.toList=[])=True:=eq_true t0
     have t2:(x.f1.toList == [])=true:=by simp [t0]
     by_cases z0:x.f2=0
     ·have z1:(x.f2 == 0)=true:=by simp [z0]
      by_cases n0:(x.f3.length:Int)=2
      ·have n1:((x.f3.length:Int) == 2)=true:=beq_iff_eq.mpr n0
       have n2:(x.f3.length == 2)=true:=beq_iff_eq.mpr (by omega)
       have E:headT x.f0 x.f1 x.f2 x.f3.length=true:=by generalize x.f3.length=n at *;simp [headT,h2,z0,n0,t0]
       have HE:=Aside0.mk E
       clear E h1 h2 t0 z0 n0
       go_wp2
       go_meet
       case rel=>exact ⟨by rw [HE.out],rfl⟩
      ·have n1:((x.f3.length:Int) == 2)=false:=beq_eq_false_iff_ne.mpr n0
       have n2:(x.f3.length == 2)=false:=beq_eq_false_iff_ne.mpr (by omega)
       have E:headT x.f0 x.f1 x.f2 x.f3.length=false:=by generalize x.f3.length=n at *;simp [headT,h2,z0,n0,t0]
       have HE:=Aside0.mk E
       clear E h1 h2 t0 z0 n0
       go_wp2
       go_meet
       case rel=>exact ⟨by rw [HE.out],rfl⟩
     ·have z1:(x.f2 == 0)=false:=by simp [z0]
      have E:headT x.f0 x.f1 x.f2 x.f3.length=false:=by generalize x.f3.length=n at *;simp [headT,h2,z0,t0]
      have HE:=Aside0.mk E
      clear E h1 h2 t0 z0
      go_wp2
      go_meet
      case rel=>exact ⟨by rw [HE.out],rfl⟩
    ·have t1:(x.f1.toList=[])=False:=eq_false t0
     have t2:(x.f1.toList == [])=false:=by simp [t0]
     have E:headT x.f0 x.f1 x.f2 x.f3.length=false:=by generalize x.f3.length=n at *;simp [headT,h2,t0]
     have HE:=Aside0.mk E
     clear E h1 h2 t0
     go_wp2
     go_meet
     case rel=>exact ⟨by rw [HE.out],rfl⟩
   by_cases h3:x.f0=3
   ·have e1:(x.f0 == 1)=false:=by simp [h3]
    have e2:(x.f0 == 2)=false:=by simp [h3]
    have e3:(x.f0 == 3)=true:=by simp [h3]
    have e4:(x.f0 == 4)=false:=by simp [h3]
    by_cases t0:x.f1.toList=[]
    ·have t1:(x.f1.toList=[])=True:=eq_true t0
     have t2:(x.f1.toList == [])=true:=by simp [t0]
     by_cases z0:x.f2=0
     ·have z1:(x.f2 == 0)=true:=by simp [z0]
      by_cases n0:(x.f3.length:Int)=2
      ·have n1:((x.f3.length:Int) == 2)=true:=beq_iff_eq.mpr n0
       have n2:(x.f3.length == 2)=true:=beq_iff_eq.mpr (by omega)
       have E:headT x.f0 x.f1 x.f2 x.f3.length=true:=by generalize x.f3.length=n at *;simp [headT,h3,z0,n0,t0]
       have HE:=Aside0.mk E
       clear E h1 h2 h3 t0 z0 n0
       go_wp2
       go_meet
       case rel=>exact ⟨by rw [HE.out],rfl⟩
      ·have n1:((x.f3.length:Int) == 2)=false:=beq_eq_false_iff_ne.mpr n0
       have n2:(x.f3.length == 2)=false:=beq_eq_false_iff_ne.mpr (by omega)
       have E:headT x.f0 x.f1 x.f2 x.f3.length=false:=by generalize x.f3.length=n at *;simp [headT,h3,z0,n0,t0]
       have HE:=Aside0.mk E
       clear E h1 h2 h3 t0 z0 n0
       go_wp2
       go_meet
       case rel=>exact ⟨by rw [HE.out],rfl⟩
     ·have z1:(x.f2 == 0)=false:=by simp [z0]
      have E:headT x.f0 x.f1 x.f2 x.f3.length=false:=by generalize x.f3.length=n at *;simp [headT,h3,z0,t0]
      have HE:=Aside0.mk E
      clear E h1 h2 h3 t0 z0
      go_wp2
      go_meet
      case rel=>exact ⟨by rw [HE.out],rfl⟩
    ·have t1:(x.f1.toList=[])=False:=eq_false t0
     have t2:(x.f1.toList == [])=false:=by simp [t0]
     have E:headT x.f0 x.f1 x.f2 x.f3.length=false:=by generalize x.f3.length=n at *;simp [headT,h3,t0]
     have HE:=Aside0.mk E
     clear E h1 h2 h3 t0
     go_wp2
     go_meet
     case rel=>exact ⟨by rw [HE.out],rfl⟩
   by_cases h4:x.f0=4
   ·have e1:(x.f0 == 1)=false:=by simp [h4]
    have e2:(x.f0 == 2)=false:=by simp [h4]
    have e3:(x.f0 == 3)=false:=by simp [h4]
    have e4:(x.f0 == 4)=true:=by simp [h4]
    by_cases t0:x.f1.toList=[]
    ·have t1:(x.f1.toList=[])=True:=eq_true t0
     have t2:(x.f1.toList == [])=true:=by simp [t0]
     by_cases z0:1 ≤ x.f2
     ·have z1:decide (1 ≤ x.f2)=true:=decide_eq_true z0
      by_cases n0:x.f2 ≤ (x.f3.length:Int)
      ·have n1:decide (x.f2 ≤ (x.f3.length:Int))=true:=decide_eq_true n0
       have E:headT x.f0 x.f1 x.f2 x.f3.length=true:=by generalize x.f3.length=n at *;simp [headT,h4,z0,t0,n0]
       have HE:=Aside0.mk E
       clear E h1 h2 h3 h4 t0 z0 n0
       go_wp2
       go_meet
       case rel=>exact ⟨by rw [HE.out],rfl⟩
      ·have n1:decide (x.f2 ≤ (x.f3.length:Int))=false:=decide_eq_false n0
       have E:headT x.f0 x.f1 x.f2 x.f3.length=false:=by generalize x.f3.length=n at *;simp [headT,h4,z0,t0,n0]
       have HE:=Aside0.mk E
       clear E h1 h2 h3 h4 t0 z0 n0
       go_wp2
       go_meet
       case rel=>exact ⟨by rw [HE.out],rfl⟩
     ·have z1:decide (1 ≤ x.f2)=false:=decide_eq_false z0
      have E:headT x.f0 x.f1 x.f2 x.f3.length=false:=by generalize x.f3.length=n at *;simp [headT,h4,z0,t0]
      have HE:=Aside0.mk E
      clear E h1 h2 h3 h4 t0 z0
      go_wp2
      go_meet
      case rel=>exact ⟨by rw [HE.out],rfl⟩
    ·have t1:(x.f1.toList=[])=False:=eq_false t0
     have t2:(x.f1.toList == [])=false:=by simp [t0]
     have E:headT x.f0 x.f1 x.f2 x.f3.length=false:=by generalize x.f3.length=n at *;simp [headT,h4,t0]
     have HE:=Aside0.mk E
     clear E h1 h2 h3 h4 t0
     go_wp2
     go_meet
     case rel=>exact ⟨by rw [HE.out],rfl⟩
   have e1:(x.f0 == 1)=false:=by simp [h1]
   have e2:(x.f0 == 2)=false:=by simp [h2]
   have e3:(x.f0 == 3)=false:=by simp [h3]
   have e4:(x.f0 == 4)=false:=by simp [h4]
   have E:headT x.f0 x.f1 x.f2 x.f3.length=false:=by generalize x.f3.length=n at *;simp [headT,h1,h2,h3,h4]
   have HE:=Aside0.mk E
   clear E h1 h2 h3 h4
   go_wp2
   go_meet
   case rel=>exact ⟨by rw [HE.out],rfl⟩
  case rest =>
   obtain ⟨rfl,rfl⟩:=hcut
   have hE:headT x.f0 x.f1 x.f2 x.f3.length=false → errT x=151:=fun h=>by unfold errT;rw [okT_eq,h];rfl
   have HEr:=Aside0.mk hE
   clear hE
   obtain ⟨b,hb⟩:∃ b,b=headT x.f0 x.f1 x.f2 x.f3.length:=⟨_,rfl⟩
   rw [← hb]
   have HH:=Aside0.mk hb
   clear hb
   cases b with
   | false =>
    go_wp2
    go_ret
    exact ⟨by rw [HEr.out HH.out.symm];rfl,HB.out _⟩
   | true =>
    go_wp2
    go_loopw [5] (fun i wr=>∃ k:Nat,i = .int .i64 k ∧ k ≤ x.f3.length ∧ (∀ j,j < k → okT (rd_T24 x.f3 (j:Int))=true) ∧ wr.heap[w.heap.size]? = some (.cells #[.int .u8 x.f0,.string x.f1,.int .i64 x.f2,.slice A x.f3.length c] 24 (0,0)) ∧ Below w.heap.size w wr) (fun i wr=>x.f3.length - (intOf i).toNat)
    case atStart=>exact ⟨0,rfl,Nat.zero_le _,fun j hj=>absurd hj (Nat.not_lt_zero _),blk_new _ _,HB.out _⟩
    case round =>
     obtain ⟨k,rfl,hk,hok,hblk,hbel⟩:=hrel
     have HOk:=Aside0.mk hok
     have HBk:=Aside0.mk hblk
     have HBl:=Aside0.mk hbel
     have c3:=blk_cell hblk 3
     clear hok hblk hbel
     by_cases hlt:k < x.f3.length
     ·have d1:decide ((k:Int) < (x.f3.length:Int))=true:=decide_eq_true (by omega)
      have d2:(k < x.f3.length)=True:=eq_true hlt
      have d3:((k:Int) < (x.f3.length:Int))=True:=eq_true (by omega)
      have d4:(0 ≤ (k:Int))=True:=eq_true (by omega)
      have hl3:x.f3.length ≤ 10000:=by have:=HN.out;omega
      have q4:IntKind.i64.wrap ((k:Int) + 1)=(k:Int) + 1:=IntWalk.i64_in _ (by omega)
      obtain ⟨ad,A3,c3',e0,k0,k1,k2,k3,k4,k5⟩:=at_T24 HC.out (k:Int) (by omega) (by omega)
      subst e0
      rw [Int.toNat_natCast] at k0 k1 k2 k3
      replace k0:=pw_cell_below HBl.out k0
      replace k1:=pw_cell_below HBl.out k1
      replace k2:=pw_cell_below HBl.out k2
      replace k3:=pw_cell_below HBl.out k3
      have hmem:rd_T24 x.f3 (k:Int) ∈ x.f3:=by rw [rd_nat hlt];exact List.getElem_mem hlt
      have hsz:=szT_mem hmem
      obtain ⟨y,hy⟩:∃ y,y=rd_T24 x.f3 (k:Int):=⟨_,rfl⟩
      rw [← hy] at k0 k1 k2 k3 k4 k5 hsz hmem
      have HY:=Aside0.mk hy
      have HM:=Aside0.mk hmem
      cases ho:okT y
      ·have he:errT y=151:=by simp [errT,ho]
       have hcall:∀ wr,Below w.heap.size w wr → Calls Tryz.prog 18 #[.agg #[.int .u8 y.f0,.string y.f1,.int .i64 y.f2,.slice A3 y.f3.length c3']] wr fun e w'=>e = .returned (.int .i64 151) ∧ Below wr.heap.size wr w':=fun wr hw=>by
        have q:=IH.out y A3 c3' wr (by have:=HN.out;omega) (by omega) k4 (Kd.C_below k5 hw)
        rw [he] at q
        exact q
       have HCall:=Aside0.mk hcall
       have HO:=Aside0.mk ho
       clear hcall k4 k5 hsz hmem hy he ho
       go_wp2_with (first | (go_at_call 18;(refine (HCall.out _ HBl.out).mono ?_);rintro e_ w2 ⟨rfl,hb2⟩;have HB2:=Aside0.mk hb2;clear hb2))
       go_ret
       refine ⟨?_,HBl.out.trans (HB2.out.mono HBl.out.size)⟩
       have:okT x=false:=by
        rw [okT_eq]
        have:x.f3.all okT=false:=List.all_eq_false.mpr ⟨y,HM.out,by rw [HO.out];simp⟩
        rw [this,Bool.and_false]
       simp [errT,this]
      ·have he:errT y=0:=by simp [errT,ho]
       have hcall:∀ wr,Below w.heap.size w wr → Calls Tryz.prog 18 #[.agg #[.int .u8 y.f0,.string y.f1,.int .i64 y.f2,.slice A3 y.f3.length c3']] wr fun e w'=>e = .returned (.int .i64 0) ∧ Below wr.heap.size wr w':=fun wr hw=>by
        have q:=IH.out y A3 c3' wr (by have:=HN.out;omega) (by omega) k4 (Kd.C_below k5 hw)
        rw [he] at q
        exact q
       have HCall:=Aside0.mk hcall
       have HO:=Aside0.mk ho
       clear hcall k4 k5 hsz hmem hy he ho
       go_wp2_with (first | (go_at_call 18;(refine (HCall.out _ HBl.out).mono ?_);rintro e_ w2 ⟨rfl,hb2⟩;have HB2:=Aside0.mk hb2;clear hb2))
       refine ⟨⟨k + 1,by go_num,by omega,?_,blk_below HBk.out HB2.out,HBl.out.trans (HB2.out.mono HBl.out.size)⟩,?_⟩
       ·intro j hj
        rcases Nat.lt_or_ge j k with h | h
        ·exact HOk.out j h
        ·have:j=k:=by omega
         subst this
         rw [← HY.out];exact HO.out
       ·simp [intOf];omega
     ·have d1:decide ((k:Int) < (x.f3.length:Int))=false:=decide_eq_false (by omega)
      go_wp2
      go_ret
      refine ⟨?_,HBl.out⟩
      have hall:x.f3.all okT=true:=List.all_eq_true.mpr (fun y hy=>by
       obtain ⟨j,hj,rfl⟩:=List.getElem_of_mem hy
       have q:=HOk.out j (by omega)
       rw [rd_nat hj] at q
       exact q)
      have:okT x=true:=by rw [okT_eq,← HH.out,hall];rfl
      simp [errT,this]
end Go.Proofs.YtjapfefiaijfcaaGreatDoor.Q
namespace Go.Proofs.YtjapfefiaijfcaaGreatDoor.Q
open Go.RowKit Go.Proofs.YtjapfefiaijfcaaGreatDoorW.PrintWords Go.Proofs.YtjapfefiaijfcaaGreatDoorW.PrintLast Go.Proofs.YtjapfefiaijfcaaGreatDoorW.PrintMore
set_option linter.unusedVariables false
set_option maxHeartbeats 8000000 in
set_option maxRecDepth 100000 in
theorem lics_Check1.calls (y:S24) (A:Option Addr) (c:Nat) (w:World)
  (H:∀ w',Below w.heap.size w w' → Calls Tryz.prog 17 #[.agg #[.int .u8 y.f0,.string y.f1,.int .i64 y.f2,.slice A y.f3.length c]] w' fun e w''=>e = .returned (.int .i64 (errT y)) ∧ Below w'.heap.size w' w'') :
  Calls Tryz.prog 34 #[.agg #[.int .u8 y.f0,.string y.f1,.int .i64 y.f2,.slice A y.f3.length c]] w fun e w'=>e = .returned (.bool (!okT y)) ∧ Below w.heap.size w w':=by
 cases ho:okT y
 ·have he:errT y=151:=by simp [errT,ho]
  rw [he] at H
  have HH:=Aside0.mk H
  clear H he ho
  have hb:∀ o:Obj,Below w.heap.size w (w.alloc o):=fun o=>(Below.refl _ _).alloc (Nat.le_refl _) o
  have HB:=Aside0.mk hb
  clear hb
  go_enter Tryz.func34,Tryz.ntmps34
  go_wp2_with (first | (go_at_call 17;(refine (HH.out _ (HB.out _)).mono ?_);rintro e_ w2 ⟨rfl,hb2⟩;have HB2:=Aside0.mk hb2;clear hb2))
  go_ret
  exact ⟨rfl,(HB.out _).trans (HB2.out.mono (HB.out _).size)⟩
 ·have he:errT y=0:=by simp [errT,ho]
  rw [he] at H
  have HH:=Aside0.mk H
  clear H he ho
  have hb:∀ o:Obj,Below w.heap.size w (w.alloc o):=fun o=>(Below.refl _ _).alloc (Nat.le_refl _) o
  have HB:=Aside0.mk hb
  clear hb
  go_enter Tryz.func34,Tryz.ntmps34
  go_wp2_with (first | (go_at_call 17;(refine (HH.out _ (HB.out _)).mono ?_);rintro e_ w2 ⟨rfl,hb2⟩;have HB2:=Aside0.mk hb2;clear hb2))
  go_ret
  exact ⟨rfl,(HB.out _).trans (HB2.out.mono (HB.out _).size)⟩
set_option maxHeartbeats 8000000 in
set_option maxRecDepth 100000 in
theorem slices_IndexFunc_bad.calls (xs:List S24) (A:Option Addr) (c:Nat) (w:World) (hl:xs.length ≤ 10000) (hC:Kd.C k24 w A xs.length xs)
  (H:∀ y,y ∈ xs → ∀ A' c' w',Below w.heap.size w w' → y.f3.length ≤ c' → Kd.C k24 w' A' y.f3.length y.f3 → Calls Tryz.prog 34 #[.agg #[.int .u8 y.f0,.string y.f1,.int .i64 y.f2,.slice A' y.f3.length c']] w' fun e w''=>e = .returned (.bool (!okT y)) ∧ Below w'.heap.size w' w'') :
  Calls Tryz.prog 56 #[.slice A xs.length c,.func (.func 34) #[] #[]] w fun e w'=>∃ r:Int,e = .returned (.int .i64 r) ∧ decide (0 ≤ r) = !xs.all okT ∧ Below w.heap.size w w':=by
 have HC:=Aside0.mk hC
 have HH:=Aside0.mk H
 clear hC H
 go_enter Tryz.func56,Tryz.ntmps56
 go_wp2
 go_loopw [8] (fun i wr=>∃ k:Nat,i = .int .i64 k ∧ k ≤ xs.length ∧ (∀ j,j < k → okT (rd_T24 xs (j:Int))=true) ∧ Below w.heap.size w wr) (fun i wr=>xs.length - (intOf i).toNat)
 case atStart=>exact ⟨0,rfl,Nat.zero_le _,fun j hj=>absurd hj (Nat.not_lt_zero _),Below.refl _ _⟩
 case round =>
  obtain ⟨k,rfl,hk,hok,hbel⟩:=hrel
  have HOk:=Aside0.mk hok
  have HBl:=Aside0.mk hbel
  clear hok hbel
  by_cases hlt:k < xs.length
  ·have d1:decide ((k:Int) < (xs.length:Int))=true:=decide_eq_true (by omega)
   have d2:(k < xs.length)=True:=eq_true hlt
   have d3:((k:Int) < (xs.length:Int))=True:=eq_true (by omega)
   have d4:(0 ≤ (k:Int))=True:=eq_true (by omega)
   have q4:IntKind.i64.wrap ((k:Int) + 1)=(k:Int) + 1:=IntWalk.i64_in _ (by omega)
   obtain ⟨ad,A3,c3',e0,k0,k1,k2,k3,k4,k5⟩:=at_T24 HC.out (k:Int) (by omega) (by omega)
   subst e0
   rw [Int.toNat_natCast] at k0 k1 k2 k3
   replace k0:=pw_cell_below HBl.out k0
   replace k1:=pw_cell_below HBl.out k1
   replace k2:=pw_cell_below HBl.out k2
   replace k3:=pw_cell_below HBl.out k3
   have hmem:rd_T24 xs (k:Int) ∈ xs:=by rw [rd_nat hlt];exact List.getElem_mem hlt
   obtain ⟨y,hy⟩:∃ y,y=rd_T24 xs (k:Int):=⟨_,rfl⟩
   rw [← hy] at k0 k1 k2 k3 k4 k5 hmem
   have HY:=Aside0.mk hy
   have HM:=Aside0.mk hmem
   have hcall:=HH.out y hmem A3 c3' wr HBl.out k4 (Kd.C_below k5 HBl.out)
   clear k4 k5 hmem hy
   cases ho:okT y
   ·rw [ho] at hcall
    have HCall:=Aside0.mk hcall
    have HO:=Aside0.mk ho
    clear hcall ho
    go_wp2_with (first | (go_at_call 34;(refine (HCall.out).mono ?_);rintro e_ w2 ⟨rfl,hb2⟩;have HB2:=Aside0.mk hb2;clear hb2))
    go_ret
    refine ⟨(k:Int),rfl,?_,HBl.out.trans (HB2.out.mono HBl.out.size)⟩
    have:xs.all okT=false:=List.all_eq_false.mpr ⟨y,HM.out,by rw [HO.out];simp⟩
    rw [this];simp
   ·rw [ho] at hcall
    have HCall:=Aside0.mk hcall
    have HO:=Aside0.mk ho
    clear hcall ho
    go_wp2_with (first | (go_at_call 34;(refine (HCall.out).mono ?_);rintro e_ w2 ⟨rfl,hb2⟩;have HB2:=Aside0.mk hb2;clear hb2))
    refine ⟨⟨k + 1,by go_num,by omega,?_,HBl.out.trans (HB2.out.mono HBl.out.size)⟩,?_⟩
    ·intro j hj
     rcases Nat.lt_or_ge j k with h | h
     ·exact HOk.out j h
     ·have:j=k:=by omega
      subst this
      rw [← HY.out];exact HO.out
    ·simp [intOf];omega
  ·have d1:decide ((k:Int) < (xs.length:Int))=false:=decide_eq_false (by omega)
   go_wp2
   go_ret
   refine ⟨-1,rfl,?_,HBl.out⟩
   have hall:xs.all okT=true:=List.all_eq_true.mpr (fun y hy=>by
    obtain ⟨j,hj,rfl⟩:=List.getElem_of_mem hy
    have q:=HOk.out j (by omega)
    rw [rd_nat hj] at q
    exact q)
   rw [hall];rfl
set_option maxHeartbeats 8000000 in
set_option maxRecDepth 100000 in
theorem slices_ContainsFunc_bad.calls (xs:List S24) (A:Option Addr) (c:Nat) (w:World) (hl:xs.length ≤ 10000) (hC:Kd.C k24 w A xs.length xs)
  (H:∀ y,y ∈ xs → ∀ A' c' w',Below w.heap.size w w' → y.f3.length ≤ c' → Kd.C k24 w' A' y.f3.length y.f3 → Calls Tryz.prog 34 #[.agg #[.int .u8 y.f0,.string y.f1,.int .i64 y.f2,.slice A' y.f3.length c']] w' fun e w''=>e = .returned (.bool (!okT y)) ∧ Below w'.heap.size w' w'') :
  Calls Tryz.prog 33 #[.slice A xs.length c,.func (.func 34) #[] #[]] w fun e w'=>e = .returned (.bool (!xs.all okT)) ∧ Below w.heap.size w w':=by
 have HC:=Aside0.mk (slices_IndexFunc_bad.calls xs A c w hl hC H)
 clear hC H
 go_enter Tryz.func33,Tryz.ntmps33
 go_wp2_with (first | (go_at_call 56;(refine (HC.out).mono ?_);rintro e_ w2 ⟨r,rfl,hr,hb2⟩;have HB2:=Aside0.mk hb2;have HR:=Aside0.mk hr;clear hb2 hr))
 go_ret
 exact ⟨by rw [← HR.out];rfl,HB2.out⟩
set_option maxHeartbeats 8000000 in
set_option maxRecDepth 100000 in
theorem lics_Check.calls (N:Nat):∀ (x:S24) (A:Option Addr) (c:Nat) (w:World),szT x < N → N ≤ 10001 → x.f3.length ≤ c → Kd.C k24 w A x.f3.length x.f3 →
  Calls Tryz.prog 17 #[.agg #[.int .u8 x.f0,.string x.f1,.int .i64 x.f2,.slice A x.f3.length c]] w fun e w'=>e = .returned (.int .i64 (errT x)) ∧ Below w.heap.size w w':=by
 induction N with
 | zero=>exact fun x A c w h=>absurd h (Nat.not_lt_zero _)
 | succ N ih =>
  intro x A c w hN hN2 hc hC
  have hlen:=szT_len x
  have hb:∀ o:Obj,Below w.heap.size w (w.alloc o):=fun o=>(Below.refl _ _).alloc (Nat.le_refl _) o
  have hcf:∀ w',Below w.heap.size w w' → Calls Tryz.prog 33 #[.slice A x.f3.length c,.func (.func 34) #[] #[]] w' fun e w''=>e = .returned (.bool (!x.f3.all okT)) ∧ Below w'.heap.size w' w'':=fun w' hw =>
   slices_ContainsFunc_bad.calls x.f3 A c w' (by omega) (Kd.C_below hC hw) (fun y hy A' c' w2 hw2 hc2 hC2=>lics_Check1.calls y A' c' w2 (fun w3 hw3=>ih y A' c' w3 (by have:=szT_mem hy;omega) (by omega) hc2 (Kd.C_below hC2 hw3)))
  have HCF:=Aside0.mk hcf
  have HB:=Aside0.mk hb
  have hE:headT x.f0 x.f1 x.f2 x.f3.length=false → errT x=151:=fun h=>by unfold errT;rw [okT_eq,h];rfl
  have HEr:=Aside0.mk hE
  have hO:headT x.f0 x.f1 x.f2 x.f3.length=true → errT x=if x.f3.all okT=true then 0 else 151:=fun h=>by unfold errT;rw [okT_eq,h];rfl
  have HOk:=Aside0.mk hO
  have HC:=Aside0.mk hC
  clear ih hcf hb hN hE hO hC
  by_cases h1:x.f0=1
  ·have e1:(x.f0 == 1)=true:=by simp [h1]
   have e2:(x.f0 == 2)=false:=by simp [h1]
   have e3:(x.f0 == 3)=false:=by simp [h1]
   have e4:(x.f0 == 4)=false:=by simp [h1]
   by_cases z0:x.f2=0
   ·have z1:(x.f2 == 0)=true:=by simp [z0]
    have z2:(x.f2 != 0)=false:=by simp [z0]
    by_cases n0:(x.f3.length:Int)=0
    ·have n1:((x.f3.length:Int) == 0)=true:=beq_iff_eq.mpr n0
     have n2:(x.f3.length == 0)=true:=beq_iff_eq.mpr (by omega)
     have n3:((x.f3.length:Int) != 0)=false:=by rw [bne,n1];rfl
     have n4:(x.f3.length != 0)=false:=by rw [bne,n2];rfl
     have hall:x.f3.all okT=true:=by rw [List.eq_nil_of_length_eq_zero (by omega:x.f3.length=0)];rfl
     have E:=HOk.out (by generalize x.f3.length=n at *;simp [headT,h1,z0,n0])
     rw [hall] at E
     have HE:=Aside0.mk E
     clear E hall h1 z0 n0
     go_enter Tryz.func17,Tryz.ntmps17
     go_wp2
     go_ret
     exact ⟨by rw [HE.out];rfl,HB.out _⟩
    ·have n1:((x.f3.length:Int) == 0)=false:=beq_eq_false_iff_ne.mpr n0
     have n2:(x.f3.length == 0)=false:=beq_eq_false_iff_ne.mpr (by omega)
     have n3:((x.f3.length:Int) != 0)=true:=by rw [bne,n1];rfl
     have n4:(x.f3.length != 0)=true:=by rw [bne,n2];rfl
     have E:=HEr.out (by generalize x.f3.length=n at *;simp [headT,h1,z0];omega)
     have HE:=Aside0.mk E
     clear E h1 z0 n0
     go_enter Tryz.func17,Tryz.ntmps17
     go_wp2
     go_ret
     exact ⟨by rw [HE.out];rfl,HB.out _⟩
   ·have z1:(x.f2 == 0)=false:=by simp [z0]
    have z2:(x.f2 != 0)=true:=by simp [z0]
    have E:=HEr.out (by generalize x.f3.length=n at *;simp [headT,h1,z0])
    have HE:=Aside0.mk E
    clear E h1 z0
    go_enter Tryz.func17,Tryz.ntmps17
    go_wp2
    go_ret
    exact ⟨by rw [HE.out];rfl,HB.out _⟩
  by_cases h2:x.f0=2
  ·have e1:(x.f0 == 1)=false:=by simp [h2]
   have e2:(x.f0 == 2)=true:=by simp [h2]
   have e3:(x.f0 == 3)=false:=by simp [h2]
   have e4:(x.f0 == 4)=false:=by simp [h2]
   by_cases z0:x.f2=0
   ·have z1:(x.f2 == 0)=true:=by simp [z0]
    have z2:(x.f2 != 0)=false:=by simp [z0]
    by_cases n0:(x.f3.length:Int)=2
    ·have n1:((x.f3.length:Int) == 2)=true:=beq_iff_eq.mpr n0
     have n2:(x.f3.length == 2)=true:=beq_iff_eq.mpr (by omega)
     have n3:((x.f3.length:Int) != 2)=false:=by rw [bne,n1];rfl
     have n4:(x.f3.length != 2)=false:=by rw [bne,n2];rfl
     by_cases t0:x.f1.toList=[]
     ·have t1:(x.f1.toList=[])=True:=eq_true t0
      have t2:(x.f1.toList == [])=true:=by simp [t0]
      have t3:(x.f1.toList != [])=false:=by simp [t0]
      have E:=HOk.out (by generalize x.f3.length=n at *;simp [headT,h2,z0,n0,t0])
      cases ha:x.f3.all okT
      ·have E2:errT x=151:=by rw [E,ha];rfl
       have HE:=Aside0.mk E2
       have hcf:=HCF.out
       rw [ha] at hcf
       have HCF2:=Aside0.mk hcf
       clear E E2 ha hcf h1 h2 z0 n0 t0
       go_enter Tryz.func17,Tryz.ntmps17
       go_wp2_with (first | (go_at_call 33;(refine (HCF2.out _ (HB.out _)).mono ?_);rintro e_ w2 ⟨rfl,hb2⟩;have HB2:=Aside0.mk hb2;clear hb2))
       go_ret
       exact ⟨by rw [HE.out];rfl,(HB.out _).trans (HB2.out.mono (HB.out _).size)⟩
      ·have E2:errT x=0:=by rw [E,ha];rfl
       have HE:=Aside0.mk E2
       have hcf:=HCF.out
       rw [ha] at hcf
       have HCF2:=Aside0.mk hcf
       clear E E2 ha hcf h1 h2 z0 n0 t0
       go_enter Tryz.func17,Tryz.ntmps17
       go_wp2_with (first | (go_at_call 33;(refine (HCF2.out _ (HB.out _)).mono ?_);rintro e_ w2 ⟨rfl,hb2⟩;have HB2:=Aside0.mk hb2;clear hb2))
       go_ret
       exact ⟨by rw [HE.out];rfl,(HB.out _).trans (HB2.out.mono (HB.out _).size)⟩
     ·have t1:(x.f1.toList=[])=False:=eq_false t0
      have t2:(x.f1.toList == [])=false:=by simp [t0]
      have t3:(x.f1.toList != [])=true:=by simp [t0]
      have E:=HEr.out (by generalize x.f3.length=n at *;simp [headT,h2,z0,n0,t0])
      have HE:=Aside0.mk E
      clear E h1 h2 z0 n0 t0
      go_enter Tryz.func17,Tryz.ntmps17
      go_wp2
      go_ret
      exact ⟨by rw [HE.out];rfl,HB.out _⟩
    ·have n1:((x.f3.length:Int) == 2)=false:=beq_eq_false_iff_ne.mpr n0
     have n2:(x.f3.length == 2)=false:=beq_eq_false_iff_ne.mpr (by omega)
     have n3:((x.f3.length:Int) != 2)=true:=by rw [bne,n1];rfl
     have n4:(x.f3.length != 2)=true:=by rw [bne,n2];rfl
     have E:=HEr.out (by generalize x.f3.length=n at *;simp [headT,h2,z0,n0])
     have HE:=Aside0.mk E
     clear E h1 h2 z0 n0
     go_enter Tryz.func17,Tryz.ntmps17
     go_wp2
     go_ret
     exact ⟨by rw [HE.out];rfl,HB.out _⟩
   ·have z1:(x.f2 == 0)=false:=by simp [z0]
    have z2:(x.f2 != 0)=true:=by simp [z0]
    have E:=HEr.out (by generalize x.f3.length=n at *;simp [headT,h2,z0])
    have HE:=Aside0.mk E
    clear E h1 h2 z0
    go_enter Tryz.func17,Tryz.ntmps17
    go_wp2
    go_ret
    exact ⟨by rw [HE.out];rfl,HB.out _⟩
  by_cases h3:x.f0=3
  ·have e1:(x.f0 == 1)=false:=by simp [h3]
   have e2:(x.f0 == 2)=false:=by simp [h3]
   have e3:(x.f0 == 3)=true:=by simp [h3]
   have e4:(x.f0 == 4)=false:=by simp [h3]
   by_cases z0:x.f2=0
   ·have z1:(x.f2 == 0)=true:=by simp [z0]
    have z2:(x.f2 != 0)=false:=by simp [z0]
    by_cases n0:(x.f3.length:Int)=2
    ·have n1:((x.f3.length:Int) == 2)=true:=beq_iff_eq.mpr n0
     have n2:(x.f3.length == 2)=true:=beq_iff_eq.mpr (by omega)
     have n3:((x.f3.length:Int) != 2)=false:=by rw [bne,n1];rfl
     have n4:(x.f3.length != 2)=false:=by rw [bne,n2];rfl
     by_cases t0:x.f1.toList=[]
     ·have t1:(x.f1.toList=[])=True:=eq_true t0
      have t2:(x.f1.toList == [])=true:=by simp [t0]
      have t3:(x.f1.toList != [])=false:=by simp [t0]
      have E:=HOk.out (by generalize x.f3.length=n at *;simp [headT,h3,z0,n0,t0])
      cases ha:x.f3.all okT
      ·have E2:errT x=151:=by rw [E,ha];rfl
       have HE:=Aside0.mk E2
       have hcf:=HCF.out
       rw [ha] at hcf
       have HCF2:=Aside0.mk hcf
       clear E E2 ha hcf h1 h2 h3 z0 n0 t0
       go_enter Tryz.func17,Tryz.ntmps17
       go_wp2_with (first | (go_at_call 33;(refine (HCF2.out _ (HB.out _)).mono ?_);rintro e_ w2 ⟨rfl,hb2⟩;have HB2:=Aside0.mk hb2;clear hb2))
       go_ret
       exact ⟨by rw [HE.out];rfl,(HB.out _).trans (HB2.out.mono (HB.out _).size)⟩
      ·have E2:errT x=0:=by rw [E,ha];rfl
       have HE:=Aside0.mk E2
       have hcf:=HCF.out
       rw [ha] at hcf
       have HCF2:=Aside0.mk hcf
       clear E E2 ha hcf h1 h2 h3 z0 n0 t0
       go_enter Tryz.func17,Tryz.ntmps17
       go_wp2_with (first | (go_at_call 33;(refine (HCF2.out _ (HB.out _)).mono ?_);rintro e_ w2 ⟨rfl,hb2⟩;have HB2:=Aside0.mk hb2;clear hb2))
       go_ret
       exact ⟨by rw [HE.out];rfl,(HB.out _).trans (HB2.out.mono (HB.out _).size)⟩
     ·have t1:(x.f1.toList=[])=False:=eq_false t0
      have t2:(x.f1.toList == [])=false:=by simp [t0]
      have t3:(x.f1.toList != [])=true:=by simp [t0]
      have E:=HEr.out (by generalize x.f3.length=n at *;simp [headT,h3,z0,n0,t0])
      have HE:=Aside0.mk E
      clear E h1 h2 h3 z0 n0 t0
      go_enter Tryz.func17,Tryz.ntmps17
      go_wp2
      go_ret
      exact ⟨by rw [HE.out];rfl,HB.out _⟩
    ·have n1:((x.f3.length:Int) == 2)=false:=beq_eq_false_iff_ne.mpr n0
     have n2:(x.f3.length == 2)=false:=beq_eq_false_iff_ne.mpr (by omega)
     have n3:((x.f3.length:Int) != 2)=true:=by rw [bne,n1];rfl
     have n4:(x.f3.length != 2)=true:=by rw [bne,n2];rfl
     have E:=HEr.out (by generalize x.f3.length=n at *;simp [headT,h3,z0,n0])
     have HE:=Aside0.mk E
     clear E h1 h2 h3 z0 n0
     go_enter Tryz.func17,Tryz.ntmps17
     go_wp2
     go_ret
     exact ⟨by rw [HE.out];rfl,HB.out _⟩
   ·have z1:(x.f2 == 0)=false:=by simp [z0]
    have z2:(x.f2 != 0)=true:=by simp [z0]
    have E:=HEr.out (by generalize x.f3.length=n at *;simp [headT,h3,z0])
    have HE:=Aside0.mk E
    clear E h1 h2 h3 z0
    go_enter Tryz.func17,Tryz.ntmps17
    go_wp2
    go_ret
    exact ⟨by rw [HE.out];rfl,HB.out _⟩
  by_cases h4:x.f0=4
  ·have e1:(x.f0 == 1)=false:=by simp [h4]
   have e2:(x.f0 == 2)=false:=by simp [h4]
   have e3:(x.f0 == 3)=false:=by simp [h4]
   have e4:(x.f0 == 4)=true:=by simp [h4]
   by_cases z0:x.f2 < 1
   ·have z1:decide (x.f2 < 1)=true:=decide_eq_true z0
    have E:=HEr.out (by generalize x.f3.length=n at *;simp [headT,h4];intros;omega)
    have HE:=Aside0.mk E
    clear E h1 h2 h3 h4 z0
    go_enter Tryz.func17,Tryz.ntmps17
    go_wp2
    go_ret
    exact ⟨by rw [HE.out];rfl,HB.out _⟩
   ·have z1:decide (x.f2 < 1)=false:=decide_eq_false z0
    by_cases n0:(x.f3.length:Int) < x.f2
    ·have n1:decide ((x.f3.length:Int) < x.f2)=true:=decide_eq_true n0
     have E:=HEr.out (by generalize x.f3.length=n at *;simp [headT,h4];intros;omega)
     have HE:=Aside0.mk E
     clear E h1 h2 h3 h4 z0 n0
     go_enter Tryz.func17,Tryz.ntmps17
     go_wp2
     go_ret
     exact ⟨by rw [HE.out];rfl,HB.out _⟩
    ·have n1:decide ((x.f3.length:Int) < x.f2)=false:=decide_eq_false n0
     by_cases t0:x.f1.toList=[]
     ·have t1:(x.f1.toList=[])=True:=eq_true t0
      have t2:(x.f1.toList == [])=true:=by simp [t0]
      have t3:(x.f1.toList != [])=false:=by simp [t0]
      have E:=HOk.out (by generalize x.f3.length=n at *;simp [headT,h4,(by omega:1 ≤ x.f2),(by omega:x.f2 ≤ (n:Int)),t0])
      cases ha:x.f3.all okT
      ·have E2:errT x=151:=by rw [E,ha];rfl
       have HE:=Aside0.mk E2
       have hcf:=HCF.out
       rw [ha] at hcf
       have HCF2:=Aside0.mk hcf
       clear E E2 ha hcf h1 h2 h3 h4 z0 n0 t0
       go_enter Tryz.func17,Tryz.ntmps17
       go_wp2_with (first | (go_at_call 33;(refine (HCF2.out _ (HB.out _)).mono ?_);rintro e_ w2 ⟨rfl,hb2⟩;have HB2:=Aside0.mk hb2;clear hb2))
       go_ret
       exact ⟨by rw [HE.out];rfl,(HB.out _).trans (HB2.out.mono (HB.out _).size)⟩
      ·have E2:errT x=0:=by rw [E,ha];rfl
       have HE:=Aside0.mk E2
       have hcf:=HCF.out
       rw [ha] at hcf
       have HCF2:=Aside0.mk hcf
       clear E E2 ha hcf h1 h2 h3 h4 z0 n0 t0
       go_enter Tryz.func17,Tryz.ntmps17
       go_wp2_with (first | (go_at_call 33;(refine (HCF2.out _ (HB.out _)).mono ?_);rintro e_ w2 ⟨rfl,hb2⟩;have HB2:=Aside0.mk hb2;clear hb2))
       go_ret
       exact ⟨by rw [HE.out];rfl,(HB.out _).trans (HB2.out.mono (HB.out _).size)⟩
     ·have t1:(x.f1.toList=[])=False:=eq_false t0
      have t2:(x.f1.toList == [])=false:=by simp [t0]
      have t3:(x.f1.toList != [])=true:=by simp [t0]
      have E:=HEr.out (by generalize x.f3.length=n at *;simp [headT,h4,(by omega:1 ≤ x.f2),(by omega:x.f2 ≤ (n:Int)),t0])
      have HE:=Aside0.mk E
      clear E h1 h2 h3 h4 z0 n0 t0
      go_enter Tryz.func17,Tryz.ntmps17
      go_wp2
      go_ret
      exact ⟨by rw [HE.out];rfl,HB.out _⟩
  have e1:(x.f0 == 1)=false:=by simp [h1]
  have e2:(x.f0 == 2)=false:=by simp [h2]
  have e3:(x.f0 == 3)=false:=by simp [h3]
  have e4:(x.f0 == 4)=false:=by simp [h4]
  have E:=HEr.out (by generalize x.f3.length=n at *;simp [headT,h1,h2,h3,h4])
  have HE:=Aside0.mk E
  clear E h1 h2 h3 h4
  go_enter Tryz.func17,Tryz.ntmps17
  go_wp2
  go_ret
  exact ⟨by rw [HE.out];rfl,HB.out _⟩
end Go.Proofs.YtjapfefiaijfcaaGreatDoor.Q
