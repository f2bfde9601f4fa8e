/- A text of the contracts of the printer of licensees. -/
import Derived.Laws.BitsAllLaws
import Derived.Test.YtjapfefiaijfcaaGreatDoorH9
import Derived.Test.YtjapfefiaijfcaaGreatDoorH23
namespace Go.Proofs.YtjapfefiaijfcaaGreatDoor.Q
open Go.RowKit Go.Proofs.YtjapfefiaijfcaaGreatDoorW.PrintWords Go.Proofs.YtjapfefiaijfcaaGreatDoorW.PrintLast Go.Proofs.YtjapfefiaijfcaaGreatDoorW.PrintMore
set_option linter.unusedVariables false
theorem builder_int_calls (T:TypeId) (hT:HeadB T) (B b:Nat) (v:Value) (t:ByteArray) (c:Int) (hc:0 ≤ c ∧ c ≤ 255) (w:World) (h:BldAt T B b v t w) (hl:t.size + 1 ≤ 140737488355328) (hB:B ≤ w.heap.size) :
  Calls Tryz.prog 51 #[.pointer (some ⟨b,0,none⟩),.int .u8 c] w fun e w'=>e = .returned .nilIface ∧ WroteE T B b v (t ++ strOfNums [c]) w w':=by
 have e1:((UInt8.ofNat c.toNat).toNat:Int)=c:=by
  rw [UInt8.toNat_ofNat']
  omega
 have:=builder_byte_calls T hT B b v t (UInt8.ofNat c.toNat) w h hl hB
 rw [e1] at this
 exact this
def escS (c:Int):List Int :=
 if c=34 ∨ c=92 then [92,c] else if c=10 then [92,110] else if c=9 then [92,116] else if c=13 then [92,114] else if c < 32 ∨ 126 < c then [92,48 + c / 64,48 + c / 8 % 8,48 + c % 8] else [c]
theorem escS_len (c:Int):(escS c).length ≤ 4:=by
 unfold escS
 repeat' split
 all_goals simp
def quoteN (s:ByteArray):Nat → List Int
 | 0=>[34]
 | k + 1=>quoteN s k ++ escS (bt s (k:Int))
theorem quoteN_len (s:ByteArray) (k:Nat):(quoteN s k).length ≤ 4 * k + 1:=by
 induction k with
 | zero=>simp [quoteN]
 | succ k ih=>have:=escS_len (bt s (k:Int));simp only [quoteN,List.length_append];omega
def quoteS (s:ByteArray):ByteArray:=strOfNums (quoteN s s.size ++ [34])
theorem nums_app (a b:List Int):strOfNums (a ++ b)=strOfNums a ++ strOfNums b:=by
 apply ByteArray.ext
 simp [strOfNums]
theorem nums_size (a:List Int):(strOfNums a).size=a.length:=by simp [strOfNums,ByteArray.size]
theorem escS_q (c:Int) (h:c=34 ∨ c=92):escS c=[92,c]:=by unfold escS;rw [if_pos h]
theorem escS_10 (c:Int) (h:c=10):escS c=[92,110]:=by subst h;rfl
theorem escS_9 (c:Int) (h:c=9):escS c=[92,116]:=by subst h;rfl
theorem escS_13 (c:Int) (h:c=13):escS c=[92,114]:=by subst h;rfl
theorem escS_o (c:Int) (h34:¬ c=34) (h92:¬ c=92) (h10:¬ c=10) (h9:¬ c=9) (h13:¬ c=13) (h:c < 32 ∨ 126 < c):escS c=[92,48 + c / 64,48 + c / 8 % 8,48 + c % 8]:=by
 unfold escS;rw [if_neg (by omega),if_neg h10,if_neg h9,if_neg h13,if_pos h]
theorem escS_p (c:Int) (h34:¬ c=34) (h92:¬ c=92) (h10:¬ c=10) (h9:¬ c=9) (h13:¬ c=13) (h:¬ (c < 32 ∨ 126 < c)):escS c=[c]:=by
 unfold escS;rw [if_neg (by omega),if_neg h10,if_neg h9,if_neg h13,if_neg h]
theorem and7 (a:Int) (h0:0 ≤ a) (h1:a < 256):bits .and .u8 a 7=a % 8:=by
 obtain ⟨n,rfl⟩:=Int.eq_ofNat_of_zero_le h0
 have e:=Go.u8_and_nat n 7 (by omega) (by decide)
 have e2:n &&& 7=n % 8:=Nat.and_two_pow_sub_one_eq_mod n 3
 rw [e2] at e
 exact e.trans (by simp)
theorem qsz {l:List Int} (h:l.length ≤ 5000000):(strOfNums l).size + 1 ≤ 140737488355328:=by rw [nums_size];omega
theorem qsz2 {l m:List Int} (h:l.length + m.length ≤ 5000000):(strOfNums l).size + (strOfNums m).size ≤ 140737488355328:=by rw [nums_size,nums_size];omega
set_option maxHeartbeats 8000000 in
set_option maxRecDepth 100000 in
theorem tokens_Quote.calls (s:ByteArray) (hs:s.size ≤ 1000000) (w:World) :
  Calls Tryz.prog 52 #[.string s] w fun e w'=>e = .returned (.string (quoteS s)) ∧ Below w.heap.size w w':=by
 have HS:=Aside0.mk hs
 have H0:Aside0 (BldAt 50 w.heap.size w.heap.size (.slice none 0 0) ⟨#[]⟩ (w.alloc (.cells #[.pointer none,.slice none 0 0] 50))) :=
  ⟨⟨Nat.le_refl _,.inl (blk_new w _),⟨rfl,.inl ⟨rfl,rfl⟩⟩,by simp [Value.ownBlock]⟩⟩
 clear hs
 go_enter Tryz.func52,Tryz.ntmps52
 go_wp2_with (fail)
 go_at_call 51
 refine (builder_int_calls 50 headB50 w.heap.size w.heap.size _ _ 34 (by omega) _ H0.out (by decide) (by simp)).mono ?_
 rintro e_ w1 ⟨rfl,v1,hw⟩
 have HW1:=Aside0.mk hw
 clear hw H0
 go_wp2_with (fail)
 go_loopw [9] (fun i wr=>∃ (k:Nat) (v:Value),i = .int .i64 k ∧ k ≤ s.size ∧ BldAt 50 w.heap.size w.heap.size v (strOfNums (quoteN s k)) wr ∧ Below w.heap.size w wr) (fun i wr=>s.size - (intOf i).toNat)
 case atStart=>exact ⟨0,v1,rfl,Nat.zero_le _,HW1.out.at_,((Below.refl _ w).alloc (Nat.le_refl _) _).trans HW1.out.below⟩
 case round =>
  obtain ⟨k,v,rfl,hk,hA,hb⟩:=hrel
  by_cases hlt:k < s.size
  ·have e1:decide ((k:Int) < (s.size:Int))=true:=decide_eq_true (by omega)
   have e2:(k < s.size)=True:=eq_true hlt
   have e3:((k:Int) < (s.size:Int))=True:=eq_true (by omega)
   have e4:(0 ≤ (k:Int))=True:=eq_true (by omega)
   have e5:IntKind.i64.wrap ((k:Int) + 1)=(k:Int) + 1:=IntWalk.i64_in _ (by have:=HS.out;omega)
   have hr:=bt_range s (k:Int)
   have hbt:∀ h:k < s.size,((s[k]'h).toNat:Int)=bt s (k:Int):=fun h=>bt_at s (k:Int) h
   have hl:=quoteN_len s k
   have HBt:=Aside0.mk (rfl:bt s (k:Int)=bt s (k:Int))
   generalize hcd:bt s (k:Int)=c at hr hbt
   have HBt:=Aside0.mk hcd
   have HC:=Aside0.mk hr
   have HL:Aside0 ((quoteN s k).length ≤ 4000001):=⟨by have:=HS.out;omega⟩
   have HA0:=Aside0.mk hA
   have HB0:=Aside0.mk hb
   have HLt:=Aside0.mk hlt
   clear hA hb hlt hk hr hl hcd
   by_cases h34:c=34
   ·have hesc:quoteN s (k + 1)=quoteN s k ++ [92] ++ [c]:=by rw [quoteN,HBt.out,escS_q c (.inl h34)];simp
    have HEsc:=Aside0.mk hesc
    have f34:(c == 34)=true:=beq_iff_eq.mpr h34
    clear hesc h34
    go_wp2_with (fail)
    go_at_call 51
    refine (builder_int_calls 50 headB50 w.heap.size w.heap.size _ _ (92) (by have:=HC.out;omega) _ HA0.out (qsz (by have:=HL.out;first | omega | (simp;omega))) HB0.out.size).mono ?_
    rintro e_ w1 ⟨rfl,v1,hw⟩
    have HB1:=Aside0.mk (HB0.out.trans hw.below)
    replace hw:=hw.at_
    rw [← nums_app] at hw
    have HA1:=Aside0.mk hw
    clear hw HA0 HB0
    go_wp2_with (fail)
    go_at_call 51
    refine (builder_int_calls 50 headB50 w.heap.size w.heap.size _ _ (c) (by have:=HC.out;omega) _ HA1.out (qsz (by have:=HL.out;first | omega | (simp;omega))) HB1.out.size).mono ?_
    rintro e_ w2 ⟨rfl,v2,hw⟩
    have HB2:=Aside0.mk (HB1.out.trans hw.below)
    replace hw:=hw.at_
    rw [← nums_app] at hw
    have HA2:=Aside0.mk hw
    clear hw HA1 HB1
    go_wp2_with (fail)
    refine ⟨⟨k + 1,v2,by go_num,HLt.out,by rw [HEsc.out];exact HA2.out,HB2.out⟩,?_⟩
    have:=HLt.out
    simp [intOf];omega
   ·by_cases h92:c=92
    ·have hesc:quoteN s (k + 1)=quoteN s k ++ [92] ++ [c]:=by rw [quoteN,HBt.out,escS_q c (.inr h92)];simp
     have HEsc:=Aside0.mk hesc
     have f34:(c == 34)=false:=beq_eq_false_iff_ne.mpr h34
     have f92:(c == 92)=true:=beq_iff_eq.mpr h92
     clear hesc h34 h92
     go_wp2_with (fail)
     go_at_call 51
     refine (builder_int_calls 50 headB50 w.heap.size w.heap.size _ _ (92) (by have:=HC.out;omega) _ HA0.out (qsz (by have:=HL.out;first | omega | (simp;omega))) HB0.out.size).mono ?_
     rintro e_ w1 ⟨rfl,v1,hw⟩
     have HB1:=Aside0.mk (HB0.out.trans hw.below)
     replace hw:=hw.at_
     rw [← nums_app] at hw
     have HA1:=Aside0.mk hw
     clear hw HA0 HB0
     go_wp2_with (fail)
     go_at_call 51
     refine (builder_int_calls 50 headB50 w.heap.size w.heap.size _ _ (c) (by have:=HC.out;omega) _ HA1.out (qsz (by have:=HL.out;first | omega | (simp;omega))) HB1.out.size).mono ?_
     rintro e_ w2 ⟨rfl,v2,hw⟩
     have HB2:=Aside0.mk (HB1.out.trans hw.below)
     replace hw:=hw.at_
     rw [← nums_app] at hw
     have HA2:=Aside0.mk hw
     clear hw HA1 HB1
     go_wp2_with (fail)
     refine ⟨⟨k + 1,v2,by go_num,HLt.out,by rw [HEsc.out];exact HA2.out,HB2.out⟩,?_⟩
     have:=HLt.out
     simp [intOf];omega
    ·by_cases h10:c=10
     ·have hesc:quoteN s (k + 1)=quoteN s k ++ [92,110]:=by rw [quoteN,HBt.out,escS_10 c h10]
      have HEsc:=Aside0.mk hesc
      have f34:(c == 34)=false:=beq_eq_false_iff_ne.mpr h34
      have f92:(c == 92)=false:=beq_eq_false_iff_ne.mpr h92
      have f10:(c == 10)=true:=beq_iff_eq.mpr h10
      clear hesc h34 h92 h10
      go_wp2_with (fail)
      go_at_call 46
      refine (builder_string_calls 50 headB50 w.heap.size w.heap.size _ _ (strOfNums [92,110]) _ HA0.out (qsz2 (by have:=HL.out;first | omega | (simp;omega))) HB0.out.size).mono ?_
      rintro e_ w1 ⟨rfl,v1,hw⟩
      have HB1:=Aside0.mk (HB0.out.trans hw.below)
      replace hw:=hw.at_
      rw [← nums_app] at hw
      have HA1:=Aside0.mk hw
      clear hw HA0 HB0
      go_wp2_with (fail)
      refine ⟨⟨k + 1,v1,by go_num,HLt.out,by rw [HEsc.out];exact HA1.out,HB1.out⟩,?_⟩
      have:=HLt.out
      simp [intOf];omega
     ·by_cases h9:c=9
      ·have hesc:quoteN s (k + 1)=quoteN s k ++ [92,116]:=by rw [quoteN,HBt.out,escS_9 c h9]
       have HEsc:=Aside0.mk hesc
       have f34:(c == 34)=false:=beq_eq_false_iff_ne.mpr h34
       have f92:(c == 92)=false:=beq_eq_false_iff_ne.mpr h92
       have f10:(c == 10)=false:=beq_eq_false_iff_ne.mpr h10
       have f9:(c == 9)=true:=beq_iff_eq.mpr h9
       clear hesc h34 h92 h10 h9
       go_wp2_with (fail)
       go_at_call 46
       refine (builder_string_calls 50 headB50 w.heap.size w.heap.size _ _ (strOfNums [92,116]) _ HA0.out (qsz2 (by have:=HL.out;first | omega | (simp;omega))) HB0.out.size).mono ?_
       rintro e_ w1 ⟨rfl,v1,hw⟩
       have HB1:=Aside0.mk (HB0.out.trans hw.below)
       replace hw:=hw.at_
       rw [← nums_app] at hw
       have HA1:=Aside0.mk hw
       clear hw HA0 HB0
       go_wp2_with (fail)
       refine ⟨⟨k + 1,v1,by go_num,HLt.out,by rw [HEsc.out];exact HA1.out,HB1.out⟩,?_⟩
       have:=HLt.out
       simp [intOf];omega
      ·by_cases h13:c=13
       ·have hesc:quoteN s (k + 1)=quoteN s k ++ [92,114]:=by rw [quoteN,HBt.out,escS_13 c h13]
        have HEsc:=Aside0.mk hesc
        have f34:(c == 34)=false:=beq_eq_false_iff_ne.mpr h34
        have f92:(c == 92)=false:=beq_eq_false_iff_ne.mpr h92
        have f10:(c == 10)=false:=beq_eq_false_iff_ne.mpr h10
        have f9:(c == 9)=false:=beq_eq_false_iff_ne.mpr h9
        have f13:(c == 13)=true:=beq_iff_eq.mpr h13
        clear hesc h34 h92 h10 h9 h13
        go_wp2_with (fail)
        go_at_call 46
        refine (builder_string_calls 50 headB50 w.heap.size w.heap.size _ _ (strOfNums [92,114]) _ HA0.out (qsz2 (by have:=HL.out;first | omega | (simp;omega))) HB0.out.size).mono ?_
        rintro e_ w1 ⟨rfl,v1,hw⟩
        have HB1:=Aside0.mk (HB0.out.trans hw.below)
        replace hw:=hw.at_
        rw [← nums_app] at hw
        have HA1:=Aside0.mk hw
        clear hw HA0 HB0
        go_wp2_with (fail)
        refine ⟨⟨k + 1,v1,by go_num,HLt.out,by rw [HEsc.out];exact HA1.out,HB1.out⟩,?_⟩
        have:=HLt.out
        simp [intOf];omega
       ·by_cases h32:c < 32
        ·have hesc:quoteN s (k + 1)=quoteN s k ++ [92] ++ [48 + c / 64] ++ [48 + c / 8 % 8] ++ [48 + c % 8]:=by rw [quoteN,HBt.out,escS_o c h34 h92 h10 h9 h13 (by omega)];simp
         have HEsc:=Aside0.mk hesc
         have f34:(c == 34)=false:=beq_eq_false_iff_ne.mpr h34
         have f92:(c == 92)=false:=beq_eq_false_iff_ne.mpr h92
         have f10:(c == 10)=false:=beq_eq_false_iff_ne.mpr h10
         have f9:(c == 9)=false:=beq_eq_false_iff_ne.mpr h9
         have f13:(c == 13)=false:=beq_eq_false_iff_ne.mpr h13
         have g1:decide (c < 32)=true:=decide_eq_true h32
         have g3:(c < 32)=True:=eq_true h32
         have o1:(48 + c / 64) % 256=48 + c / 64:=(by have:=HC.out;omega);have o2:(48 + bits BinOp.and IntKind.u8 (c / 8) 7) % 256=48 + c / 8 % 8:=(by have:=HC.out;rw [and7 _ (by omega) (by omega)];omega);have o3:(48 + bits BinOp.and IntKind.u8 c 7) % 256=48 + c % 8:=(by have:=HC.out;rw [and7 _ (by omega) (by omega)];omega)
         clear hesc h34 h92 h10 h9 h13
         go_wp2_with (fail)
         go_at_call 51
         refine (builder_int_calls 50 headB50 w.heap.size w.heap.size _ _ (92) (by have:=HC.out;omega) _ HA0.out (qsz (by have:=HL.out;first | omega | (simp;omega))) HB0.out.size).mono ?_
         rintro e_ w1 ⟨rfl,v1,hw⟩
         have HB1:=Aside0.mk (HB0.out.trans hw.below)
         replace hw:=hw.at_
         rw [← nums_app] at hw
         have HA1:=Aside0.mk hw
         clear hw HA0 HB0
         go_wp2_with (fail)
         go_at_call 51
         refine (builder_int_calls 50 headB50 w.heap.size w.heap.size _ _ (48 + c / 64) (by have:=HC.out;omega) _ HA1.out (qsz (by have:=HL.out;first | omega | (simp;omega))) HB1.out.size).mono ?_
         rintro e_ w2 ⟨rfl,v2,hw⟩
         have HB2:=Aside0.mk (HB1.out.trans hw.below)
         replace hw:=hw.at_
         rw [← nums_app] at hw
         have HA2:=Aside0.mk hw
         clear hw HA1 HB1
         go_wp2_with (fail)
         go_at_call 51
         refine (builder_int_calls 50 headB50 w.heap.size w.heap.size _ _ (48 + c / 8 % 8) (by have:=HC.out;omega) _ HA2.out (qsz (by have:=HL.out;first | omega | (simp;omega))) HB2.out.size).mono ?_
         rintro e_ w3 ⟨rfl,v3,hw⟩
         have HB3:=Aside0.mk (HB2.out.trans hw.below)
         replace hw:=hw.at_
         rw [← nums_app] at hw
         have HA3:=Aside0.mk hw
         clear hw HA2 HB2
         go_wp2_with (fail)
         go_at_call 51
         refine (builder_int_calls 50 headB50 w.heap.size w.heap.size _ _ (48 + c % 8) (by have:=HC.out;omega) _ HA3.out (qsz (by have:=HL.out;first | omega | (simp;omega))) HB3.out.size).mono ?_
         rintro e_ w4 ⟨rfl,v4,hw⟩
         have HB4:=Aside0.mk (HB3.out.trans hw.below)
         replace hw:=hw.at_
         rw [← nums_app] at hw
         have HA4:=Aside0.mk hw
         clear hw HA3 HB3
         go_wp2_with (fail)
         refine ⟨⟨k + 1,v4,by go_num,HLt.out,by rw [HEsc.out];exact HA4.out,HB4.out⟩,?_⟩
         have:=HLt.out
         simp [intOf];omega
        ·by_cases h126:126 < c
         ·have hesc:quoteN s (k + 1)=quoteN s k ++ [92] ++ [48 + c / 64] ++ [48 + c / 8 % 8] ++ [48 + c % 8]:=by rw [quoteN,HBt.out,escS_o c h34 h92 h10 h9 h13 (by omega)];simp
          have HEsc:=Aside0.mk hesc
          have f34:(c == 34)=false:=beq_eq_false_iff_ne.mpr h34
          have f92:(c == 92)=false:=beq_eq_false_iff_ne.mpr h92
          have f10:(c == 10)=false:=beq_eq_false_iff_ne.mpr h10
          have f9:(c == 9)=false:=beq_eq_false_iff_ne.mpr h9
          have f13:(c == 13)=false:=beq_eq_false_iff_ne.mpr h13
          have g1:decide (c < 32)=false:=decide_eq_false h32
          have g2:decide (126 < c)=true:=decide_eq_true h126
          have g3:(c < 32)=False:=eq_false h32
          have g4:(126 < c)=True:=eq_true h126
          have o1:(48 + c / 64) % 256=48 + c / 64:=(by have:=HC.out;omega);have o2:(48 + bits BinOp.and IntKind.u8 (c / 8) 7) % 256=48 + c / 8 % 8:=(by have:=HC.out;rw [and7 _ (by omega) (by omega)];omega);have o3:(48 + bits BinOp.and IntKind.u8 c 7) % 256=48 + c % 8:=(by have:=HC.out;rw [and7 _ (by omega) (by omega)];omega)
          clear hesc h34 h92 h10 h9 h13
          go_wp2_with (fail)
          go_at_call 51
          refine (builder_int_calls 50 headB50 w.heap.size w.heap.size _ _ (92) (by have:=HC.out;omega) _ HA0.out (qsz (by have:=HL.out;first | omega | (simp;omega))) HB0.out.size).mono ?_
          rintro e_ w1 ⟨rfl,v1,hw⟩
          have HB1:=Aside0.mk (HB0.out.trans hw.below)
          replace hw:=hw.at_
          rw [← nums_app] at hw
          have HA1:=Aside0.mk hw
          clear hw HA0 HB0
          go_wp2_with (fail)
          go_at_call 51
          refine (builder_int_calls 50 headB50 w.heap.size w.heap.size _ _ (48 + c / 64) (by have:=HC.out;omega) _ HA1.out (qsz (by have:=HL.out;first | omega | (simp;omega))) HB1.out.size).mono ?_
          rintro e_ w2 ⟨rfl,v2,hw⟩
          have HB2:=Aside0.mk (HB1.out.trans hw.below)
          replace hw:=hw.at_
          rw [← nums_app] at hw
          have HA2:=Aside0.mk hw
          clear hw HA1 HB1
          go_wp2_with (fail)
          go_at_call 51
          refine (builder_int_calls 50 headB50 w.heap.size w.heap.size _ _ (48 + c / 8 % 8) (by have:=HC.out;omega) _ HA2.out (qsz (by have:=HL.out;first | omega | (simp;omega))) HB2.out.size).mono ?_
          rintro e_ w3 ⟨rfl,v3,hw⟩
          have HB3:=Aside0.mk (HB2.out.trans hw.below)
          replace hw:=hw.at_
          rw [← nums_app] at hw
          have HA3:=Aside0.mk hw
          clear hw HA2 HB2
          go_wp2_with (fail)
          go_at_call 51
          refine (builder_int_calls 50 headB50 w.heap.size w.heap.size _ _ (48 + c % 8) (by have:=HC.out;omega) _ HA3.out (qsz (by have:=HL.out;first | omega | (simp;omega))) HB3.out.size).mono ?_
          rintro e_ w4 ⟨rfl,v4,hw⟩
          have HB4:=Aside0.mk (HB3.out.trans hw.below)
          replace hw:=hw.at_
          rw [← nums_app] at hw
          have HA4:=Aside0.mk hw
          clear hw HA3 HB3
          go_wp2_with (fail)
          refine ⟨⟨k + 1,v4,by go_num,HLt.out,by rw [HEsc.out];exact HA4.out,HB4.out⟩,?_⟩
          have:=HLt.out
          simp [intOf];omega
         ·have hesc:quoteN s (k + 1)=quoteN s k ++ [c]:=by rw [quoteN,HBt.out,escS_p c h34 h92 h10 h9 h13 (by omega)]
          have HEsc:=Aside0.mk hesc
          have f34:(c == 34)=false:=beq_eq_false_iff_ne.mpr h34
          have f92:(c == 92)=false:=beq_eq_false_iff_ne.mpr h92
          have f10:(c == 10)=false:=beq_eq_false_iff_ne.mpr h10
          have f9:(c == 9)=false:=beq_eq_false_iff_ne.mpr h9
          have f13:(c == 13)=false:=beq_eq_false_iff_ne.mpr h13
          have g1:decide (c < 32)=false:=decide_eq_false h32
          have g2:decide (126 < c)=false:=decide_eq_false h126
          have g3:(c < 32)=False:=eq_false h32
          have g4:(126 < c)=False:=eq_false h126
          clear hesc h34 h92 h10 h9 h13 h32 h126
          go_wp2_with (fail)
          go_at_call 51
          refine (builder_int_calls 50 headB50 w.heap.size w.heap.size _ _ (c) (by have:=HC.out;omega) _ HA0.out (qsz (by have:=HL.out;first | omega | (simp;omega))) HB0.out.size).mono ?_
          rintro e_ w1 ⟨rfl,v1,hw⟩
          have HB1:=Aside0.mk (HB0.out.trans hw.below)
          replace hw:=hw.at_
          rw [← nums_app] at hw
          have HA1:=Aside0.mk hw
          clear hw HA0 HB0
          go_wp2_with (fail)
          refine ⟨⟨k + 1,v1,by go_num,HLt.out,by rw [HEsc.out];exact HA1.out,HB1.out⟩,?_⟩
          have:=HLt.out
          simp [intOf];omega
  ·have e1:decide ((k:Int) < (s.size:Int))=false:=decide_eq_false (by omega)
   have e2:(k < s.size)=False:=eq_false hlt
   have e3:((k:Int) < (s.size:Int))=False:=eq_false (by omega)
   obtain rfl:k=s.size:=by omega
   have hl:=quoteN_len s s.size
   have hsz:(strOfNums (quoteN s s.size)).size + 1 ≤ 140737488355328:=by rw [nums_size];have:=HS.out;omega
   have HA:=Aside0.mk hA
   have HB:=Aside0.mk hb
   have HSz:=Aside0.mk hsz
   clear hA hb hsz hl hlt hk
   go_wp2_with (fail)
   go_at_call 51
   refine (builder_int_calls 50 headB50 w.heap.size w.heap.size _ _ 34 (by omega) _ HA.out HSz.out HB.out.size).mono ?_
   rintro e_ w2 ⟨rfl,v2,hw⟩
   rw [← nums_app] at hw
   obtain ⟨g,cap,hrd⟩:=hw.at_.rd (by rw [nums_size];simp)
   have HB2:=Aside0.mk (HB.out.trans hw.below)
   have HR2:=Aside0.mk hrd
   clear hw hrd
   go_wp2_with (fail)
   go_at_call 26
   refine (builder_text_calls 50 w.heap.size w.heap.size g cap _ (by rw [nums_size];simp) _ HR2.out).mono ?_
   rintro e_ w3 ⟨rfl,-,hb3⟩
   have HB3:=Aside0.mk (HB2.out.trans hb3)
   clear hb3
   go_wp2_with (fail)
   go_ret
   exact ⟨rfl,HB3.out⟩
end Go.Proofs.YtjapfefiaijfcaaGreatDoor.Q
namespace Go.Proofs.YtjapfefiaijfcaaGreatDoor.Q
open Go.RowKit Go.Proofs.YtjapfefiaijfcaaGreatDoorW.PrintWords Go.Proofs.YtjapfefiaijfcaaGreatDoorW.PrintLast Go.Proofs.YtjapfefiaijfcaaGreatDoorW.PrintMore
set_option linter.unusedVariables false
theorem quote_j1 (s:ByteArray) (l:List Int) (i c:Int) (b:Bool) (k:Nat) (hc:0 ≤ c ∧ c ≤ 255) (hb:b=true ↔ c=34 ∨ c=92) (hl:l.length ≤ 5000000) :
  vouchref14_Quote.j1 (k + 1) s l i c b=vouchref14_Quote.l0 k s (l ++ escS c) (wrap64 (i + 1)):=by
 have d1:Int.tdiv c 64=c / 64:=Int.tdiv_eq_ediv_of_nonneg hc.1
 have d2:Int.tdiv c 8=c / 8:=Int.tdiv_eq_ediv_of_nonneg hc.1
 have d3:Int.tmod c 8=c % 8:=Int.tmod_eq_emod_of_nonneg hc.1
 have m1:(48 + (c / 64) % 256) % 256=48 + c / 64:=by omega
 have m2:48 + ((c / 8) % 256) % 8=48 + c / 8 % 8:=by omega
 have m3:(48 + c % 8) % 256=48 + c % 8:=by omega
 have s2:l.length + 2 < 140737488355328:=by omega
 have s4:l.length + 4 < 140737488355328:=by omega
 have s1:l.length < 140737488355328:=by omega
 unfold vouchref14_Quote.j1 escS
 rw [d1,d2,d3,m1,m2,m3]
 by_cases h:c=34 ∨ c=92
 ·rw [if_pos (hb.2 h),if_pos h]
  simp [s2]
 ·rw [if_neg (fun q=>h (hb.1 q)),if_neg h]
  by_cases h10:c=10
  ·rw [if_pos h10,if_pos h10];simp [s2]
  rw [if_neg h10,if_neg h10]
  by_cases h9:c=9
  ·rw [if_pos h9,if_pos h9];simp [s2]
  rw [if_neg h9,if_neg h9]
  by_cases h13:c=13
  ·rw [if_pos h13,if_pos h13];simp [s2]
  rw [if_neg h13,if_neg h13]
  by_cases h32:c < 32
  ·rw [if_neg (by omega),if_pos (.inl h32)];simp [s4]
  rw [if_pos (by omega)]
  by_cases h126:126 < c
  ·rw [if_neg (by omega),if_pos (.inr h126)];simp [s4]
  rw [if_pos (by omega),if_pos s1,if_neg (by omega)]
theorem quote_l0 (s:ByteArray) (hs:s.size ≤ 1000000):∀ d i k,i + d=s.size → 2 * d + 1 ≤ k → vouchref14_Quote.l0 k s (quoteN s i) (i:Int)=some (quoteS s):=by
 intro d
 induction d with
 | zero =>
  intro i k hi hk
  obtain ⟨k,rfl⟩:∃ k',k=k' + 1:=⟨k - 1,by omega⟩
  obtain rfl:i=s.size:=by omega
  have:=quoteN_len s s.size
  unfold vouchref14_Quote.l0
  rw [if_neg (by omega),if_pos (by omega)]
  rfl
 | succ d ih =>
  intro i k hi hk
  obtain ⟨k,rfl⟩:∃ k',k=k' + 2:=⟨k - 2,by omega⟩
  have hl:=quoteN_len s i
  have hr:=bt_range s (i:Int)
  unfold vouchref14_Quote.l0
  rw [if_pos (by omega),if_pos (by omega)]
  have key:∀ b,(b=true ↔ bt s (i:Int)=34 ∨ bt s (i:Int)=92) → vouchref14_Quote.j1 (k + 1) s (quoteN s i) (i:Int) (bt s (i:Int)) b=some (quoteS s):=by
   intro b hb
   rw [quote_j1 s _ _ _ b k hr hb (by omega),IntWalk.wrap64_in _ (by omega)]
   exact ih (i + 1) k (by omega) (by omega)
  split
  ·next h=>exact key true (by simp [h])
  ·next h=>exact key _ (by simp [h])
theorem quote_some (s:ByteArray) (hs:s.size ≤ 1000000) (k:Nat) (hk:2 * s.size + 1 ≤ k):vouchref14_Quote.f k s=some (quoteS s):=quote_l0 s hs s.size 0 k (by omega) hk
end Go.Proofs.YtjapfefiaijfcaaGreatDoor.Q
