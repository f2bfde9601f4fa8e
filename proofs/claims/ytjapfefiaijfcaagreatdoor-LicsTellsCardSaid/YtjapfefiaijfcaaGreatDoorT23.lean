/- The kind of lent trees: each row has a mark behind it. -/
import Derived.Test.YtjapfefiaijfcaaGreatDoorQx0
import Derived.Test.YtjapfefiaijfcaaGreatDoorT0
namespace Go.Proofs.YtjapfefiaijfcaaGreatDoor.Q
open Go.RowKit Go.Proofs.YtjapfefiaijfcaaGreatDoorW.PrintWords Go.Proofs.YtjapfefiaijfcaaGreatDoorW.PrintLast Go.Proofs.YtjapfefiaijfcaaGreatDoorW.PrintMore
set_option linter.unusedVariables false
/-- the mark behind a lent row. -/
def mk77 : List Value := [.int .u8 77, .string ⟨#[]⟩, .int .i64 0, .slice none 0 0]
/-- a part, or the mark. -/
def optk (a : Kd S24) : Kd (Option S24) where
  sz := a.sz
  E := a.E
  K := fun w o cs => match o with | some x => a.K w x cs | none => cs = mk77 ∧ a.sz = 4
  M := fun w base ok o cs => match o with | some x => a.M w base ok x cs | none => cs = mk77 ∧ a.sz = 4
  K_len := by
    rintro w (_ | x) cs h
    · obtain ⟨rfl, h⟩ := h; rw [h]; rfl
    · exact a.K_len h
  K_one := by
    rintro w (_ | x) cs h u hu
    · obtain ⟨rfl, -⟩ := h
      simp [mk77] at hu
      rcases hu with rfl | rfl | rfl | rfl <;> rfl
    · exact a.K_one h u hu
  K_below := by
    rintro w w1 (_ | x) cs hb h
    · exact h
    · exact a.K_below hb h
  K_of_M := by
    rintro w base ok (_ | x) cs h
    · exact h
    · exact a.K_of_M h
  M_mono := by
    rintro w base ok ok' (_ | x) cs hk h
    · exact h
    · exact a.M_mono hk h
  M_bound := by
    rintro w base ok (_ | x) cs h
    · exact h
    · exact a.M_bound h
  M_move := by
    rintro w w1 base ok (_ | x) cs hm h
    · exact h
    · exact a.M_move hm h
  M_lower := by
    rintro w base base' ok (_ | x) cs hb h
    · exact h
    · exact a.M_lower hb h
theorem len_some (xs : List S24) : (xs.map some ++ [none]).length = xs.length + 1 := by simp
/-- a row with the mark behind it. -/
def mslice (a : Kd S24) : Kd (List S24) where
  sz := 1
  E := 24 :: a.E
  K := fun w xs cs => ∃ ad c, cs = [.slice (some ad) xs.length c] ∧ xs.length + 1 ≤ c ∧ (optk a).C w (some ad) (xs.length + 1) (xs.map some ++ [none])
  M := fun w base ok xs cs => ∃ ad c, cs = [.slice (some ad) xs.length c] ∧ (optk a).R 24 w base ok (.slice (some ad) (xs.length + 1) c) (xs.map some ++ [none])
  K_len := by
    rintro w x cs ⟨ad, c, rfl, _⟩
    rfl
  K_one := by
    rintro w x cs ⟨ad, c, rfl, _⟩ u hu
    rw [List.mem_singleton.1 hu]
    rfl
  K_below := by
    rintro w w1 x cs hb ⟨ad, c, rfl, hl, hr⟩
    exact ⟨ad, c, rfl, hl, Kd.C_below hr hb⟩
  K_of_M := by
    rintro w base ok x cs ⟨ad, c, rfl, h⟩
    obtain ⟨hn, hc, hr⟩ := Kd.R_reads' h
    rw [len_some] at hr
    exact ⟨ad, c, rfl, hc, hr⟩
  M_mono := by
    rintro w base ok ok' x cs hok ⟨ad, c, rfl, h⟩
    exact ⟨ad, c, rfl, Kd.R_mono h hok⟩
  M_bound := by
    rintro w base ok x cs ⟨ad, c, rfl, h⟩
    exact ⟨ad, c, rfl, Kd.R_bound h⟩
  M_move := by
    rintro w w1 base ok x cs hm ⟨ad, c, rfl, h⟩
    exact ⟨ad, c, rfl, Kd.R_move h hm⟩
  M_lower := by
    rintro w base base' ok x cs hb ⟨ad, c, rfl, h⟩
    exact ⟨ad, c, rfl, Kd.R_lower h hb⟩
theorem mono_optk {α : Type} {G : Kd α → Kd S24} (hG : Kd.Mono G) : Kd.Mono (fun d => optk (G d)) := by
  refine ⟨hG.sz, ?_, ?_⟩
  · rintro d d' hs h w (_ | x) cs hk
    · exact ⟨hk.1, (hG.sz d d' hs).symm.trans hk.2⟩
    · exact hG.K d d' hs h _ _ _ hk
  · rintro d d' hs h w base ok (_ | x) cs hk
    · exact ⟨hk.1, (hG.sz d d' hs).symm.trans hk.2⟩
    · exact hG.M d d' hs h _ _ _ _ _ hk
theorem mono_mslice {α : Type} {G : Kd α → Kd S24} (hG : Kd.Mono G) : Kd.Mono (fun d => mslice (G d)) := by
  have hO := mono_optk hG
  refine ⟨fun _ _ _ => rfl, ?_, ?_⟩
  · rintro d d' hs h w x cs ⟨ad, c, rfl, hl, hr⟩
    exact ⟨ad, c, rfl, hl, Kd.C_imp (hO.sz d d' hs) (hO.K d d' hs h) hr⟩
  · rintro d d' hs h w base ok x cs ⟨ad, c, rfl, hr⟩
    exact ⟨ad, c, rfl, Kd.R_imp (hO.sz d d' hs) (hO.M d d' hs h) hr⟩
def Fm (d : Kd S24) : Kd S24 := Kd.iso (Kd.pair (Kd.int .u8) (Kd.pair Kd.string (Kd.pair (Kd.int .i64) (mslice d)))) (fun x : S24 => (x.f0, x.f1, x.f2, x.f3))
theorem monoFm : Kd.Mono Fm := Kd.mono_iso _ (Kd.mono_pair (Kd.mono_const _) (Kd.mono_pair (Kd.mono_const _) (Kd.mono_pair (Kd.mono_const _) (mono_mslice Kd.mono_id))))
theorem subFm : Kd.Sub Fm [24] := Kd.sub_iso _ (Kd.sub_pair (Kd.sub_const _ (by decide)) (Kd.sub_pair (Kd.sub_const _ (by decide)) (Kd.sub_pair (Kd.sub_const _ (by decide)) (fun d h q hq => by
  rcases List.mem_cons.1 hq with rfl | hq
  · exact List.mem_singleton.2 rfl
  · exact h q hq))))
theorem szFm : ∀ n, (Kd.upto Fm 4 [24] n).sz = 4 := Kd.upto_sz (fun _ => rfl)
/-- a lent tree: each row has its mark. -/
def km : Kd S24 := Kd.fix Fm 4 [24] szFm (Kd.upto_E subFm)
theorem km_optk_M {w : World} {base : Nat} {ok : Nat → Prop} {p : Option S24} {c : List Value} (h : (optk km).M w base ok p c) : ∃ n, (optk (Kd.upto Fm 4 [24] n)).M w base ok p c := by
  rcases p with _ | x
  · exact ⟨0, h.1, szFm 0⟩
  · obtain ⟨n, hn⟩ := (h : km.M w base ok x c)
    exact ⟨n, hn⟩
theorem optk_M_le {n m : Nat} (hnm : n ≤ m) {w : World} {base : Nat} {ok : Nat → Prop} {p : Option S24} {c : List Value} (h : (optk (Kd.upto Fm 4 [24] n)).M w base ok p c) : (optk (Kd.upto Fm 4 [24] m)).M w base ok p c := by
  rcases p with _ | x
  · exact ⟨h.1, szFm m⟩
  · exact Kd.upto_M_le monoFm szFm hnm h
theorem optk_R_back {w : World} {base : Nat} {ok : Nat → Prop} {v : Value} {xs : List (Option S24)} (h : (optk km).R 24 w base ok v xs) : ∃ n, (optk (Kd.upto Fm 4 [24] n)).R 24 w base ok v xs := by
  obtain ⟨h0, inner, ho, hr⟩ := h
  obtain ⟨N, hN⟩ := Kd.reps_bounded (R := fun n p c => (optk (Kd.upto Fm 4 [24] n)).M w base (fun k => ok k ∧ some k ≠ v.ownBlock) p c) (fun n m p c hnm hp => optk_M_le hnm hp) (hr.imp_ (fun p c hp => km_optk_M hp))
  refine ⟨N, h0, inner, ?_, ?_⟩
  · have : (optk (Kd.upto Fm 4 [24] N)).sz = 4 := szFm N
    rw [this]; exact ho
  · have : (optk (Kd.upto Fm 4 [24] N)).sz = 4 := szFm N
    rw [this]; exact hN
theorem km_mkM (w : World) (base : Nat) (ok : Nat → Prop) (x : S24) {ad : Addr} {c : Nat} (g : (optk km).R 24 w base ok (.slice (some ad) (x.f3.length + 1) c) (x.f3.map some ++ [none])) : km.M w base ok x [.int .u8 x.f0, .string x.f1, .int .i64 x.f2, .slice (some ad) x.f3.length c] := by
  obtain ⟨n, q⟩ := optk_R_back g
  exact ⟨n + 1, [.int .u8 x.f0], [.string x.f1, .int .i64 x.f2, .slice (some ad) x.f3.length c], rfl, rfl, [.string x.f1], [.int .i64 x.f2, .slice (some ad) x.f3.length c], rfl, rfl, [.int .i64 x.f2], [.slice (some ad) x.f3.length c], rfl, rfl, ad, c, rfl, q⟩
theorem optk_C_fix {n : Nat} {w : World} {A : Option Addr} {m : Nat} {xs : List (Option S24)} (h : (optk (Kd.upto Fm 4 [24] n)).C w A m xs) : (optk km).C w A m xs := Kd.C_imp (d' := optk km) (szFm n) (fun w p cs hp => by
  rcases p with _ | x
  · exact ⟨hp.1, rfl⟩
  · exact (⟨n, hp⟩ : ∃ n, (Kd.upto Fm 4 [24] n).K w x cs)) h
theorem km_open {w : World} {x : S24} {cs : List Value} (h : km.K w x cs) : ∃ ad c, cs = [.int .u8 x.f0, .string x.f1, .int .i64 x.f2, .slice (some ad) x.f3.length c] ∧ x.f3.length + 1 ≤ c ∧ (optk km).C w (some ad) (x.f3.length + 1) (x.f3.map some ++ [none]) := by
  obtain ⟨n, h⟩ := h
  cases n with
  | zero => exact h.elim
  | succ n =>
    obtain ⟨_, _, rfl, rfl, ⟨_, _, rfl, rfl, ⟨_, _, rfl, rfl, ⟨ad, c, rfl, l, g⟩⟩⟩⟩ := h
    exact ⟨ad, c, rfl, l, optk_C_fix g⟩
theorem optk_C_k24 {n : Nat} (ih : ∀ w x cs, (Kd.upto Fm 4 [24] n).K w x cs → k24.K w x cs) {w : World} {ad : Addr} {xs : List S24} (h : (optk (Kd.upto Fm 4 [24] n)).C w (some ad) (xs.length + 1) (xs.map some ++ [none])) : k24.C w (some ad) xs.length xs := by
  obtain ⟨h1, h2, h3⟩ := h
  refine ⟨rfl, by omega, fun hp => ?_⟩
  obtain ⟨ad', e, hc⟩ := h3 (by omega)
  refine ⟨ad', e, fun j p hj => ?_⟩
  have hjl := (List.getElem?_eq_some_iff.1 hj).1
  obtain ⟨c, c1, c2, c3⟩ := hc j (some p) (by rw [List.getElem?_append_left (by simpa using hjl), List.getElem?_map, hj]; rfl)
  have hz : (optk (Kd.upto Fm 4 [24] n)).sz = 4 := szFm n
  rw [hz] at c1 c3
  exact ⟨c, c1, ih w p c c2, c3⟩
theorem km_k24_upto (n : Nat) : ∀ w x cs, (Kd.upto Fm 4 [24] n).K w x cs → k24.K w x cs := by
  induction n with
  | zero => exact fun w x cs h => h.elim
  | succ n ih =>
    intro w x cs h
    obtain ⟨_, _, rfl, rfl, ⟨_, _, rfl, rfl, ⟨_, _, rfl, rfl, ⟨ad, c, rfl, l, g⟩⟩⟩⟩ := h
    exact k24_mk w x (Nat.le_of_succ_le l) (optk_C_k24 ih g)
/-- a lent tree is read as any tree. -/
theorem km_k24 {w : World} {x : S24} {cs : List Value} (h : km.K w x cs) : k24.K w x cs := by
  obtain ⟨n, h⟩ := h
  exact km_k24_upto n w x cs h
theorem km_C_k24 {w : World} {ad : Addr} {xs : List S24} (h : (optk km).C w (some ad) (xs.length + 1) (xs.map some ++ [none])) : k24.C w (some ad) xs.length xs := by
  obtain ⟨h1, h2, h3⟩ := h
  refine ⟨rfl, by omega, fun hp => ?_⟩
  obtain ⟨ad', e, hc⟩ := h3 (by omega)
  refine ⟨ad', e, fun j p hj => ?_⟩
  have hjl := (List.getElem?_eq_some_iff.1 hj).1
  obtain ⟨c, c1, c2, c3⟩ := hc j (some p) (by rw [List.getElem?_append_left (by simpa using hjl), List.getElem?_map, hj]; rfl)
  exact ⟨c, c1, km_k24 c2, c3⟩
end Go.Proofs.YtjapfefiaijfcaaGreatDoor.Q
