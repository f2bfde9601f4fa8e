/- How many parts a tree has; which trees may be. -/
import Derived.Test.YtjapfefiaijfcaaGreatDoorQx0
namespace Go.Proofs.YtjapfefiaijfcaaGreatDoor.Q
open Go.RowKit Go.Proofs.YtjapfefiaijfcaaGreatDoorW.PrintWords Go.Proofs.YtjapfefiaijfcaaGreatDoorW.PrintLast Go.Proofs.YtjapfefiaijfcaaGreatDoorW.PrintMore
set_option linter.unusedVariables false
theorem S24.lt_args (x : S24) : SizeOf.sizeOf x.f3 < SizeOf.sizeOf x := by
  cases x; simp only [S24.mk.sizeOf_spec]; omega
theorem S24.lt_mem {x y : S24} (h : y ∈ x.f3) : SizeOf.sizeOf y < SizeOf.sizeOf x := by
  have := List.sizeOf_lt_of_mem h; have := x.lt_args; omega
/-- how many parts a tree has. -/
def szT (x : S24) : Nat := 1 + (x.f3.attach.map (fun ⟨y, hy⟩ => szT y)).sum
termination_by SizeOf.sizeOf x
decreasing_by exact S24.lt_mem hy
theorem szT_eq (x : S24) : szT x = 1 + (x.f3.map szT).sum := by
  rw [szT]
  congr 2
  simp
theorem szT_pos (x : S24) : 1 ≤ szT x := by rw [szT_eq]; omega
theorem sum_mem {l : List Nat} {n : Nat} (h : n ∈ l) : n ≤ l.sum := by
  induction l with
  | nil => cases h
  | cons a l ih =>
    rw [List.sum_cons]
    rcases List.mem_cons.1 h with rfl | h
    · omega
    · have := ih h; omega
theorem szT_mem {x y : S24} (h : y ∈ x.f3) : szT y < szT x := by
  rw [szT_eq x]
  have := sum_mem (List.mem_map_of_mem (f := szT) h)
  omega
theorem szT_len (x : S24) : x.f3.length < szT x := by
  rw [szT_eq]
  have : ∀ l : List S24, l.length ≤ (l.map szT).sum := fun l => by
    induction l with
    | nil => simp
    | cons a l ih =>
      rw [List.map_cons, List.sum_cons, List.length_cons]
      have := szT_pos a
      omega
  have := this x.f3
  omega
/-- may this part stand, of itself? -/
def headT (op : Int) (t : ByteArray) (k : Int) (n : Nat) : Bool :=
  if op = 1 then k == 0 && decide ((n : Int) = 0) else if op = 2 ∨ op = 3 then t.toList == [] && (k == 0 && decide ((n : Int) = 2)) else if op = 4 then t.toList == [] && (decide (1 ≤ k) && decide (k ≤ (n : Int))) else false
/-- may a tree be? -/
def okT (x : S24) : Bool := headT x.f0 x.f1 x.f2 x.f3.length && x.f3.attach.all (fun ⟨y, hy⟩ => okT y)
termination_by SizeOf.sizeOf x
decreasing_by exact S24.lt_mem hy
theorem okT_eq (x : S24) : okT x = (headT x.f0 x.f1 x.f2 x.f3.length && x.f3.all okT) := by
  rw [okT]
  congr 1
  simp
theorem rd_nat {xs : List S24} {k : Nat} (h : k < xs.length) : rd_T24 xs (k : Int) = xs[k] := by
  simp [rd_T24, h]
def errT (x : S24) : Int := if okT x = true then 0 else 151
end Go.Proofs.YtjapfefiaijfcaaGreatDoor.Q
