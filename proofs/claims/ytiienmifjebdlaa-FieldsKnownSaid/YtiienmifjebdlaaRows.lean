/-
  No cell of these rows narrows 'for every input' (looked for: loops, veiled, ifaces, maps, wideKeys, modest, calm, conditions, laid).
  DERIVED. THE GIVEN ROWS OF THIS SEAT. 8 by the template 'for every input the law returns true; each argument reads behind the call as it read before'; 0 by the template 'total and deterministic' (their statements: YtiienmifjebdlaaTotals.lean).
  GIVEN WITH THE SEED: the statements are not yours to turn. If you find one false, say at which input.
  Laid BY PROGRAM, IN A SANDBOX (cutbox-rows.mjs): the forced cells as the released guide's own fill.sh prints them over the translation 1b7d04f925db0894… (all of the seat's roots in one cut). By AI agents, Wed Nov 11 2026. No macro, syntax, notation, axiom, sorry.
-/
import Derived.Test.YtiienmifjebdlaaChecked
import GoSem.Claim
import GoSem.ClaimJoined
import GoSem.ClaimMapViews
import Derived.JoinedTies
import Derived.KernelRfl
namespace Go.Proofs.Ytiienmifjebdlaa
/- THE CELL 'sum', in the pinned program and in every row, IS THE sha256 OF THE DUMP (.gsa) THAT YtiienmifjebdlaaProg.lean LOADS. Nothing in Lean hashes anything: it is a label: what it is worth is what the hold of that sum in a sandbox is worth. -/
noncomputable def Try.pinned : Pinned := { name := "ytiienmifjebdlaa", sum := "1b7d04f925db0894cb12d1d5c9e3bf7a53a8dd08ee38357d1fcadf146255f24f", checked := Try.checked }
namespace Rows
def none {H : Type} : Left H := { results := [], args := [] }

/-- 'vouchlaw13.FieldsSplits': WHATEVER THE INPUT: true; the input reads as it did. -/
def fieldsSplitsSpec : ChangeSpec := { name := "fieldsSplits", fn := fun _ => fun
  | [d] => { results := [.lit (.bool true)], args := [d] }
  | _ => none }
def fieldsSplitsRow : OpenClaim := { program := "ytiienmifjebdlaa", sum := "1b7d04f925db0894cb12d1d5c9e3bf7a53a8dd08ee38357d1fcadf146255f24f", func := "vouch/vouchlaw13.FieldsSplits", spec := "fieldsSplits", apart := false }
def FieldsSplitsSaid : Prop := fieldsSplitsRow.holds Try.pinned (OpenSpec.ofChange fieldsSplitsSpec)

/-- ITS FALSE NEIGHBOUR: 'it returns false'. Refute it at one input. -/
def fieldsSplitsWrong : ChangeSpec := { name := "fieldsSplits", fn := fun _ => fun
  | [d] => { results := [.lit (.bool false)], args := [d] }
  | _ => none }
def FieldsSplitsWrongFalsely : Prop := fieldsSplitsRow.holds Try.pinned (OpenSpec.ofChange fieldsSplitsWrong)

/-- 'vouchlaw13.FieldsTile': WHATEVER THE INPUT: true; the input reads as it did. -/
def fieldsTileSpec : ChangeSpec := { name := "fieldsTile", fn := fun _ => fun
  | [d] => { results := [.lit (.bool true)], args := [d] }
  | _ => none }
def fieldsTileRow : OpenClaim := { program := "ytiienmifjebdlaa", sum := "1b7d04f925db0894cb12d1d5c9e3bf7a53a8dd08ee38357d1fcadf146255f24f", func := "vouch/vouchlaw13.FieldsTile", spec := "fieldsTile", apart := false }
def FieldsTileSaid : Prop := fieldsTileRow.holds Try.pinned (OpenSpec.ofChange fieldsTileSpec)

/-- ITS FALSE NEIGHBOUR: 'it returns false'. Refute it at one input. -/
def fieldsTileWrong : ChangeSpec := { name := "fieldsTile", fn := fun _ => fun
  | [d] => { results := [.lit (.bool false)], args := [d] }
  | _ => none }
def FieldsTileWrongFalsely : Prop := fieldsTileRow.holds Try.pinned (OpenSpec.ofChange fieldsTileWrong)

/-- 'vouchlaw13.FieldsNames': WHATEVER THE INPUT: true; the input reads as it did. -/
def fieldsNamesSpec : ChangeSpec := { name := "fieldsNames", fn := fun _ => fun
  | [d1, d2] => { results := [.lit (.bool true)], args := [d1, d2] }
  | _ => none }
def fieldsNamesRow : OpenClaim := { program := "ytiienmifjebdlaa", sum := "1b7d04f925db0894cb12d1d5c9e3bf7a53a8dd08ee38357d1fcadf146255f24f", func := "vouch/vouchlaw13.FieldsNames", spec := "fieldsNames", apart := false }
def FieldsNamesSaid : Prop := fieldsNamesRow.holds Try.pinned (OpenSpec.ofChange fieldsNamesSpec)

/-- ITS FALSE NEIGHBOUR: 'it returns false'. Refute it at one input. -/
def fieldsNamesWrong : ChangeSpec := { name := "fieldsNames", fn := fun _ => fun
  | [d1, d2] => { results := [.lit (.bool false)], args := [d1, d2] }
  | _ => none }
def FieldsNamesWrongFalsely : Prop := fieldsNamesRow.holds Try.pinned (OpenSpec.ofChange fieldsNamesWrong)

/-- 'vouchlaw13.FieldsSigned': WHATEVER THE INPUT: true; the input reads as it did. -/
def fieldsSignedSpec : ChangeSpec := { name := "fieldsSigned", fn := fun _ => fun
  | [d1, d2] => { results := [.lit (.bool true)], args := [d1, d2] }
  | _ => none }
def fieldsSignedRow : OpenClaim := { program := "ytiienmifjebdlaa", sum := "1b7d04f925db0894cb12d1d5c9e3bf7a53a8dd08ee38357d1fcadf146255f24f", func := "vouch/vouchlaw13.FieldsSigned", spec := "fieldsSigned", apart := false }
def FieldsSignedSaid : Prop := fieldsSignedRow.holds Try.pinned (OpenSpec.ofChange fieldsSignedSpec)

/-- ITS FALSE NEIGHBOUR: 'it returns false'. Refute it at one input. -/
def fieldsSignedWrong : ChangeSpec := { name := "fieldsSigned", fn := fun _ => fun
  | [d1, d2] => { results := [.lit (.bool false)], args := [d1, d2] }
  | _ => none }
def FieldsSignedWrongFalsely : Prop := fieldsSignedRow.holds Try.pinned (OpenSpec.ofChange fieldsSignedWrong)

/-- 'vouchlaw13.FieldsCase': WHATEVER THE INPUT: true; the input reads as it did. -/
def fieldsCaseSpec : ChangeSpec := { name := "fieldsCase", fn := fun _ => fun
  | [d] => { results := [.lit (.bool true)], args := [d] }
  | _ => none }
def fieldsCaseRow : OpenClaim := { program := "ytiienmifjebdlaa", sum := "1b7d04f925db0894cb12d1d5c9e3bf7a53a8dd08ee38357d1fcadf146255f24f", func := "vouch/vouchlaw13.FieldsCase", spec := "fieldsCase", apart := false }
def FieldsCaseSaid : Prop := fieldsCaseRow.holds Try.pinned (OpenSpec.ofChange fieldsCaseSpec)

/-- ITS FALSE NEIGHBOUR: 'it returns false'. Refute it at one input. -/
def fieldsCaseWrong : ChangeSpec := { name := "fieldsCase", fn := fun _ => fun
  | [d] => { results := [.lit (.bool false)], args := [d] }
  | _ => none }
def FieldsCaseWrongFalsely : Prop := fieldsCaseRow.holds Try.pinned (OpenSpec.ofChange fieldsCaseWrong)

/-- 'vouchlaw13.FieldsMore': WHATEVER THE INPUT: true; the input reads as it did. -/
def fieldsMoreSpec : ChangeSpec := { name := "fieldsMore", fn := fun _ => fun
  | [d1, d2] => { results := [.lit (.bool true)], args := [d1, d2] }
  | _ => none }
def fieldsMoreRow : OpenClaim := { program := "ytiienmifjebdlaa", sum := "1b7d04f925db0894cb12d1d5c9e3bf7a53a8dd08ee38357d1fcadf146255f24f", func := "vouch/vouchlaw13.FieldsMore", spec := "fieldsMore", apart := false }
def FieldsMoreSaid : Prop := fieldsMoreRow.holds Try.pinned (OpenSpec.ofChange fieldsMoreSpec)

/-- ITS FALSE NEIGHBOUR: 'it returns false'. Refute it at one input. -/
def fieldsMoreWrong : ChangeSpec := { name := "fieldsMore", fn := fun _ => fun
  | [d1, d2] => { results := [.lit (.bool false)], args := [d1, d2] }
  | _ => none }
def FieldsMoreWrongFalsely : Prop := fieldsMoreRow.holds Try.pinned (OpenSpec.ofChange fieldsMoreWrong)

/-- 'vouchlaw13.FieldsFinds': WHATEVER THE INPUT: true; the input reads as it did. -/
def fieldsFindsSpec : ChangeSpec := { name := "fieldsFinds", fn := fun _ => fun
  | [d1, d2] => { results := [.lit (.bool true)], args := [d1, d2] }
  | _ => none }
def fieldsFindsRow : OpenClaim := { program := "ytiienmifjebdlaa", sum := "1b7d04f925db0894cb12d1d5c9e3bf7a53a8dd08ee38357d1fcadf146255f24f", func := "vouch/vouchlaw13.FieldsFinds", spec := "fieldsFinds", apart := false }
def FieldsFindsSaid : Prop := fieldsFindsRow.holds Try.pinned (OpenSpec.ofChange fieldsFindsSpec)

/-- ITS FALSE NEIGHBOUR: 'it returns false'. Refute it at one input. -/
def fieldsFindsWrong : ChangeSpec := { name := "fieldsFinds", fn := fun _ => fun
  | [d1, d2] => { results := [.lit (.bool false)], args := [d1, d2] }
  | _ => none }
def FieldsFindsWrongFalsely : Prop := fieldsFindsRow.holds Try.pinned (OpenSpec.ofChange fieldsFindsWrong)

/-- 'vouchlaw13.FieldsKnown': WHATEVER THE INPUT: true; the input reads as it did. -/
def fieldsKnownSpec : ChangeSpec := { name := "fieldsKnown", fn := fun _ => fun
  | [] => { results := [.lit (.bool true)], args := [] }
  | _ => none }
def fieldsKnownRow : OpenClaim := { program := "ytiienmifjebdlaa", sum := "1b7d04f925db0894cb12d1d5c9e3bf7a53a8dd08ee38357d1fcadf146255f24f", func := "vouch/vouchlaw13.FieldsKnown", spec := "fieldsKnown", apart := false }
def FieldsKnownSaid : Prop := fieldsKnownRow.holds Try.pinned (OpenSpec.ofChange fieldsKnownSpec)

/-- ITS FALSE NEIGHBOUR: 'it returns false'. Refute it at one input. -/
def fieldsKnownWrong : ChangeSpec := { name := "fieldsKnown", fn := fun _ => fun
  | [] => { results := [.lit (.bool false)], args := [] }
  | _ => none }
def FieldsKnownWrongFalsely : Prop := fieldsKnownRow.holds Try.pinned (OpenSpec.ofChange fieldsKnownWrong)

/- THE SECOND FORM. 'bulk': how many values and letters a reading holds, each counted each time it is reached (what is shared counts as often as it is met; a slice's spare places count too). A statement '..UptoSaid' is the law's where the arguments, and the package variables that the reading takes, are together of bulk at most 1048576: NARROWER than '..Said'. Prove '..Said' where nothing that the law and all that it calls make is longer than what came in: it says more and counts as full. Else prove '..UptoSaid'. A law counts once. -/
mutual
def uptoBulk {H : Type} : DataW H → Nat
  | .lit (.string bytes) => bytes.length + 1
  | .lit _ => 1
  | .nil => 1
  | .ptr d => uptoBulk d + 1
  | .slice elems spare => uptoBulkAll elems + uptoBulkAll spare + 1
  | .agg parts => uptoBulkAll parts + 1
  | .iface _ d => uptoBulk d + 1
  | .map entries => uptoBulkEntries entries + 1
  | .held _ => 1
def uptoBulkAll {H : Type} : List (DataW H) → Nat
  | [] => 0
  | d :: r => uptoBulk d + uptoBulkAll r
def uptoBulkEntries {H : Type} : List (Lit × DataW H) → Nat
  | [] => 0
  | x :: r => uptoBulkEntry x + uptoBulkEntries r
def uptoBulkEntry {H : Type} : Lit × DataW H → Nat
  | (.string bytes, d) => bytes.length + uptoBulk d + 1
  | (_, d) => uptoBulk d + 1
 end
def uptoSmall : (H : Type) → List (DataW H) → Bool := fun _ ds => decide (uptoBulkAll ds ≤ 1048576)
def OpenSpec.upto (s : _root_.Go.ChangeSpec) : _root_.Go.OpenSpec := { _root_.Go.OpenSpec.ofChange s with cond := some uptoSmall }

/-- 'vouchlaw13.FieldsSplits', WHERE WHAT IT READS IS OF BULK AT MOST 1048576: true; the input reads as it did. -/
def fieldsSplitsUptoRow : OpenClaim := { program := "ytiienmifjebdlaa", sum := "1b7d04f925db0894cb12d1d5c9e3bf7a53a8dd08ee38357d1fcadf146255f24f", func := "vouch/vouchlaw13.FieldsSplits", spec := "fieldsSplits", apart := false, narrowed := true }
def FieldsSplitsUptoSaid : Prop := fieldsSplitsUptoRow.holds Try.pinned (OpenSpec.upto fieldsSplitsSpec)

/-- 'vouchlaw13.FieldsTile', WHERE WHAT IT READS IS OF BULK AT MOST 1048576: true; the input reads as it did. -/
def fieldsTileUptoRow : OpenClaim := { program := "ytiienmifjebdlaa", sum := "1b7d04f925db0894cb12d1d5c9e3bf7a53a8dd08ee38357d1fcadf146255f24f", func := "vouch/vouchlaw13.FieldsTile", spec := "fieldsTile", apart := false, narrowed := true }
def FieldsTileUptoSaid : Prop := fieldsTileUptoRow.holds Try.pinned (OpenSpec.upto fieldsTileSpec)

/-- 'vouchlaw13.FieldsNames', WHERE WHAT IT READS IS OF BULK AT MOST 1048576: true; the input reads as it did. -/
def fieldsNamesUptoRow : OpenClaim := { program := "ytiienmifjebdlaa", sum := "1b7d04f925db0894cb12d1d5c9e3bf7a53a8dd08ee38357d1fcadf146255f24f", func := "vouch/vouchlaw13.FieldsNames", spec := "fieldsNames", apart := false, narrowed := true }
def FieldsNamesUptoSaid : Prop := fieldsNamesUptoRow.holds Try.pinned (OpenSpec.upto fieldsNamesSpec)

/-- 'vouchlaw13.FieldsSigned', WHERE WHAT IT READS IS OF BULK AT MOST 1048576: true; the input reads as it did. -/
def fieldsSignedUptoRow : OpenClaim := { program := "ytiienmifjebdlaa", sum := "1b7d04f925db0894cb12d1d5c9e3bf7a53a8dd08ee38357d1fcadf146255f24f", func := "vouch/vouchlaw13.FieldsSigned", spec := "fieldsSigned", apart := false, narrowed := true }
def FieldsSignedUptoSaid : Prop := fieldsSignedUptoRow.holds Try.pinned (OpenSpec.upto fieldsSignedSpec)

/-- 'vouchlaw13.FieldsCase', WHERE WHAT IT READS IS OF BULK AT MOST 1048576: true; the input reads as it did. -/
def fieldsCaseUptoRow : OpenClaim := { program := "ytiienmifjebdlaa", sum := "1b7d04f925db0894cb12d1d5c9e3bf7a53a8dd08ee38357d1fcadf146255f24f", func := "vouch/vouchlaw13.FieldsCase", spec := "fieldsCase", apart := false, narrowed := true }
def FieldsCaseUptoSaid : Prop := fieldsCaseUptoRow.holds Try.pinned (OpenSpec.upto fieldsCaseSpec)

/-- 'vouchlaw13.FieldsMore', WHERE WHAT IT READS IS OF BULK AT MOST 1048576: true; the input reads as it did. -/
def fieldsMoreUptoRow : OpenClaim := { program := "ytiienmifjebdlaa", sum := "1b7d04f925db0894cb12d1d5c9e3bf7a53a8dd08ee38357d1fcadf146255f24f", func := "vouch/vouchlaw13.FieldsMore", spec := "fieldsMore", apart := false, narrowed := true }
def FieldsMoreUptoSaid : Prop := fieldsMoreUptoRow.holds Try.pinned (OpenSpec.upto fieldsMoreSpec)

/-- 'vouchlaw13.FieldsFinds', WHERE WHAT IT READS IS OF BULK AT MOST 1048576: true; the input reads as it did. -/
def fieldsFindsUptoRow : OpenClaim := { program := "ytiienmifjebdlaa", sum := "1b7d04f925db0894cb12d1d5c9e3bf7a53a8dd08ee38357d1fcadf146255f24f", func := "vouch/vouchlaw13.FieldsFinds", spec := "fieldsFinds", apart := false, narrowed := true }
def FieldsFindsUptoSaid : Prop := fieldsFindsUptoRow.holds Try.pinned (OpenSpec.upto fieldsFindsSpec)

/-- 'vouchlaw13.FieldsKnown', WHERE WHAT IT READS IS OF BULK AT MOST 1048576: true; the input reads as it did. -/
def fieldsKnownUptoRow : OpenClaim := { program := "ytiienmifjebdlaa", sum := "1b7d04f925db0894cb12d1d5c9e3bf7a53a8dd08ee38357d1fcadf146255f24f", func := "vouch/vouchlaw13.FieldsKnown", spec := "fieldsKnown", apart := false, narrowed := true }
def FieldsKnownUptoSaid : Prop := fieldsKnownUptoRow.holds Try.pinned (OpenSpec.upto fieldsKnownSpec)

end Rows
end Go.Proofs.Ytiienmifjebdlaa
