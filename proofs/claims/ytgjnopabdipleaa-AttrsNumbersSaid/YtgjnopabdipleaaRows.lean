/-
  No cell of these rows narrows 'for every input' (looked for: loops, veiled, ifaces, maps, wideKeys, modest, calm, conditions, laid).
  DERIVED. THE GIVEN ROWS OF THIS SEAT. 4 by the template 'for every input the law returns true; each argument reads behind the call as it read before'; 0 by the template 'total and deterministic' (their statements: YtgjnopabdipleaaTotals.lean).
  GIVEN WITH THE SEED: the statements are not yours to turn. If you find one false, say at which input.
  Laid BY PROGRAM, IN A SANDBOX (cutbox-rows.mjs): the forced cells as the released guide's own fill.sh prints them over the translation b9ba98e15460861d… (all of the seat's roots in one cut). By AI agents, Wed Nov 11 2026. No macro, syntax, notation, axiom, sorry.
-/
import Derived.Test.YtgjnopabdipleaaChecked
import GoSem.Claim
import GoSem.ClaimJoined
import GoSem.ClaimMapViews
import Derived.JoinedTies
import Derived.KernelRfl
namespace Go.Proofs.Ytgjnopabdipleaa
/- THE CELL 'sum', in the pinned program and in every row, IS THE sha256 OF THE DUMP (.gsa) THAT YtgjnopabdipleaaProg.lean LOADS. Nothing in Lean hashes anything: it is a label: what it is worth is what the hold of that sum in a sandbox is worth. -/
noncomputable def Try.pinned : Pinned := { name := "ytgjnopabdipleaa", sum := "b9ba98e15460861dc0c1a210d026b2815858d89ae5adf5e7812c1eeac50d6a42", checked := Try.checked }
namespace Rows
def none {H : Type} : Left H := { results := [], args := [] }

/-- 'arbourlaw7.AttrsMore': WHATEVER THE INPUT: true; the input reads as it did. -/
def attrsMoreSpec : ChangeSpec := { name := "attrsMore", fn := fun _ => fun
  | [d1, d2, d3] => { results := [.lit (.bool true)], args := [d1, d2, d3] }
  | _ => none }
def attrsMoreRow : OpenClaim := { program := "ytgjnopabdipleaa", sum := "b9ba98e15460861dc0c1a210d026b2815858d89ae5adf5e7812c1eeac50d6a42", func := "arbour/arbourlaw7.AttrsMore", spec := "attrsMore", unfollowed := true, recurses := true, apart := false }
def AttrsMoreSaid : Prop := attrsMoreRow.holds Try.pinned (OpenSpec.ofChange attrsMoreSpec)

/-- ITS FALSE NEIGHBOUR: 'it returns false'. Refute it at one input. -/
def attrsMoreWrong : ChangeSpec := { name := "attrsMore", fn := fun _ => fun
  | [d1, d2, d3] => { results := [.lit (.bool false)], args := [d1, d2, d3] }
  | _ => none }
def AttrsMoreWrongFalsely : Prop := attrsMoreRow.holds Try.pinned (OpenSpec.ofChange attrsMoreWrong)

/-- 'arbourlaw7.AttrsForeign': WHATEVER THE INPUT: true; the input reads as it did. -/
def attrsForeignSpec : ChangeSpec := { name := "attrsForeign", fn := fun _ => fun
  | [d] => { results := [.lit (.bool true)], args := [d] }
  | _ => none }
def attrsForeignRow : OpenClaim := { program := "ytgjnopabdipleaa", sum := "b9ba98e15460861dc0c1a210d026b2815858d89ae5adf5e7812c1eeac50d6a42", func := "arbour/arbourlaw7.AttrsForeign", spec := "attrsForeign", unfollowed := true, recurses := true, apart := false }
def AttrsForeignSaid : Prop := attrsForeignRow.holds Try.pinned (OpenSpec.ofChange attrsForeignSpec)

/-- ITS FALSE NEIGHBOUR: 'it returns false'. Refute it at one input. -/
def attrsForeignWrong : ChangeSpec := { name := "attrsForeign", fn := fun _ => fun
  | [d] => { results := [.lit (.bool false)], args := [d] }
  | _ => none }
def AttrsForeignWrongFalsely : Prop := attrsForeignRow.holds Try.pinned (OpenSpec.ofChange attrsForeignWrong)

/-- 'arbourlaw7.AttrsNumbers': WHATEVER THE INPUT: true; the input reads as it did. -/
def attrsNumbersSpec : ChangeSpec := { name := "attrsNumbers", fn := fun _ => fun
  | [] => { results := [.lit (.bool true)], args := [] }
  | _ => none }
def attrsNumbersRow : OpenClaim := { program := "ytgjnopabdipleaa", sum := "b9ba98e15460861dc0c1a210d026b2815858d89ae5adf5e7812c1eeac50d6a42", func := "arbour/arbourlaw7.AttrsNumbers", spec := "attrsNumbers", unfollowed := true, recurses := true, apart := false }
def AttrsNumbersSaid : Prop := attrsNumbersRow.holds Try.pinned (OpenSpec.ofChange attrsNumbersSpec)

/-- ITS FALSE NEIGHBOUR: 'it returns false'. Refute it at one input. -/
def attrsNumbersWrong : ChangeSpec := { name := "attrsNumbers", fn := fun _ => fun
  | [] => { results := [.lit (.bool false)], args := [] }
  | _ => none }
def AttrsNumbersWrongFalsely : Prop := attrsNumbersRow.holds Try.pinned (OpenSpec.ofChange attrsNumbersWrong)

/-- 'arbourlaw7.AttrsTells': WHATEVER THE INPUT: true; the input reads as it did. -/
def attrsTellsSpec : ChangeSpec := { name := "attrsTells", fn := fun _ => fun
  | [d1, d2, d3] => { results := [.lit (.bool true)], args := [d1, d2, d3] }
  | _ => none }
def attrsTellsRow : OpenClaim := { program := "ytgjnopabdipleaa", sum := "b9ba98e15460861dc0c1a210d026b2815858d89ae5adf5e7812c1eeac50d6a42", func := "arbour/arbourlaw7.AttrsTells", spec := "attrsTells", unfollowed := true, recurses := true, apart := false }
def AttrsTellsSaid : Prop := attrsTellsRow.holds Try.pinned (OpenSpec.ofChange attrsTellsSpec)

/-- ITS FALSE NEIGHBOUR: 'it returns false'. Refute it at one input. -/
def attrsTellsWrong : ChangeSpec := { name := "attrsTells", fn := fun _ => fun
  | [d1, d2, d3] => { results := [.lit (.bool false)], args := [d1, d2, d3] }
  | _ => none }
def AttrsTellsWrongFalsely : Prop := attrsTellsRow.holds Try.pinned (OpenSpec.ofChange attrsTellsWrong)

/- THE SECOND FORM. 'bulk': how many values and letters a reading holds, each counted each time it is reached (what is shared counts as often as it is met; a slice's spare places count too). A statement '..UptoSaid' is the law's where the arguments, and the package variables that the reading takes, are together of bulk at most 1048576: NARROWER than '..Said'. Prove '..Said' where nothing that the law and all that it calls make is longer than what came in: it says more and counts as full. Else prove '..UptoSaid'. A law counts once. -/
mutual
def uptoBulk {H : Type} : DataW H → Nat
  | .lit (.string bytes) => bytes.length + 1
  | .lit _ => 1
  | .nil => 1
  | .ptr d => uptoBulk d + 1
  | .slice elems spare => uptoBulkAll elems + uptoBulkAll spare + 1
  | .agg parts => uptoBulkAll parts + 1
  | .iface _ d => uptoBulk d + 1
  | .map entries => uptoBulkEntries entries + 1
  | .held _ => 1
def uptoBulkAll {H : Type} : List (DataW H) → Nat
  | [] => 0
  | d :: r => uptoBulk d + uptoBulkAll r
def uptoBulkEntries {H : Type} : List (Lit × DataW H) → Nat
  | [] => 0
  | x :: r => uptoBulkEntry x + uptoBulkEntries r
def uptoBulkEntry {H : Type} : Lit × DataW H → Nat
  | (.string bytes, d) => bytes.length + uptoBulk d + 1
  | (_, d) => uptoBulk d + 1
 end
def uptoSmall : (H : Type) → List (DataW H) → Bool := fun _ ds => decide (uptoBulkAll ds ≤ 1048576)
def OpenSpec.upto (s : _root_.Go.ChangeSpec) : _root_.Go.OpenSpec := { _root_.Go.OpenSpec.ofChange s with cond := some uptoSmall }

/-- 'arbourlaw7.AttrsMore', WHERE WHAT IT READS IS OF BULK AT MOST 1048576: true; the input reads as it did. -/
def attrsMoreUptoRow : OpenClaim := { program := "ytgjnopabdipleaa", sum := "b9ba98e15460861dc0c1a210d026b2815858d89ae5adf5e7812c1eeac50d6a42", func := "arbour/arbourlaw7.AttrsMore", spec := "attrsMore", unfollowed := true, recurses := true, apart := false, narrowed := true }
def AttrsMoreUptoSaid : Prop := attrsMoreUptoRow.holds Try.pinned (OpenSpec.upto attrsMoreSpec)

/-- 'arbourlaw7.AttrsForeign', WHERE WHAT IT READS IS OF BULK AT MOST 1048576: true; the input reads as it did. -/
def attrsForeignUptoRow : OpenClaim := { program := "ytgjnopabdipleaa", sum := "b9ba98e15460861dc0c1a210d026b2815858d89ae5adf5e7812c1eeac50d6a42", func := "arbour/arbourlaw7.AttrsForeign", spec := "attrsForeign", unfollowed := true, recurses := true, apart := false, narrowed := true }
def AttrsForeignUptoSaid : Prop := attrsForeignUptoRow.holds Try.pinned (OpenSpec.upto attrsForeignSpec)

/-- 'arbourlaw7.AttrsNumbers', WHERE WHAT IT READS IS OF BULK AT MOST 1048576: true; the input reads as it did. -/
def attrsNumbersUptoRow : OpenClaim := { program := "ytgjnopabdipleaa", sum := "b9ba98e15460861dc0c1a210d026b2815858d89ae5adf5e7812c1eeac50d6a42", func := "arbour/arbourlaw7.AttrsNumbers", spec := "attrsNumbers", unfollowed := true, recurses := true, apart := false, narrowed := true }
def AttrsNumbersUptoSaid : Prop := attrsNumbersUptoRow.holds Try.pinned (OpenSpec.upto attrsNumbersSpec)

/-- 'arbourlaw7.AttrsTells', WHERE WHAT IT READS IS OF BULK AT MOST 1048576: true; the input reads as it did. -/
def attrsTellsUptoRow : OpenClaim := { program := "ytgjnopabdipleaa", sum := "b9ba98e15460861dc0c1a210d026b2815858d89ae5adf5e7812c1eeac50d6a42", func := "arbour/arbourlaw7.AttrsTells", spec := "attrsTells", unfollowed := true, recurses := true, apart := false, narrowed := true }
def AttrsTellsUptoSaid : Prop := attrsTellsUptoRow.holds Try.pinned (OpenSpec.upto attrsTellsSpec)

end Rows
end Go.Proofs.Ytgjnopabdipleaa
