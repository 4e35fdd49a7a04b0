/-
  No cell of these rows narrows 'for every input' (looked for: loops, veiled, ifaces, maps, wideKeys, modest, calm, conditions, laid).
  DERIVED. THE GIVEN ROWS OF THIS SEAT. 4 by the template 'for every input the law returns true; each argument reads behind the call as it read before'; 0 by the template 'total and deterministic' (their statements: YtjmaiihgjghgjaaTotals.lean).
  GIVEN WITH THE SEED: the statements are not yours to turn. If you find one false, say at which input.
  Laid BY PROGRAM, IN A SANDBOX (cutbox-rows.mjs): the forced cells as the released guide's own fill.sh prints them over the translation dd130d4814a87a8b… (all of the seat's roots in one cut). By AI agents, Wed Nov 11 2026. No macro, syntax, notation, axiom, sorry.
-/
import Derived.Test.YtjmaiihgjghgjaaChecked
import GoSem.Claim
import GoSem.ClaimJoined
import GoSem.ClaimMapViews
import Derived.JoinedTies
import Derived.KernelRfl
namespace Go.Proofs.Ytjmaiihgjghgjaa
/- THE CELL 'sum', in the pinned program and in every row, IS THE sha256 OF THE DUMP (.gsa) THAT YtjmaiihgjghgjaaProg.lean LOADS. Nothing in Lean hashes anything: it is a label: what it is worth is what the hold of that sum in a sandbox is worth. -/
noncomputable def Try.pinned : Pinned := { name := "ytjmaiihgjghgjaa", sum := "dd130d4814a87a8bef05c49ab5cc97b04f177c60b293a19ecfd55474a30c66ce", checked := Try.checked }
namespace Rows
def none {H : Type} : Left H := { results := [], args := [] }

/-- 'arbourlaw5.RefsLongest': WHATEVER THE INPUT: true; the input reads as it did. -/
def refsLongestSpec : ChangeSpec := { name := "refsLongest", fn := fun _ => fun
  | [d1, d2] => { results := [.lit (.bool true)], args := [d1, d2] }
  | _ => none }
def refsLongestRow : OpenClaim := { program := "ytjmaiihgjghgjaa", sum := "dd130d4814a87a8bef05c49ab5cc97b04f177c60b293a19ecfd55474a30c66ce", func := "arbour/arbourlaw5.RefsLongest", spec := "refsLongest", apart := false }
def RefsLongestSaid : Prop := refsLongestRow.holds Try.pinned (OpenSpec.ofChange refsLongestSpec)

/-- ITS FALSE NEIGHBOUR: 'it returns false'. Refute it at one input. -/
def refsLongestWrong : ChangeSpec := { name := "refsLongest", fn := fun _ => fun
  | [d1, d2] => { results := [.lit (.bool false)], args := [d1, d2] }
  | _ => none }
def RefsLongestWrongFalsely : Prop := refsLongestRow.holds Try.pinned (OpenSpec.ofChange refsLongestWrong)

/-- 'arbourlaw5.RefsTells': WHATEVER THE INPUT: true; the input reads as it did. -/
def refsTellsSpec : ChangeSpec := { name := "refsTells", fn := fun _ => fun
  | [d1, d2, d3] => { results := [.lit (.bool true)], args := [d1, d2, d3] }
  | _ => none }
def refsTellsRow : OpenClaim := { program := "ytjmaiihgjghgjaa", sum := "dd130d4814a87a8bef05c49ab5cc97b04f177c60b293a19ecfd55474a30c66ce", func := "arbour/arbourlaw5.RefsTells", spec := "refsTells", apart := false }
def RefsTellsSaid : Prop := refsTellsRow.holds Try.pinned (OpenSpec.ofChange refsTellsSpec)

/-- ITS FALSE NEIGHBOUR: 'it returns false'. Refute it at one input. -/
def refsTellsWrong : ChangeSpec := { name := "refsTells", fn := fun _ => fun
  | [d1, d2, d3] => { results := [.lit (.bool false)], args := [d1, d2, d3] }
  | _ => none }
def RefsTellsWrongFalsely : Prop := refsTellsRow.holds Try.pinned (OpenSpec.ofChange refsTellsWrong)

/-- 'arbourlaw5.RefsRunes': WHATEVER THE INPUT: true; the input reads as it did. -/
def refsRunesSpec : ChangeSpec := { name := "refsRunes", fn := fun _ => fun
  | [d] => { results := [.lit (.bool true)], args := [d] }
  | _ => none }
def refsRunesRow : OpenClaim := { program := "ytjmaiihgjghgjaa", sum := "dd130d4814a87a8bef05c49ab5cc97b04f177c60b293a19ecfd55474a30c66ce", func := "arbour/arbourlaw5.RefsRunes", spec := "refsRunes", apart := false }
def RefsRunesSaid : Prop := refsRunesRow.holds Try.pinned (OpenSpec.ofChange refsRunesSpec)

/-- ITS FALSE NEIGHBOUR: 'it returns false'. Refute it at one input. -/
def refsRunesWrong : ChangeSpec := { name := "refsRunes", fn := fun _ => fun
  | [d] => { results := [.lit (.bool false)], args := [d] }
  | _ => none }
def RefsRunesWrongFalsely : Prop := refsRunesRow.holds Try.pinned (OpenSpec.ofChange refsRunesWrong)

/-- 'arbourlaw5.RefsNumbers': WHATEVER THE INPUT: true; the input reads as it did. -/
def refsNumbersSpec : ChangeSpec := { name := "refsNumbers", fn := fun _ => fun
  | [] => { results := [.lit (.bool true)], args := [] }
  | _ => none }
def refsNumbersRow : OpenClaim := { program := "ytjmaiihgjghgjaa", sum := "dd130d4814a87a8bef05c49ab5cc97b04f177c60b293a19ecfd55474a30c66ce", func := "arbour/arbourlaw5.RefsNumbers", spec := "refsNumbers", apart := false }
def RefsNumbersSaid : Prop := refsNumbersRow.holds Try.pinned (OpenSpec.ofChange refsNumbersSpec)

/-- ITS FALSE NEIGHBOUR: 'it returns false'. Refute it at one input. -/
def refsNumbersWrong : ChangeSpec := { name := "refsNumbers", fn := fun _ => fun
  | [] => { results := [.lit (.bool false)], args := [] }
  | _ => none }
def RefsNumbersWrongFalsely : Prop := refsNumbersRow.holds Try.pinned (OpenSpec.ofChange refsNumbersWrong)

/- THE SECOND FORM. 'bulk': how many values and letters a reading holds, each counted each time it is reached (what is shared counts as often as it is met; a slice's spare places count too). A statement '..UptoSaid' is the law's where the arguments, and the package variables that the reading takes, are together of bulk at most 1048576: NARROWER than '..Said'. Prove '..Said' where nothing that the law and all that it calls make is longer than what came in: it says more and counts as full. Else prove '..UptoSaid'. A law counts once. -/
mutual
def uptoBulk {H : Type} : DataW H → Nat
  | .lit (.string bytes) => bytes.length + 1
  | .lit _ => 1
  | .nil => 1
  | .ptr d => uptoBulk d + 1
  | .slice elems spare => uptoBulkAll elems + uptoBulkAll spare + 1
  | .agg parts => uptoBulkAll parts + 1
  | .iface _ d => uptoBulk d + 1
  | .map entries => uptoBulkEntries entries + 1
  | .held _ => 1
def uptoBulkAll {H : Type} : List (DataW H) → Nat
  | [] => 0
  | d :: r => uptoBulk d + uptoBulkAll r
def uptoBulkEntries {H : Type} : List (Lit × DataW H) → Nat
  | [] => 0
  | x :: r => uptoBulkEntry x + uptoBulkEntries r
def uptoBulkEntry {H : Type} : Lit × DataW H → Nat
  | (.string bytes, d) => bytes.length + uptoBulk d + 1
  | (_, d) => uptoBulk d + 1
 end
def uptoSmall : (H : Type) → List (DataW H) → Bool := fun _ ds => decide (uptoBulkAll ds ≤ 1048576)
def OpenSpec.upto (s : _root_.Go.ChangeSpec) : _root_.Go.OpenSpec := { _root_.Go.OpenSpec.ofChange s with cond := some uptoSmall }

/-- 'arbourlaw5.RefsLongest', WHERE WHAT IT READS IS OF BULK AT MOST 1048576: true; the input reads as it did. -/
def refsLongestUptoRow : OpenClaim := { program := "ytjmaiihgjghgjaa", sum := "dd130d4814a87a8bef05c49ab5cc97b04f177c60b293a19ecfd55474a30c66ce", func := "arbour/arbourlaw5.RefsLongest", spec := "refsLongest", apart := false, narrowed := true }
def RefsLongestUptoSaid : Prop := refsLongestUptoRow.holds Try.pinned (OpenSpec.upto refsLongestSpec)

/-- 'arbourlaw5.RefsTells', WHERE WHAT IT READS IS OF BULK AT MOST 1048576: true; the input reads as it did. -/
def refsTellsUptoRow : OpenClaim := { program := "ytjmaiihgjghgjaa", sum := "dd130d4814a87a8bef05c49ab5cc97b04f177c60b293a19ecfd55474a30c66ce", func := "arbour/arbourlaw5.RefsTells", spec := "refsTells", apart := false, narrowed := true }
def RefsTellsUptoSaid : Prop := refsTellsUptoRow.holds Try.pinned (OpenSpec.upto refsTellsSpec)

/-- 'arbourlaw5.RefsRunes', WHERE WHAT IT READS IS OF BULK AT MOST 1048576: true; the input reads as it did. -/
def refsRunesUptoRow : OpenClaim := { program := "ytjmaiihgjghgjaa", sum := "dd130d4814a87a8bef05c49ab5cc97b04f177c60b293a19ecfd55474a30c66ce", func := "arbour/arbourlaw5.RefsRunes", spec := "refsRunes", apart := false, narrowed := true }
def RefsRunesUptoSaid : Prop := refsRunesUptoRow.holds Try.pinned (OpenSpec.upto refsRunesSpec)

/-- 'arbourlaw5.RefsNumbers', WHERE WHAT IT READS IS OF BULK AT MOST 1048576: true; the input reads as it did. -/
def refsNumbersUptoRow : OpenClaim := { program := "ytjmaiihgjghgjaa", sum := "dd130d4814a87a8bef05c49ab5cc97b04f177c60b293a19ecfd55474a30c66ce", func := "arbour/arbourlaw5.RefsNumbers", spec := "refsNumbers", apart := false, narrowed := true }
def RefsNumbersUptoSaid : Prop := refsNumbersUptoRow.holds Try.pinned (OpenSpec.upto refsNumbersSpec)

end Rows
end Go.Proofs.Ytjmaiihgjghgjaa
