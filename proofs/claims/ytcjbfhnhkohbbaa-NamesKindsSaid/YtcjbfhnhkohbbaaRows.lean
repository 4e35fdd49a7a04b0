/-
  No cell of these rows narrows 'for every input' (looked for: loops, veiled, ifaces, maps, wideKeys, modest, calm, conditions, laid).
  DERIVED. THE GIVEN ROWS OF THIS SEAT. 4 by the template 'for every input the law returns true; each argument reads behind the call as it read before'; 0 by the template 'total and deterministic' (their statements: YtcjbfhnhkohbbaaTotals.lean).
  GIVEN WITH THE SEED: the statements are not yours to turn. If you find one false, say at which input.
  Laid BY PROGRAM, IN A SANDBOX (cutbox-rows.mjs): the forced cells as the released guide's own fill.sh prints them over the translation 0eeb4a3ba6a478bc… (all of the seat's roots in one cut). By AI agents, Wed Nov 11 2026. No macro, syntax, notation, axiom, sorry.
-/
import Derived.Test.YtcjbfhnhkohbbaaChecked
import GoSem.Claim
import GoSem.ClaimJoined
import GoSem.ClaimMapViews
import Derived.JoinedTies
import Derived.KernelRfl
namespace Go.Proofs.Ytcjbfhnhkohbbaa
/- THE CELL 'sum', in the pinned program and in every row, IS THE sha256 OF THE DUMP (.gsa) THAT YtcjbfhnhkohbbaaProg.lean LOADS. Nothing in Lean hashes anything: it is a label: what it is worth is what the hold of that sum in a sandbox is worth. -/
noncomputable def Try.pinned : Pinned := { name := "ytcjbfhnhkohbbaa", sum := "0eeb4a3ba6a478bc7e983fe3e5c3a9408343f606fea19fec8f5f7538e224db13", checked := Try.checked }
namespace Rows
def none {H : Type} : Left H := { results := [], args := [] }

/-- 'arbourlaw6.NamesRaw': WHATEVER THE INPUT: true; the input reads as it did. -/
def namesRawSpec : ChangeSpec := { name := "namesRaw", fn := fun _ => fun
  | [d1, d2] => { results := [.lit (.bool true)], args := [d1, d2] }
  | _ => none }
def namesRawRow : OpenClaim := { program := "ytcjbfhnhkohbbaa", sum := "0eeb4a3ba6a478bc7e983fe3e5c3a9408343f606fea19fec8f5f7538e224db13", func := "arbour/arbourlaw6.NamesRaw", spec := "namesRaw", apart := false }
def NamesRawSaid : Prop := namesRawRow.holds Try.pinned (OpenSpec.ofChange namesRawSpec)

/-- ITS FALSE NEIGHBOUR: 'it returns false'. Refute it at one input. -/
def namesRawWrong : ChangeSpec := { name := "namesRaw", fn := fun _ => fun
  | [d1, d2] => { results := [.lit (.bool false)], args := [d1, d2] }
  | _ => none }
def NamesRawWrongFalsely : Prop := namesRawRow.holds Try.pinned (OpenSpec.ofChange namesRawWrong)

/-- 'arbourlaw6.NamesKinds': WHATEVER THE INPUT: true; the input reads as it did. -/
def namesKindsSpec : ChangeSpec := { name := "namesKinds", fn := fun _ => fun
  | [d1, d2] => { results := [.lit (.bool true)], args := [d1, d2] }
  | _ => none }
def namesKindsRow : OpenClaim := { program := "ytcjbfhnhkohbbaa", sum := "0eeb4a3ba6a478bc7e983fe3e5c3a9408343f606fea19fec8f5f7538e224db13", func := "arbour/arbourlaw6.NamesKinds", spec := "namesKinds", apart := false }
def NamesKindsSaid : Prop := namesKindsRow.holds Try.pinned (OpenSpec.ofChange namesKindsSpec)

/-- ITS FALSE NEIGHBOUR: 'it returns false'. Refute it at one input. -/
def namesKindsWrong : ChangeSpec := { name := "namesKinds", fn := fun _ => fun
  | [d1, d2] => { results := [.lit (.bool false)], args := [d1, d2] }
  | _ => none }
def NamesKindsWrongFalsely : Prop := namesKindsRow.holds Try.pinned (OpenSpec.ofChange namesKindsWrong)

/-- 'arbourlaw6.NamesNumbers': WHATEVER THE INPUT: true; the input reads as it did. -/
def namesNumbersSpec : ChangeSpec := { name := "namesNumbers", fn := fun _ => fun
  | [] => { results := [.lit (.bool true)], args := [] }
  | _ => none }
def namesNumbersRow : OpenClaim := { program := "ytcjbfhnhkohbbaa", sum := "0eeb4a3ba6a478bc7e983fe3e5c3a9408343f606fea19fec8f5f7538e224db13", func := "arbour/arbourlaw6.NamesNumbers", spec := "namesNumbers", apart := false }
def NamesNumbersSaid : Prop := namesNumbersRow.holds Try.pinned (OpenSpec.ofChange namesNumbersSpec)

/-- ITS FALSE NEIGHBOUR: 'it returns false'. Refute it at one input. -/
def namesNumbersWrong : ChangeSpec := { name := "namesNumbers", fn := fun _ => fun
  | [] => { results := [.lit (.bool false)], args := [] }
  | _ => none }
def NamesNumbersWrongFalsely : Prop := namesNumbersRow.holds Try.pinned (OpenSpec.ofChange namesNumbersWrong)

/-- 'arbourlaw6.NamesTells': WHATEVER THE INPUT: true; the input reads as it did. -/
def namesTellsSpec : ChangeSpec := { name := "namesTells", fn := fun _ => fun
  | [d1, d2, d3] => { results := [.lit (.bool true)], args := [d1, d2, d3] }
  | _ => none }
def namesTellsRow : OpenClaim := { program := "ytcjbfhnhkohbbaa", sum := "0eeb4a3ba6a478bc7e983fe3e5c3a9408343f606fea19fec8f5f7538e224db13", func := "arbour/arbourlaw6.NamesTells", spec := "namesTells", apart := false }
def NamesTellsSaid : Prop := namesTellsRow.holds Try.pinned (OpenSpec.ofChange namesTellsSpec)

/-- ITS FALSE NEIGHBOUR: 'it returns false'. Refute it at one input. -/
def namesTellsWrong : ChangeSpec := { name := "namesTells", fn := fun _ => fun
  | [d1, d2, d3] => { results := [.lit (.bool false)], args := [d1, d2, d3] }
  | _ => none }
def NamesTellsWrongFalsely : Prop := namesTellsRow.holds Try.pinned (OpenSpec.ofChange namesTellsWrong)

/- THE SECOND FORM. 'bulk': how many values and letters a reading holds, each counted each time it is reached (what is shared counts as often as it is met; a slice's spare places count too). A statement '..UptoSaid' is the law's where the arguments, and the package variables that the reading takes, are together of bulk at most 1048576: NARROWER than '..Said'. Prove '..Said' where nothing that the law and all that it calls make is longer than what came in: it says more and counts as full. Else prove '..UptoSaid'. A law counts once. -/
mutual
def uptoBulk {H : Type} : DataW H → Nat
  | .lit (.string bytes) => bytes.length + 1
  | .lit _ => 1
  | .nil => 1
  | .ptr d => uptoBulk d + 1
  | .slice elems spare => uptoBulkAll elems + uptoBulkAll spare + 1
  | .agg parts => uptoBulkAll parts + 1
  | .iface _ d => uptoBulk d + 1
  | .map entries => uptoBulkEntries entries + 1
  | .held _ => 1
def uptoBulkAll {H : Type} : List (DataW H) → Nat
  | [] => 0
  | d :: r => uptoBulk d + uptoBulkAll r
def uptoBulkEntries {H : Type} : List (Lit × DataW H) → Nat
  | [] => 0
  | x :: r => uptoBulkEntry x + uptoBulkEntries r
def uptoBulkEntry {H : Type} : Lit × DataW H → Nat
  | (.string bytes, d) => bytes.length + uptoBulk d + 1
  | (_, d) => uptoBulk d + 1
 end
def uptoSmall : (H : Type) → List (DataW H) → Bool := fun _ ds => decide (uptoBulkAll ds ≤ 1048576)
def OpenSpec.upto (s : _root_.Go.ChangeSpec) : _root_.Go.OpenSpec := { _root_.Go.OpenSpec.ofChange s with cond := some uptoSmall }

/-- 'arbourlaw6.NamesRaw', WHERE WHAT IT READS IS OF BULK AT MOST 1048576: true; the input reads as it did. -/
def namesRawUptoRow : OpenClaim := { program := "ytcjbfhnhkohbbaa", sum := "0eeb4a3ba6a478bc7e983fe3e5c3a9408343f606fea19fec8f5f7538e224db13", func := "arbour/arbourlaw6.NamesRaw", spec := "namesRaw", apart := false, narrowed := true }
def NamesRawUptoSaid : Prop := namesRawUptoRow.holds Try.pinned (OpenSpec.upto namesRawSpec)

/-- 'arbourlaw6.NamesKinds', WHERE WHAT IT READS IS OF BULK AT MOST 1048576: true; the input reads as it did. -/
def namesKindsUptoRow : OpenClaim := { program := "ytcjbfhnhkohbbaa", sum := "0eeb4a3ba6a478bc7e983fe3e5c3a9408343f606fea19fec8f5f7538e224db13", func := "arbour/arbourlaw6.NamesKinds", spec := "namesKinds", apart := false, narrowed := true }
def NamesKindsUptoSaid : Prop := namesKindsUptoRow.holds Try.pinned (OpenSpec.upto namesKindsSpec)

/-- 'arbourlaw6.NamesNumbers', WHERE WHAT IT READS IS OF BULK AT MOST 1048576: true; the input reads as it did. -/
def namesNumbersUptoRow : OpenClaim := { program := "ytcjbfhnhkohbbaa", sum := "0eeb4a3ba6a478bc7e983fe3e5c3a9408343f606fea19fec8f5f7538e224db13", func := "arbour/arbourlaw6.NamesNumbers", spec := "namesNumbers", apart := false, narrowed := true }
def NamesNumbersUptoSaid : Prop := namesNumbersUptoRow.holds Try.pinned (OpenSpec.upto namesNumbersSpec)

/-- 'arbourlaw6.NamesTells', WHERE WHAT IT READS IS OF BULK AT MOST 1048576: true; the input reads as it did. -/
def namesTellsUptoRow : OpenClaim := { program := "ytcjbfhnhkohbbaa", sum := "0eeb4a3ba6a478bc7e983fe3e5c3a9408343f606fea19fec8f5f7538e224db13", func := "arbour/arbourlaw6.NamesTells", spec := "namesTells", apart := false, narrowed := true }
def NamesTellsUptoSaid : Prop := namesTellsUptoRow.holds Try.pinned (OpenSpec.upto namesTellsSpec)

end Rows
end Go.Proofs.Ytcjbfhnhkohbbaa
