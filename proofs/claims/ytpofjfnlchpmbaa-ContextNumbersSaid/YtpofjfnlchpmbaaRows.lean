/-
  No cell of these rows narrows 'for every input' (looked for: loops, veiled, ifaces, maps, wideKeys, modest, calm, conditions, laid).
  DERIVED. THE GIVEN ROWS OF THIS SEAT. 3 by the template 'for every input the law returns true; each argument reads behind the call as it read before'; 0 by the template 'total and deterministic' (their statements: YtpofjfnlchpmbaaTotals.lean).
  GIVEN WITH THE SEED: the statements are not yours to turn. If you find one false, say at which input.
  Laid BY PROGRAM, IN A SANDBOX (cutbox-rows.mjs): the forced cells as the released guide's own fill.sh prints them over the translation 74f54bf2752f4304… (all of the seat's roots in one cut). By AI agents, Wed Nov 11 2026. No macro, syntax, notation, axiom, sorry.
-/
import Derived.Test.YtpofjfnlchpmbaaChecked
import GoSem.Claim
import GoSem.ClaimJoined
import GoSem.ClaimMapViews
import Derived.JoinedTies
import Derived.KernelRfl
namespace Go.Proofs.Ytpofjfnlchpmbaa
/- THE CELL 'sum', in the pinned program and in every row, IS THE sha256 OF THE DUMP (.gsa) THAT YtpofjfnlchpmbaaProg.lean LOADS. Nothing in Lean hashes anything: it is a label: what it is worth is what the hold of that sum in a sandbox is worth. -/
noncomputable def Try.pinned : Pinned := { name := "ytpofjfnlchpmbaa", sum := "74f54bf2752f430473104ad2299b3016e1880bbbe1dc3a384d71a3ab4299fed3", checked := Try.checked }
namespace Rows
def none {H : Type} : Left H := { results := [], args := [] }

/-- 'arbourlaw20.ContextLexers': WHATEVER THE INPUT: true; the input reads as it did. -/
def contextLexersSpec : ChangeSpec := { name := "contextLexers", fn := fun _ => fun
  | [d1, d2, d3] => { results := [.lit (.bool true)], args := [d1, d2, d3] }
  | _ => none }
def contextLexersRow : OpenClaim := { program := "ytpofjfnlchpmbaa", sum := "74f54bf2752f430473104ad2299b3016e1880bbbe1dc3a384d71a3ab4299fed3", func := "arbour/arbourlaw20.ContextLexers", spec := "contextLexers", apart := false }
def ContextLexersSaid : Prop := contextLexersRow.holds Try.pinned (OpenSpec.ofChange contextLexersSpec)

/-- ITS FALSE NEIGHBOUR: 'it returns false'. Refute it at one input. -/
def contextLexersWrong : ChangeSpec := { name := "contextLexers", fn := fun _ => fun
  | [d1, d2, d3] => { results := [.lit (.bool false)], args := [d1, d2, d3] }
  | _ => none }
def ContextLexersWrongFalsely : Prop := contextLexersRow.holds Try.pinned (OpenSpec.ofChange contextLexersWrong)

/-- 'arbourlaw20.ContextTells': WHATEVER THE INPUT: true; the input reads as it did. -/
def contextTellsSpec : ChangeSpec := { name := "contextTells", fn := fun _ => fun
  | [d1, d2, d3, d4, d5] => { results := [.lit (.bool true)], args := [d1, d2, d3, d4, d5] }
  | _ => none }
def contextTellsRow : OpenClaim := { program := "ytpofjfnlchpmbaa", sum := "74f54bf2752f430473104ad2299b3016e1880bbbe1dc3a384d71a3ab4299fed3", func := "arbour/arbourlaw20.ContextTells", spec := "contextTells", unfollowed := true, recurses := true, apart := false }
def ContextTellsSaid : Prop := contextTellsRow.holds Try.pinned (OpenSpec.ofChange contextTellsSpec)

/-- ITS FALSE NEIGHBOUR: 'it returns false'. Refute it at one input. -/
def contextTellsWrong : ChangeSpec := { name := "contextTells", fn := fun _ => fun
  | [d1, d2, d3, d4, d5] => { results := [.lit (.bool false)], args := [d1, d2, d3, d4, d5] }
  | _ => none }
def ContextTellsWrongFalsely : Prop := contextTellsRow.holds Try.pinned (OpenSpec.ofChange contextTellsWrong)

/-- 'arbourlaw20.ContextNumbers': WHATEVER THE INPUT: true; the input reads as it did. -/
def contextNumbersSpec : ChangeSpec := { name := "contextNumbers", fn := fun _ => fun
  | [] => { results := [.lit (.bool true)], args := [] }
  | _ => none }
def contextNumbersRow : OpenClaim := { program := "ytpofjfnlchpmbaa", sum := "74f54bf2752f430473104ad2299b3016e1880bbbe1dc3a384d71a3ab4299fed3", func := "arbour/arbourlaw20.ContextNumbers", spec := "contextNumbers", unfollowed := true, recurses := true, apart := false }
def ContextNumbersSaid : Prop := contextNumbersRow.holds Try.pinned (OpenSpec.ofChange contextNumbersSpec)

/-- ITS FALSE NEIGHBOUR: 'it returns false'. Refute it at one input. -/
def contextNumbersWrong : ChangeSpec := { name := "contextNumbers", fn := fun _ => fun
  | [] => { results := [.lit (.bool false)], args := [] }
  | _ => none }
def ContextNumbersWrongFalsely : Prop := contextNumbersRow.holds Try.pinned (OpenSpec.ofChange contextNumbersWrong)

/- THE SECOND FORM. 'bulk': how many values and letters a reading holds, each counted each time it is reached (what is shared counts as often as it is met; a slice's spare places count too). A statement '..UptoSaid' is the law's where the arguments, and the package variables that the reading takes, are together of bulk at most 1048576: NARROWER than '..Said'. Prove '..Said' where nothing that the law and all that it calls make is longer than what came in: it says more and counts as full. Else prove '..UptoSaid'. A law counts once. -/
mutual
def uptoBulk {H : Type} : DataW H → Nat
  | .lit (.string bytes) => bytes.length + 1
  | .lit _ => 1
  | .nil => 1
  | .ptr d => uptoBulk d + 1
  | .slice elems spare => uptoBulkAll elems + uptoBulkAll spare + 1
  | .agg parts => uptoBulkAll parts + 1
  | .iface _ d => uptoBulk d + 1
  | .map entries => uptoBulkEntries entries + 1
  | .held _ => 1
def uptoBulkAll {H : Type} : List (DataW H) → Nat
  | [] => 0
  | d :: r => uptoBulk d + uptoBulkAll r
def uptoBulkEntries {H : Type} : List (Lit × DataW H) → Nat
  | [] => 0
  | x :: r => uptoBulkEntry x + uptoBulkEntries r
def uptoBulkEntry {H : Type} : Lit × DataW H → Nat
  | (.string bytes, d) => bytes.length + uptoBulk d + 1
  | (_, d) => uptoBulk d + 1
 end
def uptoSmall : (H : Type) → List (DataW H) → Bool := fun _ ds => decide (uptoBulkAll ds ≤ 1048576)
def OpenSpec.upto (s : _root_.Go.ChangeSpec) : _root_.Go.OpenSpec := { _root_.Go.OpenSpec.ofChange s with cond := some uptoSmall }

/-- 'arbourlaw20.ContextLexers', WHERE WHAT IT READS IS OF BULK AT MOST 1048576: true; the input reads as it did. -/
def contextLexersUptoRow : OpenClaim := { program := "ytpofjfnlchpmbaa", sum := "74f54bf2752f430473104ad2299b3016e1880bbbe1dc3a384d71a3ab4299fed3", func := "arbour/arbourlaw20.ContextLexers", spec := "contextLexers", apart := false, narrowed := true }
def ContextLexersUptoSaid : Prop := contextLexersUptoRow.holds Try.pinned (OpenSpec.upto contextLexersSpec)

/-- 'arbourlaw20.ContextTells', WHERE WHAT IT READS IS OF BULK AT MOST 1048576: true; the input reads as it did. -/
def contextTellsUptoRow : OpenClaim := { program := "ytpofjfnlchpmbaa", sum := "74f54bf2752f430473104ad2299b3016e1880bbbe1dc3a384d71a3ab4299fed3", func := "arbour/arbourlaw20.ContextTells", spec := "contextTells", unfollowed := true, recurses := true, apart := false, narrowed := true }
def ContextTellsUptoSaid : Prop := contextTellsUptoRow.holds Try.pinned (OpenSpec.upto contextTellsSpec)

/-- 'arbourlaw20.ContextNumbers', WHERE WHAT IT READS IS OF BULK AT MOST 1048576: true; the input reads as it did. -/
def contextNumbersUptoRow : OpenClaim := { program := "ytpofjfnlchpmbaa", sum := "74f54bf2752f430473104ad2299b3016e1880bbbe1dc3a384d71a3ab4299fed3", func := "arbour/arbourlaw20.ContextNumbers", spec := "contextNumbers", unfollowed := true, recurses := true, apart := false, narrowed := true }
def ContextNumbersUptoSaid : Prop := contextNumbersUptoRow.holds Try.pinned (OpenSpec.upto contextNumbersSpec)

end Rows
end Go.Proofs.Ytpofjfnlchpmbaa
