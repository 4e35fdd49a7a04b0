/-
  No cell of these rows narrows 'for every input' (looked for: loops, veiled, ifaces, maps, wideKeys, modest, calm, conditions, laid).
  DERIVED. THE GIVEN ROWS OF THIS SEAT. 8 by the template 'for every input the law returns true; each argument reads behind the call as it read before'; 0 by the template 'total and deterministic' (their statements: YtjebpaapkmbahaaTotals.lean).
  GIVEN WITH THE SEED: the statements are not yours to turn. If you find one false, say at which input.
  Laid BY PROGRAM, IN A SANDBOX (cutbox-rows.mjs): the forced cells as the released guide's own fill.sh prints them over the translation 1d703a2962f25033… (all of the seat's roots in one cut). By AI agents, Wed Nov 11 2026. No macro, syntax, notation, axiom, sorry.
-/
import Derived.Test.YtjebpaapkmbahaaChecked
import GoSem.Claim
import GoSem.ClaimJoined
import GoSem.ClaimMapViews
import Derived.JoinedTies
import Derived.KernelRfl
namespace Go.Proofs.Ytjebpaapkmbahaa
/- THE CELL 'sum', in the pinned program and in every row, IS THE sha256 OF THE DUMP (.gsa) THAT YtjebpaapkmbahaaProg.lean LOADS. Nothing in Lean hashes anything: it is a label: what it is worth is what the hold of that sum in a sandbox is worth. -/
noncomputable def Try.pinned : Pinned := { name := "ytjebpaapkmbahaa", sum := "1d703a2962f25033283fedd62072d49b46d019b27edc214780eca24d91fd76b0", checked := Try.checked }
namespace Rows
def none {H : Type} : Left H := { results := [], args := [] }

/-- 'arbourlaw15.ArenaTexts': WHATEVER THE INPUT: true; the input reads as it did. -/
def arenaTextsSpec : ChangeSpec := { name := "arenaTexts", fn := fun _ => fun
  | [d1, d2] => { results := [.lit (.bool true)], args := [d1, d2] }
  | _ => none }
def arenaTextsRow : OpenClaim := { program := "ytjebpaapkmbahaa", sum := "1d703a2962f25033283fedd62072d49b46d019b27edc214780eca24d91fd76b0", func := "arbour/arbourlaw15.ArenaTexts", spec := "arenaTexts", unfollowed := true, recurses := true, apart := false }
def ArenaTextsSaid : Prop := arenaTextsRow.holds Try.pinned (OpenSpec.ofChange arenaTextsSpec)

/-- ITS FALSE NEIGHBOUR: 'it returns false'. Refute it at one input. -/
def arenaTextsWrong : ChangeSpec := { name := "arenaTexts", fn := fun _ => fun
  | [d1, d2] => { results := [.lit (.bool false)], args := [d1, d2] }
  | _ => none }
def ArenaTextsWrongFalsely : Prop := arenaTextsRow.holds Try.pinned (OpenSpec.ofChange arenaTextsWrong)

/-- 'arbourlaw15.ArenaLinks': WHATEVER THE INPUT: true; the input reads as it did. -/
def arenaLinksSpec : ChangeSpec := { name := "arenaLinks", fn := fun _ => fun
  | [d] => { results := [.lit (.bool true)], args := [d] }
  | _ => none }
def arenaLinksRow : OpenClaim := { program := "ytjebpaapkmbahaa", sum := "1d703a2962f25033283fedd62072d49b46d019b27edc214780eca24d91fd76b0", func := "arbour/arbourlaw15.ArenaLinks", spec := "arenaLinks", unfollowed := true, recurses := true, apart := false }
def ArenaLinksSaid : Prop := arenaLinksRow.holds Try.pinned (OpenSpec.ofChange arenaLinksSpec)

/-- ITS FALSE NEIGHBOUR: 'it returns false'. Refute it at one input. -/
def arenaLinksWrong : ChangeSpec := { name := "arenaLinks", fn := fun _ => fun
  | [d] => { results := [.lit (.bool false)], args := [d] }
  | _ => none }
def ArenaLinksWrongFalsely : Prop := arenaLinksRow.holds Try.pinned (OpenSpec.ofChange arenaLinksWrong)

/-- 'arbourlaw15.ArenaPlays': WHATEVER THE INPUT: true; the input reads as it did. -/
def arenaPlaysSpec : ChangeSpec := { name := "arenaPlays", fn := fun _ => fun
  | [d] => { results := [.lit (.bool true)], args := [d] }
  | _ => none }
def arenaPlaysRow : OpenClaim := { program := "ytjebpaapkmbahaa", sum := "1d703a2962f25033283fedd62072d49b46d019b27edc214780eca24d91fd76b0", func := "arbour/arbourlaw15.ArenaPlays", spec := "arenaPlays", unfollowed := true, recurses := true, apart := false }
def ArenaPlaysSaid : Prop := arenaPlaysRow.holds Try.pinned (OpenSpec.ofChange arenaPlaysSpec)

/-- ITS FALSE NEIGHBOUR: 'it returns false'. Refute it at one input. -/
def arenaPlaysWrong : ChangeSpec := { name := "arenaPlays", fn := fun _ => fun
  | [d] => { results := [.lit (.bool false)], args := [d] }
  | _ => none }
def ArenaPlaysWrongFalsely : Prop := arenaPlaysRow.holds Try.pinned (OpenSpec.ofChange arenaPlaysWrong)

/-- 'arbourlaw15.ArenaMoves': WHATEVER THE INPUT: true; the input reads as it did. -/
def arenaMovesSpec : ChangeSpec := { name := "arenaMoves", fn := fun _ => fun
  | [d1, d2, d3] => { results := [.lit (.bool true)], args := [d1, d2, d3] }
  | _ => none }
def arenaMovesRow : OpenClaim := { program := "ytjebpaapkmbahaa", sum := "1d703a2962f25033283fedd62072d49b46d019b27edc214780eca24d91fd76b0", func := "arbour/arbourlaw15.ArenaMoves", spec := "arenaMoves", unfollowed := true, recurses := true, apart := false }
def ArenaMovesSaid : Prop := arenaMovesRow.holds Try.pinned (OpenSpec.ofChange arenaMovesSpec)

/-- ITS FALSE NEIGHBOUR: 'it returns false'. Refute it at one input. -/
def arenaMovesWrong : ChangeSpec := { name := "arenaMoves", fn := fun _ => fun
  | [d1, d2, d3] => { results := [.lit (.bool false)], args := [d1, d2, d3] }
  | _ => none }
def ArenaMovesWrongFalsely : Prop := arenaMovesRow.holds Try.pinned (OpenSpec.ofChange arenaMovesWrong)

/-- 'arbourlaw15.ArenaRefused': WHATEVER THE INPUT: true; the input reads as it did. -/
def arenaRefusedSpec : ChangeSpec := { name := "arenaRefused", fn := fun _ => fun
  | [d] => { results := [.lit (.bool true)], args := [d] }
  | _ => none }
def arenaRefusedRow : OpenClaim := { program := "ytjebpaapkmbahaa", sum := "1d703a2962f25033283fedd62072d49b46d019b27edc214780eca24d91fd76b0", func := "arbour/arbourlaw15.ArenaRefused", spec := "arenaRefused", unfollowed := true, recurses := true, apart := false }
def ArenaRefusedSaid : Prop := arenaRefusedRow.holds Try.pinned (OpenSpec.ofChange arenaRefusedSpec)

/-- ITS FALSE NEIGHBOUR: 'it returns false'. Refute it at one input. -/
def arenaRefusedWrong : ChangeSpec := { name := "arenaRefused", fn := fun _ => fun
  | [d] => { results := [.lit (.bool false)], args := [d] }
  | _ => none }
def ArenaRefusedWrongFalsely : Prop := arenaRefusedRow.holds Try.pinned (OpenSpec.ofChange arenaRefusedWrong)

/-- 'arbourlaw15.ArenaPlaces': WHATEVER THE INPUT: true; the input reads as it did. -/
def arenaPlacesSpec : ChangeSpec := { name := "arenaPlaces", fn := fun _ => fun
  | [d1, d2, d3] => { results := [.lit (.bool true)], args := [d1, d2, d3] }
  | _ => none }
def arenaPlacesRow : OpenClaim := { program := "ytjebpaapkmbahaa", sum := "1d703a2962f25033283fedd62072d49b46d019b27edc214780eca24d91fd76b0", func := "arbour/arbourlaw15.ArenaPlaces", spec := "arenaPlaces", unfollowed := true, recurses := true, apart := false }
def ArenaPlacesSaid : Prop := arenaPlacesRow.holds Try.pinned (OpenSpec.ofChange arenaPlacesSpec)

/-- ITS FALSE NEIGHBOUR: 'it returns false'. Refute it at one input. -/
def arenaPlacesWrong : ChangeSpec := { name := "arenaPlaces", fn := fun _ => fun
  | [d1, d2, d3] => { results := [.lit (.bool false)], args := [d1, d2, d3] }
  | _ => none }
def ArenaPlacesWrongFalsely : Prop := arenaPlacesRow.holds Try.pinned (OpenSpec.ofChange arenaPlacesWrong)

/-- 'arbourlaw15.ArenaNumbers': WHATEVER THE INPUT: true; the input reads as it did. -/
def arenaNumbersSpec : ChangeSpec := { name := "arenaNumbers", fn := fun _ => fun
  | [] => { results := [.lit (.bool true)], args := [] }
  | _ => none }
def arenaNumbersRow : OpenClaim := { program := "ytjebpaapkmbahaa", sum := "1d703a2962f25033283fedd62072d49b46d019b27edc214780eca24d91fd76b0", func := "arbour/arbourlaw15.ArenaNumbers", spec := "arenaNumbers", unfollowed := true, recurses := true, apart := false }
def ArenaNumbersSaid : Prop := arenaNumbersRow.holds Try.pinned (OpenSpec.ofChange arenaNumbersSpec)

/-- ITS FALSE NEIGHBOUR: 'it returns false'. Refute it at one input. -/
def arenaNumbersWrong : ChangeSpec := { name := "arenaNumbers", fn := fun _ => fun
  | [] => { results := [.lit (.bool false)], args := [] }
  | _ => none }
def ArenaNumbersWrongFalsely : Prop := arenaNumbersRow.holds Try.pinned (OpenSpec.ofChange arenaNumbersWrong)

/-- 'arbourlaw15.ArenaBack': WHATEVER THE INPUT: true; the input reads as it did. -/
def arenaBackSpec : ChangeSpec := { name := "arenaBack", fn := fun _ => fun
  | [d] => { results := [.lit (.bool true)], args := [d] }
  | _ => none }
def arenaBackRow : OpenClaim := { program := "ytjebpaapkmbahaa", sum := "1d703a2962f25033283fedd62072d49b46d019b27edc214780eca24d91fd76b0", func := "arbour/arbourlaw15.ArenaBack", spec := "arenaBack", unfollowed := true, recurses := true, apart := false }
def ArenaBackSaid : Prop := arenaBackRow.holds Try.pinned (OpenSpec.ofChange arenaBackSpec)

/-- ITS FALSE NEIGHBOUR: 'it returns false'. Refute it at one input. -/
def arenaBackWrong : ChangeSpec := { name := "arenaBack", fn := fun _ => fun
  | [d] => { results := [.lit (.bool false)], args := [d] }
  | _ => none }
def ArenaBackWrongFalsely : Prop := arenaBackRow.holds Try.pinned (OpenSpec.ofChange arenaBackWrong)

/- THE SECOND FORM. 'bulk': how many values and letters a reading holds, each counted each time it is reached (what is shared counts as often as it is met; a slice's spare places count too). A statement '..UptoSaid' is the law's where the arguments, and the package variables that the reading takes, are together of bulk at most 1048576: NARROWER than '..Said'. Prove '..Said' where nothing that the law and all that it calls make is longer than what came in: it says more and counts as full. Else prove '..UptoSaid'. A law counts once. -/
mutual
def uptoBulk {H : Type} : DataW H → Nat
  | .lit (.string bytes) => bytes.length + 1
  | .lit _ => 1
  | .nil => 1
  | .ptr d => uptoBulk d + 1
  | .slice elems spare => uptoBulkAll elems + uptoBulkAll spare + 1
  | .agg parts => uptoBulkAll parts + 1
  | .iface _ d => uptoBulk d + 1
  | .map entries => uptoBulkEntries entries + 1
  | .held _ => 1
def uptoBulkAll {H : Type} : List (DataW H) → Nat
  | [] => 0
  | d :: r => uptoBulk d + uptoBulkAll r
def uptoBulkEntries {H : Type} : List (Lit × DataW H) → Nat
  | [] => 0
  | x :: r => uptoBulkEntry x + uptoBulkEntries r
def uptoBulkEntry {H : Type} : Lit × DataW H → Nat
  | (.string bytes, d) => bytes.length + uptoBulk d + 1
  | (_, d) => uptoBulk d + 1
 end
def uptoSmall : (H : Type) → List (DataW H) → Bool := fun _ ds => decide (uptoBulkAll ds ≤ 1048576)
def OpenSpec.upto (s : _root_.Go.ChangeSpec) : _root_.Go.OpenSpec := { _root_.Go.OpenSpec.ofChange s with cond := some uptoSmall }

/-- 'arbourlaw15.ArenaTexts', WHERE WHAT IT READS IS OF BULK AT MOST 1048576: true; the input reads as it did. -/
def arenaTextsUptoRow : OpenClaim := { program := "ytjebpaapkmbahaa", sum := "1d703a2962f25033283fedd62072d49b46d019b27edc214780eca24d91fd76b0", func := "arbour/arbourlaw15.ArenaTexts", spec := "arenaTexts", unfollowed := true, recurses := true, apart := false, narrowed := true }
def ArenaTextsUptoSaid : Prop := arenaTextsUptoRow.holds Try.pinned (OpenSpec.upto arenaTextsSpec)

/-- 'arbourlaw15.ArenaLinks', WHERE WHAT IT READS IS OF BULK AT MOST 1048576: true; the input reads as it did. -/
def arenaLinksUptoRow : OpenClaim := { program := "ytjebpaapkmbahaa", sum := "1d703a2962f25033283fedd62072d49b46d019b27edc214780eca24d91fd76b0", func := "arbour/arbourlaw15.ArenaLinks", spec := "arenaLinks", unfollowed := true, recurses := true, apart := false, narrowed := true }
def ArenaLinksUptoSaid : Prop := arenaLinksUptoRow.holds Try.pinned (OpenSpec.upto arenaLinksSpec)

/-- 'arbourlaw15.ArenaPlays', WHERE WHAT IT READS IS OF BULK AT MOST 1048576: true; the input reads as it did. -/
def arenaPlaysUptoRow : OpenClaim := { program := "ytjebpaapkmbahaa", sum := "1d703a2962f25033283fedd62072d49b46d019b27edc214780eca24d91fd76b0", func := "arbour/arbourlaw15.ArenaPlays", spec := "arenaPlays", unfollowed := true, recurses := true, apart := false, narrowed := true }
def ArenaPlaysUptoSaid : Prop := arenaPlaysUptoRow.holds Try.pinned (OpenSpec.upto arenaPlaysSpec)

/-- 'arbourlaw15.ArenaMoves', WHERE WHAT IT READS IS OF BULK AT MOST 1048576: true; the input reads as it did. -/
def arenaMovesUptoRow : OpenClaim := { program := "ytjebpaapkmbahaa", sum := "1d703a2962f25033283fedd62072d49b46d019b27edc214780eca24d91fd76b0", func := "arbour/arbourlaw15.ArenaMoves", spec := "arenaMoves", unfollowed := true, recurses := true, apart := false, narrowed := true }
def ArenaMovesUptoSaid : Prop := arenaMovesUptoRow.holds Try.pinned (OpenSpec.upto arenaMovesSpec)

/-- 'arbourlaw15.ArenaRefused', WHERE WHAT IT READS IS OF BULK AT MOST 1048576: true; the input reads as it did. -/
def arenaRefusedUptoRow : OpenClaim := { program := "ytjebpaapkmbahaa", sum := "1d703a2962f25033283fedd62072d49b46d019b27edc214780eca24d91fd76b0", func := "arbour/arbourlaw15.ArenaRefused", spec := "arenaRefused", unfollowed := true, recurses := true, apart := false, narrowed := true }
def ArenaRefusedUptoSaid : Prop := arenaRefusedUptoRow.holds Try.pinned (OpenSpec.upto arenaRefusedSpec)

/-- 'arbourlaw15.ArenaPlaces', WHERE WHAT IT READS IS OF BULK AT MOST 1048576: true; the input reads as it did. -/
def arenaPlacesUptoRow : OpenClaim := { program := "ytjebpaapkmbahaa", sum := "1d703a2962f25033283fedd62072d49b46d019b27edc214780eca24d91fd76b0", func := "arbour/arbourlaw15.ArenaPlaces", spec := "arenaPlaces", unfollowed := true, recurses := true, apart := false, narrowed := true }
def ArenaPlacesUptoSaid : Prop := arenaPlacesUptoRow.holds Try.pinned (OpenSpec.upto arenaPlacesSpec)

/-- 'arbourlaw15.ArenaNumbers', WHERE WHAT IT READS IS OF BULK AT MOST 1048576: true; the input reads as it did. -/
def arenaNumbersUptoRow : OpenClaim := { program := "ytjebpaapkmbahaa", sum := "1d703a2962f25033283fedd62072d49b46d019b27edc214780eca24d91fd76b0", func := "arbour/arbourlaw15.ArenaNumbers", spec := "arenaNumbers", unfollowed := true, recurses := true, apart := false, narrowed := true }
def ArenaNumbersUptoSaid : Prop := arenaNumbersUptoRow.holds Try.pinned (OpenSpec.upto arenaNumbersSpec)

/-- 'arbourlaw15.ArenaBack', WHERE WHAT IT READS IS OF BULK AT MOST 1048576: true; the input reads as it did. -/
def arenaBackUptoRow : OpenClaim := { program := "ytjebpaapkmbahaa", sum := "1d703a2962f25033283fedd62072d49b46d019b27edc214780eca24d91fd76b0", func := "arbour/arbourlaw15.ArenaBack", spec := "arenaBack", unfollowed := true, recurses := true, apart := false, narrowed := true }
def ArenaBackUptoSaid : Prop := arenaBackUptoRow.holds Try.pinned (OpenSpec.upto arenaBackSpec)

end Rows
end Go.Proofs.Ytjebpaapkmbahaa
