/-
  DERIVED. GIVEN WITH THE SEED: THE CARDS: each row of YteglfgmgpbablaaDoorRows.lean that lists a variable, with what it lists TIED to the program's text (the seventh form; the later family's looks); each row that meets fmt, with fmt's text TOLD by the authors' own Lean function (tested against real Go, not proved from fmt's source: count such statements apart). THE CARD IS WHAT COUNTS. Prove the row's statement (the work); the ties are given (YteglfgmgpbablaaDoorTie.lean); close each card by the builder's one call (the guide's Derived/Test/ToyasCard.lean, 'card_holds'). Laid BY PROGRAM, IN A SANDBOX (cutbox-door.mjs). By AI agents, Wed Nov 11 2026. No macro, syntax, notation, axiom, sorry.
-/
import Derived.Test.YteglfgmgpbablaaDoorRows
import GoSem.ClaimSeven
namespace Go.Proofs.YteglfgmgpbablaaDoor
namespace Rows

/-- THE TIED CARD OF 'arbourlaw24.CompareTells'. -/
def compareTellsCard : Claim7 := { stood := { row := compareTellsRow, standIns := [], harness := (true, "fc0b278811df602db1c7f1f509dc7750e0a187d9ddabba6bb45a3e9b6a969640"), looks := false }, kinds := [], alts := [], laidByText := true, laidKinds := [.data, .data, .data], laidTests := true, laidLooks := .later }
def CompareTellsCardSaid : Prop := Claim7.holds Tryd.pinned (.plain (OpenSpec.ofChange compareTellsSpec)) compareTellsCard

/-- THE TIED CARD OF 'arbourlaw24.CompareOne'. -/
def compareOneCard : Claim7 := { stood := { row := compareOneRow, standIns := [], harness := (true, "fc0b278811df602db1c7f1f509dc7750e0a187d9ddabba6bb45a3e9b6a969640"), looks := false }, kinds := [], alts := [], laidByText := true, laidKinds := [.data, .data, .data], laidTests := true, laidLooks := .later }
def CompareOneCardSaid : Prop := Claim7.holds Tryd.pinned (.plain (OpenSpec.ofChange compareOneSpec)) compareOneCard

/-- THE TIED CARD OF 'arbourlaw24.CompareDeep'. -/
def compareDeepCard : Claim7 := { stood := { row := compareDeepRow, standIns := [], harness := (true, "fc0b278811df602db1c7f1f509dc7750e0a187d9ddabba6bb45a3e9b6a969640"), looks := false }, kinds := [], alts := [], laidByText := true, laidKinds := [.data, .data, .data], laidTests := true, laidLooks := .later }
def CompareDeepCardSaid : Prop := Claim7.holds Tryd.pinned (.plain (OpenSpec.ofChange compareDeepSpec)) compareDeepCard

/-- THE TIED CARD OF 'arbourlaw24.CompareNumbers'. -/
def compareNumbersCard : Claim7 := { stood := { row := compareNumbersRow, standIns := [], harness := (true, "fc0b278811df602db1c7f1f509dc7750e0a187d9ddabba6bb45a3e9b6a969640"), looks := false }, kinds := [], alts := [], laidByText := true, laidKinds := [.data, .data, .data], laidTests := true, laidLooks := .later }
def CompareNumbersCardSaid : Prop := Claim7.holds Tryd.pinned (.plain (OpenSpec.ofChange compareNumbersSpec)) compareNumbersCard

/-- THE TIED CARD OF 'arbourlaw24.ComparePaths'. -/
def comparePathsCard : Claim7 := { stood := { row := comparePathsRow, standIns := [], harness := (true, "fc0b278811df602db1c7f1f509dc7750e0a187d9ddabba6bb45a3e9b6a969640"), looks := false }, kinds := [], alts := [], laidByText := true, laidKinds := [.data, .data, .data], laidTests := true, laidLooks := .later }
def ComparePathsCardSaid : Prop := Claim7.holds Tryd.pinned (.plain (OpenSpec.ofChange comparePathsSpec)) comparePathsCard

/-- THE SECOND FORM's CARD OF 'arbourlaw24.CompareTells'. -/
def compareTellsUptoCard : Claim7 := { stood := { row := compareTellsUptoRow, standIns := [], harness := (true, "fc0b278811df602db1c7f1f509dc7750e0a187d9ddabba6bb45a3e9b6a969640"), looks := false }, kinds := [], alts := [], laidByText := true, laidKinds := [.data, .data, .data], laidTests := true, laidLooks := .later }
def CompareTellsUptoCardSaid : Prop := Claim7.holds Tryd.pinned (.plain (OpenSpec.upto compareTellsSpec)) compareTellsUptoCard

/-- THE SECOND FORM's CARD OF 'arbourlaw24.CompareOne'. -/
def compareOneUptoCard : Claim7 := { stood := { row := compareOneUptoRow, standIns := [], harness := (true, "fc0b278811df602db1c7f1f509dc7750e0a187d9ddabba6bb45a3e9b6a969640"), looks := false }, kinds := [], alts := [], laidByText := true, laidKinds := [.data, .data, .data], laidTests := true, laidLooks := .later }
def CompareOneUptoCardSaid : Prop := Claim7.holds Tryd.pinned (.plain (OpenSpec.upto compareOneSpec)) compareOneUptoCard

/-- THE SECOND FORM's CARD OF 'arbourlaw24.CompareDeep'. -/
def compareDeepUptoCard : Claim7 := { stood := { row := compareDeepUptoRow, standIns := [], harness := (true, "fc0b278811df602db1c7f1f509dc7750e0a187d9ddabba6bb45a3e9b6a969640"), looks := false }, kinds := [], alts := [], laidByText := true, laidKinds := [.data, .data, .data], laidTests := true, laidLooks := .later }
def CompareDeepUptoCardSaid : Prop := Claim7.holds Tryd.pinned (.plain (OpenSpec.upto compareDeepSpec)) compareDeepUptoCard

/-- THE SECOND FORM's CARD OF 'arbourlaw24.CompareNumbers'. -/
def compareNumbersUptoCard : Claim7 := { stood := { row := compareNumbersUptoRow, standIns := [], harness := (true, "fc0b278811df602db1c7f1f509dc7750e0a187d9ddabba6bb45a3e9b6a969640"), looks := false }, kinds := [], alts := [], laidByText := true, laidKinds := [.data, .data, .data], laidTests := true, laidLooks := .later }
def CompareNumbersUptoCardSaid : Prop := Claim7.holds Tryd.pinned (.plain (OpenSpec.upto compareNumbersSpec)) compareNumbersUptoCard

/-- THE SECOND FORM's CARD OF 'arbourlaw24.ComparePaths'. -/
def comparePathsUptoCard : Claim7 := { stood := { row := comparePathsUptoRow, standIns := [], harness := (true, "fc0b278811df602db1c7f1f509dc7750e0a187d9ddabba6bb45a3e9b6a969640"), looks := false }, kinds := [], alts := [], laidByText := true, laidKinds := [.data, .data, .data], laidTests := true, laidLooks := .later }
def ComparePathsUptoCardSaid : Prop := Claim7.holds Tryd.pinned (.plain (OpenSpec.upto comparePathsSpec)) comparePathsUptoCard
end Rows
end Go.Proofs.YteglfgmgpbablaaDoor
