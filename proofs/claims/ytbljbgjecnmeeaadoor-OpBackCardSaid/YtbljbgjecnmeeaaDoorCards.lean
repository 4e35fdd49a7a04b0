/-
  DERIVED. GIVEN WITH THE SEED: THE CARDS: each row of YtbljbgjecnmeeaaDoorRows.lean that lists a variable, with what it lists TIED to the program's text (the seventh form; the later family's looks); each row that meets fmt, with fmt's text TOLD by the authors' own Lean function (tested against real Go, not proved from fmt's source: count such statements apart). THE CARD IS WHAT COUNTS. Prove the row's statement (the work); the ties are given (YtbljbgjecnmeeaaDoorTie.lean); close each card by the builder's one call (the guide's Derived/Test/ToyasCard.lean, 'card_holds'). Laid BY PROGRAM, IN A SANDBOX (cutbox-door.mjs). By AI agents, Wed Nov 11 2026. No macro, syntax, notation, axiom, sorry.
-/
import Derived.Test.YtbljbgjecnmeeaaDoorRows
import GoSem.ClaimSeven
namespace Go.Proofs.YtbljbgjecnmeeaaDoor
namespace Rows

/-- THE TIED CARD OF 'arbourlaw16.OpOwn'. -/
def opOwnCard : Claim7 := { stood := { row := opOwnRow, standIns := [], harness := (true, "91ec4494f0f7a069478fca3a41e6b1d18d9797c6d22a27d91ab38adfeb7ff2d4"), looks := false }, kinds := [], alts := [], laidByText := true, laidKinds := [.data, .data, .data], laidTests := true, laidLooks := .later }
def OpOwnCardSaid : Prop := Claim7.holds Tryd.pinned (.plain (OpenSpec.ofChange opOwnSpec)) opOwnCard

/-- THE TIED CARD OF 'arbourlaw16.OpNumbers'. -/
def opNumbersCard : Claim7 := { stood := { row := opNumbersRow, standIns := [], harness := (true, "91ec4494f0f7a069478fca3a41e6b1d18d9797c6d22a27d91ab38adfeb7ff2d4"), looks := false }, kinds := [], alts := [], laidByText := true, laidKinds := [.data, .data, .data], laidTests := true, laidLooks := .later }
def OpNumbersCardSaid : Prop := Claim7.holds Tryd.pinned (.plain (OpenSpec.ofChange opNumbersSpec)) opNumbersCard

/-- THE TIED CARD OF 'arbourlaw16.OpTells'. -/
def opTellsCard : Claim7 := { stood := { row := opTellsRow, standIns := [], harness := (true, "91ec4494f0f7a069478fca3a41e6b1d18d9797c6d22a27d91ab38adfeb7ff2d4"), looks := false }, kinds := [], alts := [], laidByText := true, laidKinds := [.data, .data, .data], laidTests := true, laidLooks := .later }
def OpTellsCardSaid : Prop := Claim7.holds Tryd.pinned (.plain (OpenSpec.ofChange opTellsSpec)) opTellsCard

/-- THE TIED CARD OF 'arbourlaw16.OpBack'. -/
def opBackCard : Claim7 := { stood := { row := opBackRow, standIns := [], harness := (true, "91ec4494f0f7a069478fca3a41e6b1d18d9797c6d22a27d91ab38adfeb7ff2d4"), looks := false }, kinds := [], alts := [], laidByText := true, laidKinds := [.data, .data, .data], laidTests := true, laidLooks := .later }
def OpBackCardSaid : Prop := Claim7.holds Tryd.pinned (.plain (OpenSpec.ofChange opBackSpec)) opBackCard

/-- THE SECOND FORM's CARD OF 'arbourlaw16.OpOwn'. -/
def opOwnUptoCard : Claim7 := { stood := { row := opOwnUptoRow, standIns := [], harness := (true, "91ec4494f0f7a069478fca3a41e6b1d18d9797c6d22a27d91ab38adfeb7ff2d4"), looks := false }, kinds := [], alts := [], laidByText := true, laidKinds := [.data, .data, .data], laidTests := true, laidLooks := .later }
def OpOwnUptoCardSaid : Prop := Claim7.holds Tryd.pinned (.plain (OpenSpec.upto opOwnSpec)) opOwnUptoCard

/-- THE SECOND FORM's CARD OF 'arbourlaw16.OpNumbers'. -/
def opNumbersUptoCard : Claim7 := { stood := { row := opNumbersUptoRow, standIns := [], harness := (true, "91ec4494f0f7a069478fca3a41e6b1d18d9797c6d22a27d91ab38adfeb7ff2d4"), looks := false }, kinds := [], alts := [], laidByText := true, laidKinds := [.data, .data, .data], laidTests := true, laidLooks := .later }
def OpNumbersUptoCardSaid : Prop := Claim7.holds Tryd.pinned (.plain (OpenSpec.upto opNumbersSpec)) opNumbersUptoCard

/-- THE SECOND FORM's CARD OF 'arbourlaw16.OpTells'. -/
def opTellsUptoCard : Claim7 := { stood := { row := opTellsUptoRow, standIns := [], harness := (true, "91ec4494f0f7a069478fca3a41e6b1d18d9797c6d22a27d91ab38adfeb7ff2d4"), looks := false }, kinds := [], alts := [], laidByText := true, laidKinds := [.data, .data, .data], laidTests := true, laidLooks := .later }
def OpTellsUptoCardSaid : Prop := Claim7.holds Tryd.pinned (.plain (OpenSpec.upto opTellsSpec)) opTellsUptoCard

/-- THE SECOND FORM's CARD OF 'arbourlaw16.OpBack'. -/
def opBackUptoCard : Claim7 := { stood := { row := opBackUptoRow, standIns := [], harness := (true, "91ec4494f0f7a069478fca3a41e6b1d18d9797c6d22a27d91ab38adfeb7ff2d4"), looks := false }, kinds := [], alts := [], laidByText := true, laidKinds := [.data, .data, .data], laidTests := true, laidLooks := .later }
def OpBackUptoCardSaid : Prop := Claim7.holds Tryd.pinned (.plain (OpenSpec.upto opBackSpec)) opBackUptoCard
end Rows
end Go.Proofs.YtbljbgjecnmeeaaDoor
