/-
  No cell of these rows narrows 'for every input' (looked for: loops, veiled, ifaces, maps, wideKeys, modest, calm, conditions, laid).
  DERIVED. THE GIVEN ROWS OF THIS SEAT. 4 by the template 'for every input the law returns true; each argument reads behind the call as it read before'; 0 by the template 'total and deterministic' (their statements: YtomfcaddlmkaoaaTotals.lean).
  GIVEN WITH THE SEED: the statements are not yours to turn. If you find one false, say at which input.
  Laid BY PROGRAM, IN A SANDBOX (cutbox-rows.mjs): the forced cells as the released guide's own fill.sh prints them over the translation 038ed335f6565a75… (all of the seat's roots in one cut). By AI agents, Wed Nov 11 2026. No macro, syntax, notation, axiom, sorry.
-/
import Derived.Test.YtomfcaddlmkaoaaChecked
import GoSem.Claim
import GoSem.ClaimJoined
import GoSem.ClaimMapViews
import Derived.JoinedTies
import Derived.KernelRfl
namespace Go.Proofs.Ytomfcaddlmkaoaa
/- THE CELL 'sum', in the pinned program and in every row, IS THE sha256 OF THE DUMP (.gsa) THAT YtomfcaddlmkaoaaProg.lean LOADS. Nothing in Lean hashes anything: it is a label: what it is worth is what the hold of that sum in a sandbox is worth. -/
noncomputable def Try.pinned : Pinned := { name := "ytomfcaddlmkaoaa", sum := "038ed335f6565a7554689cb197c15590d6b41b5ee743fdc24802cb8f11f3f5c4", checked := Try.checked }
namespace Rows
def none {H : Type} : Left H := { results := [], args := [] }

/-- 'arbourlaw2.PipeNumbers': WHATEVER THE INPUT: true; the input reads as it did. -/
def pipeNumbersSpec : ChangeSpec := { name := "pipeNumbers", fn := fun _ => fun
  | [] => { results := [.lit (.bool true)], args := [] }
  | _ => none }
def pipeNumbersRow : OpenClaim := { program := "ytomfcaddlmkaoaa", sum := "038ed335f6565a7554689cb197c15590d6b41b5ee743fdc24802cb8f11f3f5c4", func := "arbour/arbourlaw2.PipeNumbers", spec := "pipeNumbers", apart := false }
def PipeNumbersSaid : Prop := pipeNumbersRow.holds Try.pinned (OpenSpec.ofChange pipeNumbersSpec)

/-- ITS FALSE NEIGHBOUR: 'it returns false'. Refute it at one input. -/
def pipeNumbersWrong : ChangeSpec := { name := "pipeNumbers", fn := fun _ => fun
  | [] => { results := [.lit (.bool false)], args := [] }
  | _ => none }
def PipeNumbersWrongFalsely : Prop := pipeNumbersRow.holds Try.pinned (OpenSpec.ofChange pipeNumbersWrong)

/-- 'arbourlaw2.PipePlays': WHATEVER THE INPUT: true; the input reads as it did. -/
def pipePlaysSpec : ChangeSpec := { name := "pipePlays", fn := fun _ => fun
  | [d1, d2] => { results := [.lit (.bool true)], args := [d1, d2] }
  | _ => none }
def pipePlaysRow : OpenClaim := { program := "ytomfcaddlmkaoaa", sum := "038ed335f6565a7554689cb197c15590d6b41b5ee743fdc24802cb8f11f3f5c4", func := "arbour/arbourlaw2.PipePlays", spec := "pipePlays", apart := false }
def PipePlaysSaid : Prop := pipePlaysRow.holds Try.pinned (OpenSpec.ofChange pipePlaysSpec)

/-- ITS FALSE NEIGHBOUR: 'it returns false'. Refute it at one input. -/
def pipePlaysWrong : ChangeSpec := { name := "pipePlays", fn := fun _ => fun
  | [d1, d2] => { results := [.lit (.bool false)], args := [d1, d2] }
  | _ => none }
def PipePlaysWrongFalsely : Prop := pipePlaysRow.holds Try.pinned (OpenSpec.ofChange pipePlaysWrong)

/-- 'arbourlaw2.PipeOrder': WHATEVER THE INPUT: true; the input reads as it did. -/
def pipeOrderSpec : ChangeSpec := { name := "pipeOrder", fn := fun _ => fun
  | [d1, d2, d3] => { results := [.lit (.bool true)], args := [d1, d2, d3] }
  | _ => none }
def pipeOrderRow : OpenClaim := { program := "ytomfcaddlmkaoaa", sum := "038ed335f6565a7554689cb197c15590d6b41b5ee743fdc24802cb8f11f3f5c4", func := "arbour/arbourlaw2.PipeOrder", spec := "pipeOrder", apart := false }
def PipeOrderSaid : Prop := pipeOrderRow.holds Try.pinned (OpenSpec.ofChange pipeOrderSpec)

/-- ITS FALSE NEIGHBOUR: 'it returns false'. Refute it at one input. -/
def pipeOrderWrong : ChangeSpec := { name := "pipeOrder", fn := fun _ => fun
  | [d1, d2, d3] => { results := [.lit (.bool false)], args := [d1, d2, d3] }
  | _ => none }
def PipeOrderWrongFalsely : Prop := pipeOrderRow.holds Try.pinned (OpenSpec.ofChange pipeOrderWrong)

/-- 'arbourlaw2.PipeRooms': WHATEVER THE INPUT: true; the input reads as it did. -/
def pipeRoomsSpec : ChangeSpec := { name := "pipeRooms", fn := fun _ => fun
  | [d1, d2] => { results := [.lit (.bool true)], args := [d1, d2] }
  | _ => none }
def pipeRoomsRow : OpenClaim := { program := "ytomfcaddlmkaoaa", sum := "038ed335f6565a7554689cb197c15590d6b41b5ee743fdc24802cb8f11f3f5c4", func := "arbour/arbourlaw2.PipeRooms", spec := "pipeRooms", apart := false }
def PipeRoomsSaid : Prop := pipeRoomsRow.holds Try.pinned (OpenSpec.ofChange pipeRoomsSpec)

/-- ITS FALSE NEIGHBOUR: 'it returns false'. Refute it at one input. -/
def pipeRoomsWrong : ChangeSpec := { name := "pipeRooms", fn := fun _ => fun
  | [d1, d2] => { results := [.lit (.bool false)], args := [d1, d2] }
  | _ => none }
def PipeRoomsWrongFalsely : Prop := pipeRoomsRow.holds Try.pinned (OpenSpec.ofChange pipeRoomsWrong)

/- THE SECOND FORM. 'bulk': how many values and letters a reading holds, each counted each time it is reached (what is shared counts as often as it is met; a slice's spare places count too). A statement '..UptoSaid' is the law's where the arguments, and the package variables that the reading takes, are together of bulk at most 1048576: NARROWER than '..Said'. Prove '..Said' where nothing that the law and all that it calls make is longer than what came in: it says more and counts as full. Else prove '..UptoSaid'. A law counts once. -/
mutual
def uptoBulk {H : Type} : DataW H → Nat
  | .lit (.string bytes) => bytes.length + 1
  | .lit _ => 1
  | .nil => 1
  | .ptr d => uptoBulk d + 1
  | .slice elems spare => uptoBulkAll elems + uptoBulkAll spare + 1
  | .agg parts => uptoBulkAll parts + 1
  | .iface _ d => uptoBulk d + 1
  | .map entries => uptoBulkEntries entries + 1
  | .held _ => 1
def uptoBulkAll {H : Type} : List (DataW H) → Nat
  | [] => 0
  | d :: r => uptoBulk d + uptoBulkAll r
def uptoBulkEntries {H : Type} : List (Lit × DataW H) → Nat
  | [] => 0
  | x :: r => uptoBulkEntry x + uptoBulkEntries r
def uptoBulkEntry {H : Type} : Lit × DataW H → Nat
  | (.string bytes, d) => bytes.length + uptoBulk d + 1
  | (_, d) => uptoBulk d + 1
 end
def uptoSmall : (H : Type) → List (DataW H) → Bool := fun _ ds => decide (uptoBulkAll ds ≤ 1048576)
def OpenSpec.upto (s : _root_.Go.ChangeSpec) : _root_.Go.OpenSpec := { _root_.Go.OpenSpec.ofChange s with cond := some uptoSmall }

/-- 'arbourlaw2.PipeNumbers', WHERE WHAT IT READS IS OF BULK AT MOST 1048576: true; the input reads as it did. -/
def pipeNumbersUptoRow : OpenClaim := { program := "ytomfcaddlmkaoaa", sum := "038ed335f6565a7554689cb197c15590d6b41b5ee743fdc24802cb8f11f3f5c4", func := "arbour/arbourlaw2.PipeNumbers", spec := "pipeNumbers", apart := false, narrowed := true }
def PipeNumbersUptoSaid : Prop := pipeNumbersUptoRow.holds Try.pinned (OpenSpec.upto pipeNumbersSpec)

/-- 'arbourlaw2.PipePlays', WHERE WHAT IT READS IS OF BULK AT MOST 1048576: true; the input reads as it did. -/
def pipePlaysUptoRow : OpenClaim := { program := "ytomfcaddlmkaoaa", sum := "038ed335f6565a7554689cb197c15590d6b41b5ee743fdc24802cb8f11f3f5c4", func := "arbour/arbourlaw2.PipePlays", spec := "pipePlays", apart := false, narrowed := true }
def PipePlaysUptoSaid : Prop := pipePlaysUptoRow.holds Try.pinned (OpenSpec.upto pipePlaysSpec)

/-- 'arbourlaw2.PipeOrder', WHERE WHAT IT READS IS OF BULK AT MOST 1048576: true; the input reads as it did. -/
def pipeOrderUptoRow : OpenClaim := { program := "ytomfcaddlmkaoaa", sum := "038ed335f6565a7554689cb197c15590d6b41b5ee743fdc24802cb8f11f3f5c4", func := "arbour/arbourlaw2.PipeOrder", spec := "pipeOrder", apart := false, narrowed := true }
def PipeOrderUptoSaid : Prop := pipeOrderUptoRow.holds Try.pinned (OpenSpec.upto pipeOrderSpec)

/-- 'arbourlaw2.PipeRooms', WHERE WHAT IT READS IS OF BULK AT MOST 1048576: true; the input reads as it did. -/
def pipeRoomsUptoRow : OpenClaim := { program := "ytomfcaddlmkaoaa", sum := "038ed335f6565a7554689cb197c15590d6b41b5ee743fdc24802cb8f11f3f5c4", func := "arbour/arbourlaw2.PipeRooms", spec := "pipeRooms", apart := false, narrowed := true }
def PipeRoomsUptoSaid : Prop := pipeRoomsUptoRow.holds Try.pinned (OpenSpec.upto pipeRoomsSpec)

end Rows
end Go.Proofs.Ytomfcaddlmkaoaa
