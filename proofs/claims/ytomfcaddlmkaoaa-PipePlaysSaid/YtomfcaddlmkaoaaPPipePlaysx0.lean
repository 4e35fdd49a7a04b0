-- PRINTED BY print.sh 35421559b90ae4d0a3588c463048766b98c2df88dd9212a6774a882060cdf62d: not written by this session
import Derived.Test.YtomfcaddlmkaoaaProg
import Derived.Below
import Derived.Deep.Draws
import Derived.Deep.AppendLies
import Derived.Maps.AppendAt
import Derived.OwnWalk
import Derived.Laws.BytesArg
import Derived.Laws.MakeOwn
import Derived.Laws.OwnMore
import Derived.Deep.OwnRows
import Derived.Tactics
import Derived.Lib.ConvBytes
import Derived.Laws.Slices
import Derived.WalkKit
import Derived.KernelRfl
import Derived.RowKit3
import Derived.Deep.LoopGhost
import Derived.Deep.QuietTactic
import Derived.BigQuiet
import Derived.WideLaws
import Derived.Deep.DeepCutAuto
import Derived.Deep.CutBlock
import Derived.Deep.RegionHeld3
import Derived.Laws.Rows
import Derived.Lib.AppendStr
import Derived.ArgAppend
import Derived.Laws.IdiomCopy
import Derived.OrdersHeld
import Derived.Laws.BitsLemmas
import Derived.RowKit
import Derived.Test.YtomfcaddlmkaoaaWWords
import Derived.Test.YtomfcaddlmkaoaaWLast
import Derived.Test.YtomfcaddlmkaoaaWTab
import Derived.Test.YtomfcaddlmkaoaaWFour
import Derived.Test.YtomfcaddlmkaoaaWQPut
import Derived.Test.YtomfcaddlmkaoaaWApart
import Derived.Test.YtomfcaddlmkaoaaWArr
import Derived.Test.YtomfcaddlmkaoaaWZeros
import Derived.Test.YtomfcaddlmkaoaaWFoot
import Derived.Test.YtomfcaddlmkaoaaWKept
import Derived.Test.YtomfcaddlmkaoaaWShare
import Derived.Test.YtomfcaddlmkaoaaWN
import Derived.Test.YtomfcaddlmkaoaaWFootNe
import Derived.Test.YtomfcaddlmkaoaaWAt
import Derived.Test.YtomfcaddlmkaoaaWEqStruct
import Derived.Test.YtomfcaddlmkaoaaWRepsOne
import Derived.Test.YtomfcaddlmkaoaaWInv
import Derived.Test.YtomfcaddlmkaoaaWInvWords
import Derived.Test.YtomfcaddlmkaoaaWGuard
import Derived.Test.YtomfcaddlmkaoaaWNEv
import Derived.Test.YtomfcaddlmkaoaaWMore
namespace Go.Proofs.Ytomfcaddlmkaoaa.PPipePlays
open Go.RowKit Go.Proofs.YtomfcaddlmkaoaaW.PrintWords Go.Proofs.YtomfcaddlmkaoaaW.PrintLast Go.Proofs.YtomfcaddlmkaoaaW.PrintMore
attribute [local go_sem] max2_int min2_int max_two min_two max_three min_three max_four min_four   -- for this text's walks alone
set_option linter.unusedVariables false
set_option linter.unusedSimpArgs false



def errW : Option Int → Value
  | none => .nilIface
  | some c => .iface 0 (.int .i64 c)
theorem errW_none : errW none = .nilIface := rfl
theorem errW_some (c : Int) : errW (some c) = .iface 0 (.int .i64 c) := rfl

-- the values' own types

end Go.Proofs.Ytomfcaddlmkaoaa.PPipePlays
