-- PRINTED BY print.sh 35421559b90ae4d0a3588c463048766b98c2df88dd9212a6774a882060cdf62d: not written by this session
import Derived.Test.YtddfpnljkaodcaaGreatDoorProg
import Derived.Below
import Derived.Deep.Draws
import Derived.Deep.AppendLies
import Derived.Maps.AppendAt
import Derived.OwnWalk
import Derived.Laws.BytesArg
import Derived.Laws.MakeOwn
import Derived.Laws.OwnMore
import Derived.Deep.OwnRows
import Derived.Tactics
import Derived.Lib.ConvBytes
import Derived.Laws.Slices
import Derived.WalkKit
import Derived.KernelRfl
import Derived.RowKit3
import Derived.Deep.LoopGhost
import Derived.Deep.QuietTactic
import Derived.BigQuiet
import Derived.WideLaws
import Derived.Deep.DeepCutAuto
import Derived.Deep.CutBlock
import Derived.Deep.RegionHeld3
import Derived.Laws.Rows
import Derived.Lib.AppendStr
import Derived.ArgAppend
import Derived.Laws.IdiomCopy
import Derived.OrdersHeld
import Derived.Laws.BitsLemmas
import Derived.RowKit
import Derived.Test.YtddfpnljkaodcaaGreatDoorWWords
import Derived.Test.YtddfpnljkaodcaaGreatDoorWLast
import Derived.Test.YtddfpnljkaodcaaGreatDoorWTab
import Derived.Test.YtddfpnljkaodcaaGreatDoorWFour
import Derived.Test.YtddfpnljkaodcaaGreatDoorWQPut
import Derived.Test.YtddfpnljkaodcaaGreatDoorWApart
import Derived.Test.YtddfpnljkaodcaaGreatDoorWArr
import Derived.Test.YtddfpnljkaodcaaGreatDoorWZeros
import Derived.Test.YtddfpnljkaodcaaGreatDoorWFoot
import Derived.Test.YtddfpnljkaodcaaGreatDoorWKept
import Derived.Test.YtddfpnljkaodcaaGreatDoorWShare
import Derived.Test.YtddfpnljkaodcaaGreatDoorWN
import Derived.Test.YtddfpnljkaodcaaGreatDoorWFootNe
import Derived.Test.YtddfpnljkaodcaaGreatDoorWAt
import Derived.Test.YtddfpnljkaodcaaGreatDoorWEqStruct
import Derived.Test.YtddfpnljkaodcaaGreatDoorWRepsOne
import Derived.Test.YtddfpnljkaodcaaGreatDoorWInv
import Derived.Test.YtddfpnljkaodcaaGreatDoorWInvWords
import Derived.Test.YtddfpnljkaodcaaGreatDoorWGuard
import Derived.Test.YtddfpnljkaodcaaGreatDoorWNEv
import Derived.Test.YtddfpnljkaodcaaGreatDoorWMore
namespace Go.Proofs.YtddfpnljkaodcaaGreatDoor.PLineTexts
open Go.RowKit Go.Proofs.YtddfpnljkaodcaaGreatDoorW.PrintWords Go.Proofs.YtddfpnljkaodcaaGreatDoorW.PrintLast Go.Proofs.YtddfpnljkaodcaaGreatDoorW.PrintMore
attribute [local go_sem] max2_int min2_int max_two min_two max_three min_three max_four min_four   -- for this text's walks alone
set_option linter.unusedVariables false
set_option linter.unusedSimpArgs false



def errW : Option Int → Value
  | none => .nilIface
  | some c => .iface 120 (.int .i64 c)
theorem errW_none : errW none = .nilIface := rfl
theorem errW_some (c : Int) : errW (some c) = .iface 120 (.int .i64 c) := rfl

theorem info9 : (Tryz.prog.info? 9).map (fun i => (i.zero, i.size, i.bytes)) = some (some (.string ⟨#[]⟩), 1, 16) := by kernel_rfl
-- the values' own types

end Go.Proofs.YtddfpnljkaodcaaGreatDoor.PLineTexts
