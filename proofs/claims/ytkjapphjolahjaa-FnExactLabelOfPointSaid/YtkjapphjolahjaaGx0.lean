/- Written by this session's driver gprint.py over the kit's print.py (functions and their contracts). -/
import Derived.Test.YtkjapphjolahjaaProg
import Derived.Below
import Derived.Deep.Draws
import Derived.Deep.AppendLies
import Derived.Maps.AppendAt
import Derived.OwnWalk
import Derived.Laws.BytesArg
import Derived.Laws.MakeOwn
import Derived.Laws.OwnMore
import Derived.Deep.OwnRows
import Derived.Tactics
import Derived.Lib.ConvBytes
import Derived.Laws.Slices
import Derived.WalkKit
import Derived.KernelRfl
import Derived.RowKit3
import Derived.Deep.LoopGhost
import Derived.Deep.QuietTactic
import Derived.BigQuiet
import Derived.WideLaws
import Derived.Deep.DeepCutAuto
import Derived.Deep.CutBlock
import Derived.Deep.RegionHeld3
import Derived.Laws.Rows
import Derived.Lib.AppendStr
import Derived.ArgAppend
import Derived.Laws.IdiomCopy
import Derived.OrdersHeld
import Derived.Laws.BitsLemmas
import Derived.RowKit
import Derived.Test.YtkjapphjolahjaaWWords
import Derived.Test.YtkjapphjolahjaaWLast
import Derived.Test.YtkjapphjolahjaaWTab
import Derived.Test.YtkjapphjolahjaaWFour
import Derived.Test.YtkjapphjolahjaaWQPut
import Derived.Test.YtkjapphjolahjaaWApart
import Derived.Test.YtkjapphjolahjaaWArr
import Derived.Test.YtkjapphjolahjaaWZeros
import Derived.Test.YtkjapphjolahjaaWFoot
import Derived.Test.YtkjapphjolahjaaWKept
import Derived.Test.YtkjapphjolahjaaWShare
import Derived.Test.YtkjapphjolahjaaWN
import Derived.Test.YtkjapphjolahjaaWFootNe
import Derived.Test.YtkjapphjolahjaaWAt
import Derived.Test.YtkjapphjolahjaaWEqStruct
import Derived.Test.YtkjapphjolahjaaWRepsOne
import Derived.Test.YtkjapphjolahjaaWInv
import Derived.Test.YtkjapphjolahjaaWInvWords
import Derived.Test.YtkjapphjolahjaaWGuard
import Derived.Test.YtkjapphjolahjaaWNEv
import Derived.Test.YtkjapphjolahjaaWMore
namespace Go.Proofs.Ytkjapphjolahjaa.G
open Go.RowKit Go.Proofs.YtkjapphjolahjaaW.PrintWords Go.Proofs.YtkjapphjolahjaaW.PrintLast Go.Proofs.YtkjapphjolahjaaW.PrintMore
attribute [local go_sem] max2_int min2_int max_two min_two max_three min_three max_four min_four   -- for this text's walks alone
set_option linter.unusedVariables false
set_option linter.unusedSimpArgs false



def errW : Option Int → Value
  | none => .nilIface
  | some c => .iface 0 (.int .i64 c)
theorem errW_none : errW none = .nilIface := rfl
theorem errW_some (c : Int) : errW (some c) = .iface 0 (.int .i64 c) := rfl

theorem info3 : (Try.prog.info? 3).map (fun i => (i.zero, i.size, i.bytes)) = some (some (.int .i64 0), 1, 8) := by kernel_rfl
-- the values' own types

theorem calls_args {P : Program} {f : Nat} {a a2 : Array Value} {w : World} {Q : Ending → World → Prop} (h : a = a2) (k : Calls P f a2 w Q) : Calls P f a w Q := h ▸ k
end Go.Proofs.Ytkjapphjolahjaa.G
