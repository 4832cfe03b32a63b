/- natdiv.DivMod answers a quotient and a rest, digit by digit from the highest one on: contract of the Go function. -/
import Derived.Test.YtfmdjhfnbiekaaaQFconvWhole12
import Derived.WalkSpells
import Derived.Lib.SliceRun
import Derived.Test.YtfmdjhfnbiekaaaQFconvWhole16
import Derived.Test.YtfmdjhfnbiekaaaQFconvWhole18
import Derived.Test.YtfmdjhfnbiekaaaQFconvWhole21
import Derived.Test.YtfmdjhfnbiekaaaQFconvWhole15
import Derived.Test.YtfmdjhfnbiekaaaQFconvWhole20
import Derived.Laws.MakeOwn
import Derived.Test.YtfmdjhfnbiekaaaQFconvWhole23
import Derived.Sort.QuietThIn
import Derived.Sort.QuietTacIn
import Derived.Sort.BigQuietIn
import Derived.OrdersIn
import Derived.RangeFuncNested
import Derived.RangeFuncBound
import Derived.RangeFuncCalls
import Derived.RangeFuncLeaves
import Derived.Shelf.Abstract
import Derived.Shelf.RegionOpen
import Derived.OwnWalkIn
import Derived.TacticsInMore
import Derived.LoopNIn
import Derived.LoopIn
import Derived.Lib.Hide
import Derived.Outline
namespace Go.Proofs.Ytfmdjhfnbiekaaa.PF
open Go.RowKit Go.Shelf Go.Proofs.YtfmdjhfnbiekaaaW.PrintWords Go.Proofs.YtfmdjhfnbiekaaaW.PrintLast Go.Proofs.YtfmdjhfnbiekaaaW.PrintMore
set_option linter.unusedVariables false
set_option linter.unusedSimpArgs false
attribute [local go_sem] Oper.semAt_some
theorem R_kept {α : Type} {d : Kd α} {e : Nat} {w w1 : World} {base : Nat} {ok S : Nat → Prop} {v : Value} {xs : List α} (h : d.R e w base ok v xs) (hk : Kept w w1 S) (hs : ∀ k, ok k → ¬ S k) : d.R e w1 base ok v xs :=
  Kd.R_step h (fun k ho hl => hk.2 k hl (hs k ho))
end Go.Proofs.Ytfmdjhfnbiekaaa.PF
