/- bits.Len64 answers how many bits a word has. -/
import Derived.Test.YtpdjahhimmaonaaDoorZDumpBack12
import Derived.Test.YtpdjahhimmaonaaDoorZDumpBack21
import Derived.Lib.BitFns
namespace Go.Proofs.YtpdjahhimmaonaaDoor.PE
open Go.RowKit Go.Proofs.YtpdjahhimmaonaaDoorW.PrintWords Go.Proofs.YtpdjahhimmaonaaDoorW.PrintLast Go.Proofs.YtpdjahhimmaonaaDoorW.PrintMore
set_option linter.unusedVariables false
set_option linter.unusedSimpArgs false
def bits_Len64.f (a0 : Int) : Option Int := if 0 ≤ a0 ∧ a0 ≤ 18446744073709551615 then some (Lib.bitLen a0.toNat) else none
set_option maxHeartbeats 4000000 in
set_option maxRecDepth 100000 in
theorem bits_Len64.calls (a0 : Int) (r : Int) (w : World) (h : bits_Len64.f a0 = some r) :
    Calls Tryd.prog 104 #[.int .u64 a0] w fun e w' => e = .returned (.int .i64 r) ∧ Drawn0 w w' := by
  unfold bits_Len64.f at h
  split at h
  case isFalse => cases h
  case isTrue hb =>
  obtain ⟨h0, h1⟩ := hb
  obtain rfl := Option.some.inj h
  clear h
  exact (len64_raw a0 w h0 h1).mono fun e w' h => ⟨h.1, h.2 ▸ Drawn0.refl _⟩
end Go.Proofs.YtpdjahhimmaonaaDoor.PE
