/- Parts of a proof. -/
import Derived.Test.YtjgdpjbkmcjbcaaDoorZFfmaParts13
import Derived.Test.YtjgdpjbkmcjbcaaDoorZFfmaParts15
import Derived.Lib.BitFns
import Derived.Shelf.Spec.TrailingZeros
section
namespace Go.Proofs.YtjgdpjbkmcjbcaaDoor.PG
open Go.RowKit Go.Proofs.YtjgdpjbkmcjbcaaDoorW.PrintWords Go.Proofs.YtjgdpjbkmcjbcaaDoorW.PrintLast Go.Proofs.YtjgdpjbkmcjbcaaDoorW.PrintMore
set_option linter.unusedVariables false
set_option linter.unusedSimpArgs false
def bits_Len64.f (a0 : Int) : Option Int := if 0 ≤ a0 ∧ a0 ≤ 18446744073709551615 then some (Lib.bitLen a0.toNat) else none
set_option maxHeartbeats 4000000 in
set_option maxRecDepth 100000 in
theorem bits_Len64.calls (a0 : Int) (r : Int) (w : World) (h : bits_Len64.f a0 = some r) :
  Calls Tryd.prog 60 #[.int .u64 a0] w fun e w' => e = .returned (.int .i64 r) ∧ Drawn0 w w' := by
 unfold bits_Len64.f at h
 split at h
 case isFalse => cases h
 case isTrue hb =>
 obtain ⟨h0, h1⟩ := hb
 obtain rfl := Option.some.inj h
 clear h
 exact (len64_raw a0 w h0 h1).mono fun e w' h => ⟨h.1, h.2 ▸ Drawn0.refl _⟩
end Go.Proofs.YtjgdpjbkmcjbcaaDoor.PG
end
section
namespace Go.Proofs.YtjgdpjbkmcjbcaaDoor.PG
open Go.RowKit Go.Proofs.YtjgdpjbkmcjbcaaDoorW.PrintWords Go.Proofs.YtjgdpjbkmcjbcaaDoorW.PrintLast Go.Proofs.YtjgdpjbkmcjbcaaDoorW.PrintMore
set_option linter.unusedVariables false
def Tz (w : World) : Prop := Go.Proofs.TabAt 0 Lib.deBruijn64tab w
theorem Tz.of {w W : World} (h : Tz w) (hb : Below w.heap.size w W) : Tz W := fun i hi => pw_cell_below hb (h i hi)
theorem tz_ {w W W1 : World} (h : Aside0 (Tz w)) (hb : Aside0 (Below w.heap.size w W))
  (s : Below w.heap.size w W → Below w.heap.size w W1 := by intro h_; repeat (first | (with_reducible first | exact h_ | apply below_alloc | apply pw_below_drewN | apply below_drew1 | refine below_set ?_ (Aside0.out (by assumption))) | exact h_)) : Tz W1 := h.out.of (s hb.out)
theorem tz0_ {w W1 : World} (h : Aside0 (Tz w)) (s : Below w.heap.size w w → Below w.heap.size w W1 := by intro h_; repeat (first | (with_reducible first | exact h_ | apply below_alloc | apply pw_below_drewN | apply below_drew1) | exact h_)) : Tz W1 := h.out.of (s (Below.refl _ _))
end Go.Proofs.YtjgdpjbkmcjbcaaDoor.PG
end
