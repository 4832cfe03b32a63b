/- The library's table of the places of one bit, as a world holds it. -/
import Derived.Test.YtpdjahhimmaonaaDoorZDumpBack11
import Derived.Shelf.Spec.TrailingZeros
namespace Go.Proofs.YtpdjahhimmaonaaDoor.PE
open Go.RowKit Go.Proofs.YtpdjahhimmaonaaDoorW.PrintWords Go.Proofs.YtpdjahhimmaonaaDoorW.PrintLast Go.Proofs.YtpdjahhimmaonaaDoorW.PrintMore
set_option linter.unusedVariables false
def Mx (w : World) : Prop := ∃ m : Int, w.cell? ⟨1, 0, none⟩ = some (.int .i64 m)
theorem Mx.of {w W : World} (h : Mx w) (hb : Below w.heap.size w W) : Mx W := by
  unfold Mx at h ⊢
  first
    | exact trivial
    | (obtain ⟨m, hm⟩ := h; exact ⟨m, pw_cell_below hb hm⟩)
def Tz (w : World) : Prop := Go.Proofs.TabAt 0 Lib.deBruijn64tab w ∧ Mx w
theorem Tz.of {w W : World} (h : Tz w) (hb : Below w.heap.size w W) : Tz W := ⟨fun i hi => pw_cell_below hb (h.1 i hi), h.2.of hb⟩
theorem tz_ {w W W1 : World} (h : Aside0 (Tz w)) (hb : Aside0 (Below w.heap.size w W))
    (s : Below w.heap.size w W → Below w.heap.size w W1 := by intro h_; repeat (first | (with_reducible first | exact h_ | apply below_alloc | apply pw_below_drewN | apply below_drew1 | refine below_set ?_ (Aside0.out (by assumption))) | exact h_)) : Tz W1 := h.out.of (s hb.out)
theorem tz0_ {w W1 : World} (h : Aside0 (Tz w)) (s : Below w.heap.size w w → Below w.heap.size w W1 := by intro h_; repeat (first | (with_reducible first | exact h_ | apply below_alloc | apply pw_below_drewN | apply below_drew1) | exact h_)) : Tz W1 := h.out.of (s (Below.refl _ _))
end Go.Proofs.YtpdjahhimmaonaaDoor.PE
