/- What nat's functions compute: differences, copies without zeros on top; the law's own comparison of lists. -/
import Derived.WalkSpells
import Derived.Lib.SliceRun
import Derived.Laws.Externs
import Derived.Sort.QuietThIn
import Derived.Sort.QuietTacIn
import Derived.Sort.BigQuietIn
import Derived.OrdersIn
import Derived.RangeFuncNested
import Derived.RangeFuncBound
import Derived.RangeFuncCalls
import Derived.RangeFuncLeaves
import Derived.Shelf.Abstract
import Derived.Shelf.RegionOpen
import Derived.OwnWalkIn
import Derived.TacticsInMore
import Derived.LoopNIn
import Derived.LoopIn
import Derived.Lib.Hide
import Derived.Outline
import Derived.Test.YtpdjahhimmaonaaDoorZDumpTells30
namespace Go.Proofs.YtpdjahhimmaonaaDoor.PD
open Go.RowKit Go.Proofs.YtpdjahhimmaonaaDoorW.PrintWords Go.Proofs.YtpdjahhimmaonaaDoorW.PrintLast Go.Proofs.YtpdjahhimmaonaaDoor.Num
set_option linter.unusedVariables false
set_option linter.unusedSimpArgs false
theorem same_loop (a b : List Int) (hl : a.length = b.length) (hb : a.length ≤ 4611686018427387904) : ∀ (d j : Nat), a.length = j + d → Ev (fun k => vernierref01_Same.l0 k a b (j : Int)) (decide (a.drop j = b.drop j))
  | 0, j, hj => by
    refine Ev.step (f := fun _ => some _) (fun k => ?_) (Ev.now _)
    simp only [vernierref01_Same.l0]
    rw [if_neg (by omega), List.drop_of_length_le (by omega), List.drop_of_length_le (by omega)]
    simp
  | d + 1, j, hj => by
    have ew : wrap64 ((j : Int) + 1) = ((j + 1 : Nat) : Int) := by rw [w64 (by omega) (by omega)]; omega
    have ea : a.drop j = a.getD j 0 :: a.drop (j + 1) := by rw [List.drop_eq_getElem_cons (by omega), List.getD_eq_getElem?_getD, List.getElem?_eq_getElem (by omega)]; rfl
    have eb : b.drop j = b.getD j 0 :: b.drop (j + 1) := by rw [List.drop_eq_getElem_cons (by omega), List.getD_eq_getElem?_getD, List.getElem?_eq_getElem (by omega)]; rfl
    rw [ea, eb]
    by_cases h : a.getD j 0 = b.getD j 0
    · have e : (a.getD j 0 :: a.drop (j + 1) = b.getD j 0 :: b.drop (j + 1)) ↔ (a.drop (j + 1) = b.drop (j + 1)) := by rw [h]; simp
      rw [decide_eq_decide.2 e]
      refine Ev.step (f := fun k => vernierref01_Same.l0 k a b ((j + 1 : Nat) : Int)) (fun k => ?_) (same_loop a b hl hb d (j + 1) (by omega))
      simp only [vernierref01_Same.l0]
      rw [if_pos (by omega), if_pos (by omega), if_pos (by omega), rd_nat, rd_nat, if_pos h, ew]
    · have e : decide (a.getD j 0 :: a.drop (j + 1) = b.getD j 0 :: b.drop (j + 1)) = false := by
        apply decide_eq_false
        intro h2
        injection h2 with h3 _
        exact h h3
      rw [e]
      refine Ev.step (f := fun _ => some _) (fun k => ?_) (Ev.now _)
      simp only [vernierref01_Same.l0]
      rw [if_pos (by omega), if_pos (by omega), if_pos (by omega), rd_nat, rd_nat, if_neg h]
theorem same_ev (a b : List Int) (hb : a.length ≤ 4611686018427387904) : Ev (fun k => vernierref01_Same.f k a b) (decide (a = b)) := by
  unfold vernierref01_Same.f
  by_cases h : a.length = b.length
  · refine Ev.congr (fun k => if_pos (by omega)) ?_
    exact same_loop a b h hb a.length 0 (by omega)
  · refine Ev.congr (fun k => if_neg (by omega)) ?_
    have e : decide (a = b) = false := decide_eq_false (fun h2 => h (by rw [h2]))
    rw [e]
    exact Ev.now _
theorem same_true {a b : List Int} (h : a = b) (hb : a.length ≤ 4611686018427387904) : Ev (fun k => vernierref01_Same.f k a b) true := by
  have := same_ev a b hb
  rwa [decide_eq_true h] at this
end Go.Proofs.YtpdjahhimmaonaaDoor.PD
