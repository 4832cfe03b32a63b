/- A sum of many is that of each, one by one, with all flags: for all lists of words that fit. -/
import Derived.Test.YtfmdjhfnbiekaaaQFaddSums31
import Derived.Test.YtfmdjhfnbiekaaaQFaddSums32
import Derived.Test.YtfmdjhfnbiekaaaQFaddSums46
import Derived.Test.YtfmdjhfnbiekaaaQFaddSums47
import Derived.Test.YtfmdjhfnbiekaaaQFaddSums33
import Derived.Test.YtfmdjhfnbiekaaaQFaddSums34
import Derived.Test.YtfmdjhfnbiekaaaQFaddSums41
import Derived.Test.YtfmdjhfnbiekaaaQFaddSums45
namespace Go.Proofs.Ytfmdjhfnbiekaaa.Pure
open Go.RowKit Go.Proofs.Ytfmdjhfnbiekaaa.PA Go.Proofs.YtfmdjhfnbiekaaaW.PrintWords Go.Proofs.YtfmdjhfnbiekaaaW.PrintLast Go.Proofs.Ytfmdjhfnbiekaaa.Num Go.Proofs.Ytfmdjhfnbiekaaa.Flt
set_option linter.unusedVariables false
def sumsL (mode : Int) : List Int → Int → Int → Int × Int
  | [], s, f => (s, f)
  | x :: r, s, f => sumsL mode r (addS s x mode).1 (Go.bits .or .i64 f (addS s x mode).2)
theorem dropN {l : List Int} {i : Nat} (h : i < l.length) : l.drop i = l.getD i 0 :: l.drop (i + 1) := by
  rw [List.drop_eq_getElem_cons h, List.getD_eq_getElem?_getD, List.getElem?_eq_getElem h]
  rfl
theorem sum_loop (mode : Int) (l : List Int) (hd : Dig 18446744073709551616 l) (hl : l.length ≤ 4611686018427387904) : ∀ (d i : Nat) (s f : Int), l.length = i + d → 0 ≤ s → s < 18446744073709551616 → Ev (fun k => fadd_Sum.l0 k mode s f l (l.length : Int) (i : Int)) (sumsL mode (l.drop i) s f)
  | 0, i, s, f, hi, h0, h1 => by
    rw [List.drop_of_length_le (by omega)]
    refine Ev.step (f := fun _ => some (s, f)) (fun k => ?_) (Ev.now _)
    simp only [fadd_Sum.l0]
    rw [if_neg (by omega)]
  | d + 1, i, s, f, hi, h0, h1 => by
    have g := hd.getD B_pos i
    have hr := addS_range mode h0 h1 g.1 g.2
    have ew : wrap64 ((i : Int) + 1) = ((i + 1 : Nat) : Int) := by rw [w64 (by omega) (by omega)]; omega
    rw [dropN (by omega)]
    refine Ev.step (f := fun k => (fadd_Add.f k s (l.getD i 0) mode).bind fun bt696 => (fadd_Sum.l0 k mode bt696.1 (Go.bits .or .i64 f bt696.2) l (l.length : Int) ((i + 1 : Nat) : Int))) (fun k => ?_) (Ev.bind (fadd_ev h0 h1 g.1 g.2 mode) (sum_loop mode l hd hl d (i + 1) _ _ (by omega) hr.1 hr.2))
    simp only [fadd_Sum.l0]
    rw [if_pos (by omega), if_pos (by omega), if_pos (by omega), ew, rd_nat]
theorem law_loop (mode : Int) (l : List Int) (hd : Dig 18446744073709551616 l) (hl : l.length ≤ 4611686018427387904) : ∀ (d i : Nat) (s f : Int), l.length = i + d → 0 ≤ s → s < 18446744073709551616 → sumsL mode (l.drop i) s f = sumsL mode l 0 0 → Ev (fun k => vernierlaw07_FaddSums.l0 k mode l s f (i : Int)) true
  | 0, i, s, f, hi, h0, h1, hs => by
    rw [List.drop_of_length_le (by omega)] at hs
    have e : Ev (fun k => fadd_Sum.f k mode l) (s, f) := by
      have := sum_loop mode l hd hl l.length 0 0 0 (by omega) (by decide) (by decide)
      rw [List.drop_zero, ← hs] at this
      exact this
    refine Ev.step (f := fun k => (fadd_Sum.f k mode l).bind fun bt702 => (if bt702.1 = s then (some (bt702.2 == f)) else (some false))) (fun k => ?_) (Ev.bind e (Ev.congr (fun k => if_pos rfl) ?_))
    · simp only [vernierlaw07_FaddSums.l0]
      rw [if_neg (by omega)]
    · rw [beq_self_eq_true]
      exact Ev.now _
  | d + 1, i, s, f, hi, h0, h1, hs => by
    have g := hd.getD B_pos i
    have hr := addS_range mode h0 h1 g.1 g.2
    have ew : wrap64 ((i : Int) + 1) = ((i + 1 : Nat) : Int) := by rw [w64 (by omega) (by omega)]; omega
    rw [dropN (by omega)] at hs
    refine Ev.step (f := fun k => (vernierref06_Add.f k s (l.getD i 0) mode).bind fun bt700 => (vernierlaw07_FaddSums.l0 k mode l bt700.1 (Go.bits .or .i64 f bt700.2) ((i + 1 : Nat) : Int))) (fun k => ?_) (Ev.bind (radd_ev6 h0 h1 g.1 g.2 mode) (law_loop mode l hd hl d (i + 1) _ _ (by omega) hr.1 hr.2 hs))
    simp only [vernierlaw07_FaddSums.l0]
    rw [if_pos (by omega), if_pos (by omega), ew, rd_nat]
theorem FaddSums (a0 : Int) (l1 : List Int) (w0 : (Lit.int .i64 a0).wf = true) (y1 : l1.length * 8 ≤ 140737488351232) (w1 : ∀ n ∈ l1, (Lit.int .u64 n).wf = true) : ∃ k, vernierlaw07_FaddSums.f k a0 l1 = some true := by
  refine Ev.rounds ?_
  unfold vernierlaw07_FaddSums.f
  refine Ev.bind alive7_ev (Ev.congr (fun k => if_pos rfl) ?_)
  exact law_loop a0 l1 (dig_of_wf w1) (by omega) l1.length 0 0 0 (by omega) (by decide) (by decide) rfl
end Go.Proofs.Ytfmdjhfnbiekaaa.Pure
