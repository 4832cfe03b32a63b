/- What nat's functions compute: products, how many bits, evenness. -/
import Derived.Lib.Mul64
import Derived.Laws.Bits64b
import Derived.Lib.Hide
import Derived.Test.YtpdjahhimmaonaaDoorZDumpTells33
import Derived.WalkSmall
namespace Go.Proofs.YtpdjahhimmaonaaDoor.PD
open Go.RowKit Go.Proofs.YtpdjahhimmaonaaDoorW.PrintWords Go.Proofs.YtpdjahhimmaonaaDoorW.PrintLast Go.Proofs.YtpdjahhimmaonaaDoor.Num
set_option linter.unusedVariables false
set_option linter.unusedSimpArgs false
theorem bitLenAux_isBits : ∀ (f x : Nat), x < 2 ^ f → IsBits (x : Int) (Lib.bitLenAux f x)
  | 0, x, h => by
    obtain rfl : x = 0 := by simpa using h
    exact isBits_zero
  | f + 1, x, h => by
    simp only [Lib.bitLenAux]
    split
    · rename_i e
      subst e
      exact isBits_zero
    · rename_i e
      have ih := bitLenAux_isBits f (x / 2) (by rw [Nat.pow_succ] at h; omega)
      have := IsBits.half (v := (x : Int)) (n := Lib.bitLenAux f (x / 2)) (by omega) (by
        have e2 : ((x : Int) / 2) = ((x / 2 : Nat) : Int) := by omega
        rw [e2]
        exact ih)
      have e3 : (((1 + Lib.bitLenAux f (x / 2) : Nat)) : Int) = ((Lib.bitLenAux f (x / 2) : Nat) : Int) + 1 := by omega
      rw [e3]
      exact this
theorem len64_some {x : Int} (h0 : 0 ≤ x) (h1 : x < 18446744073709551616) : bits_Len64.f x = some (bitsOf x) := by
  unfold bits_Len64.f
  rw [if_pos ⟨h0, by omega⟩]
  congr 1
  have := bitLenAux_isBits 64 x.toNat (by omega)
  rw [Int.toNat_of_nonneg h0] at this
  exact bitsOf_eq this
theorem bitsOf_top {l : List Int} (h : Dig 18446744073709551616 l) (hne : l ≠ []) (ht : l.getD (l.length - 1) 0 ≠ 0) : bitsOf (V 18446744073709551616 l) = 64 * (l.length - 1 : Nat) + bitsOf (l.getD (l.length - 1) 0) := by
  have g := h.getD B_pos (l.length - 1)
  have hp : 0 < bitsOf (l.getD (l.length - 1) 0) := bitsOf_pos (by omega)
  have := IsBits.last (B := 18446744073709551616) (s := 64) (by decide) h hne (bitsOf_spec g.1) (by omega)
  exact (bitsOf_eq this).symm
theorem bits_ev (a : List Int) (ha : Dig 18446744073709551616 a) (hl : a.length ≤ 35184372088832) : Ev (fun k => nat_Bits.f k a) (bitsOf (V 18446744073709551616 a)) := by
  unfold nat_Bits.f
  refine Ev.bind (size_ev a (by omega)) ?_
  have hs := szN_le a
  have hv := trim_val 18446744073709551616 a
  have hn := trim_nrm (B := 18446744073709551616) ha
  have ln : (trim a).length = szN a := by unfold trim; rw [List.length_take]; omega
  by_cases h0 : szN a = 0
  · refine Ev.congr (fun k => if_pos (by omega)) ?_
    have : trim a = [] := List.length_eq_zero_iff.1 (by omega)
    rw [← hv, this]
    exact Ev.now _
  · refine Ev.congr (fun k => if_neg (by omega)) ?_
    have e1 : wrap64 ((szN a : Int) - 1) = ((szN a - 1 : Nat) : Int) := by rw [w64 (by omega) (by omega)]; omega
    have ht : a.getD (szN a - 1) 0 ≠ 0 := (szN_top a).resolve_left h0
    have gt : (trim a).getD ((trim a).length - 1) 0 = a.getD (szN a - 1) 0 := by
      unfold trim
      rw [List.length_take, getD_take, Nat.min_eq_left hs, if_pos (by omega)]
    have bt := bitsOf_top hn.1 (by intro h; rw [h] at ln; simp at ln; omega) (by rw [gt]; exact ht)
    rw [gt, ln, hv] at bt
    have ga := ha.getD B_pos (szN a - 1)
    have b64 : bitsOf (a.getD (szN a - 1) 0) ≤ 64 := bitsOf_le ga.1 (n := 64) (by omega)
    have b0 := bitsOf_nonneg (a.getD (szN a - 1) 0)
    refine Ev.congr (f := fun _ => some (bitsOf (V 18446744073709551616 a))) (fun k => ?_) (Ev.now _)
    rw [e1, if_pos (by omega), if_pos (by omega), rd_nat, len64_some ga.1 ga.2]
    simp only [Option.bind_some]
    rw [w64 (x := 64 * ((szN a - 1 : Nat) : Int)) (by omega) (by omega), w64 (by omega) (by omega), bt]
end Go.Proofs.YtpdjahhimmaonaaDoor.PD
