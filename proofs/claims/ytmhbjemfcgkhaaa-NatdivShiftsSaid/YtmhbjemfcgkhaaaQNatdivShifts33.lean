/- What nat's functions compute: products, how many bits, evenness. -/
import Derived.Test.YtmhbjemfcgkhaaaQNatdivShifts26
import Derived.Test.YtmhbjemfcgkhaaaQNatdivShifts25
import Derived.Test.YtmhbjemfcgkhaaaQNatdivShifts12
import Derived.Lib.Mul64
import Derived.Laws.Bits64b
import Derived.Test.YtmhbjemfcgkhaaaQNatdivShifts13
import Derived.Test.YtmhbjemfcgkhaaaQNatdivShifts15
import Derived.Lib.Hide
import Derived.Test.YtmhbjemfcgkhaaaQNatdivShifts30
import Derived.Test.YtmhbjemfcgkhaaaQNatdivShifts31
import Derived.Test.YtmhbjemfcgkhaaaQNatdivShifts32
import Derived.WalkSmall
namespace Go.Proofs.Ytmhbjemfcgkhaaa.PA
open Go.RowKit Go.Proofs.YtmhbjemfcgkhaaaW.PrintWords Go.Proofs.YtmhbjemfcgkhaaaW.PrintLast Go.Proofs.Ytmhbjemfcgkhaaa.Num
set_option linter.unusedVariables false
set_option linter.unusedSimpArgs false
def bitsOf (v : Int) : Int := if v ≤ 0 then 0 else (v.toNat.log2 : Int) + 1
theorem bitsOf_spec {v : Int} (h : 0 ≤ v) : IsBits v (bitsOf v) := by
  unfold bitsOf
  split
  · obtain rfl : v = 0 := by omega
    exact isBits_zero
  · obtain ⟨n, rfl⟩ := Int.eq_ofNat_of_zero_le h
    have hn : n ≠ 0 := by omega
    have e : ((((n : Int).toNat.log2 : Nat) : Int) + 1).toNat = n.log2 + 1 := by simp
    refine ⟨h, by omega, ?_, .inr ?_⟩
    · rw [e]
      have := Nat.lt_log2_self (n := n)
      have h' : ((n : Nat) : Int) < ((2 ^ (n.log2 + 1) : Nat) : Int) := by omega
      simpa using h'
    · rw [e, Nat.add_sub_cancel]
      have := Nat.log2_self_le hn
      have h' : ((2 ^ n.log2 : Nat) : Int) ≤ (n : Int) := by omega
      simpa using h'
theorem bitsOf_eq {v n : Int} (h : IsBits v n) : n = bitsOf v := h.uniq (bitsOf_spec h.1)
theorem bitLenAux_isBits : ∀ (f x : Nat), x < 2 ^ f → IsBits (x : Int) (Lib.bitLenAux f x)
  | 0, x, h => by
    obtain rfl : x = 0 := by simpa using h
    exact isBits_zero
  | f + 1, x, h => by
    simp only [Lib.bitLenAux]
    split
    · rename_i e
      subst e
      exact isBits_zero
    · rename_i e
      have ih := bitLenAux_isBits f (x / 2) (by rw [Nat.pow_succ] at h; omega)
      have := IsBits.half (v := (x : Int)) (n := Lib.bitLenAux f (x / 2)) (by omega) (by
        have e2 : ((x : Int) / 2) = ((x / 2 : Nat) : Int) := by omega
        rw [e2]
        exact ih)
      have e3 : (((1 + Lib.bitLenAux f (x / 2) : Nat)) : Int) = ((Lib.bitLenAux f (x / 2) : Nat) : Int) + 1 := by omega
      rw [e3]
      exact this
theorem len64_some {x : Int} (h0 : 0 ≤ x) (h1 : x < 18446744073709551616) : bits_Len64.f x = some (bitsOf x) := by
  unfold bits_Len64.f
  rw [if_pos ⟨h0, by omega⟩]
  congr 1
  have := bitLenAux_isBits 64 x.toNat (by omega)
  rw [Int.toNat_of_nonneg h0] at this
  exact bitsOf_eq this
theorem bitsOf_pos {v : Int} (h : 0 < v) : 0 < bitsOf v := by unfold bitsOf; rw [if_neg (by omega)]; omega
theorem bitsOf_nonneg (v : Int) : 0 ≤ bitsOf v := by unfold bitsOf; split <;> omega
theorem bitsOf_le {v : Int} (h : 0 ≤ v) {n : Nat} (hv : v < 2 ^ n) : bitsOf v ≤ n := IsBits.le_of (bitsOf_spec h) (m := n) (by omega) (by simpa using hv)
theorem bitsOf_lt_pow {v : Int} (h : 0 ≤ v) : v < 2 ^ (bitsOf v).toNat := (bitsOf_spec h).2.2.1
theorem bitsOf_top {l : List Int} (h : Dig 18446744073709551616 l) (hne : l ≠ []) (ht : l.getD (l.length - 1) 0 ≠ 0) : bitsOf (V 18446744073709551616 l) = 64 * (l.length - 1 : Nat) + bitsOf (l.getD (l.length - 1) 0) := by
  have g := h.getD B_pos (l.length - 1)
  have hp : 0 < bitsOf (l.getD (l.length - 1) 0) := bitsOf_pos (by omega)
  have := IsBits.last (B := 18446744073709551616) (s := 64) (by decide) h hne (bitsOf_spec g.1) (by omega)
  exact (bitsOf_eq this).symm
theorem bits_ev (a : List Int) (ha : Dig 18446744073709551616 a) (hl : a.length ≤ 35184372088832) : Ev (fun k => nat_Bits.f k a) (bitsOf (V 18446744073709551616 a)) := by
  unfold nat_Bits.f
  refine Ev.bind (size_ev a (by omega)) ?_
  have hs := szN_le a
  have hv := trim_val 18446744073709551616 a
  have hn := trim_nrm (B := 18446744073709551616) ha
  have ln : (trim a).length = szN a := by unfold trim; rw [List.length_take]; omega
  by_cases h0 : szN a = 0
  · refine Ev.congr (fun k => if_pos (by omega)) ?_
    have : trim a = [] := List.length_eq_zero_iff.1 (by omega)
    rw [← hv, this]
    exact Ev.now _
  · refine Ev.congr (fun k => if_neg (by omega)) ?_
    have e1 : wrap64 ((szN a : Int) - 1) = ((szN a - 1 : Nat) : Int) := by rw [w64 (by omega) (by omega)]; omega
    have ht : a.getD (szN a - 1) 0 ≠ 0 := (szN_top a).resolve_left h0
    have gt : (trim a).getD ((trim a).length - 1) 0 = a.getD (szN a - 1) 0 := by
      unfold trim
      rw [List.length_take, getD_take, Nat.min_eq_left hs, if_pos (by omega)]
    have bt := bitsOf_top hn.1 (by intro h; rw [h] at ln; simp at ln; omega) (by rw [gt]; exact ht)
    rw [gt, ln, hv] at bt
    have ga := ha.getD B_pos (szN a - 1)
    have b64 : bitsOf (a.getD (szN a - 1) 0) ≤ 64 := bitsOf_le ga.1 (n := 64) (by omega)
    have b0 := bitsOf_nonneg (a.getD (szN a - 1) 0)
    refine Ev.congr (f := fun _ => some (bitsOf (V 18446744073709551616 a))) (fun k => ?_) (Ev.now _)
    rw [e1, if_pos (by omega), if_pos (by omega), rd_nat, len64_some ga.1 ga.2]
    simp only [Option.bind_some]
    rw [w64 (x := 64 * ((szN a - 1 : Nat) : Int)) (by omega) (by omega), w64 (by omega) (by omega), bt]
end Go.Proofs.Ytmhbjemfcgkhaaa.PA
