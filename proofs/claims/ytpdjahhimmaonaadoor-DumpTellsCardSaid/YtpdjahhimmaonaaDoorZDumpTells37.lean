/- Exact numbers of binary64, and the reference's parts of one (as in the sums' texts). -/
import Derived.Test.YtpdjahhimmaonaaDoorZDumpTells36
namespace Go.Proofs.YtpdjahhimmaonaaDoor.PD
open Go.RowKit Go.Proofs.YtpdjahhimmaonaaDoorW.PrintWords Go.Proofs.YtpdjahhimmaonaaDoorW.PrintLast Go.Proofs.YtpdjahhimmaonaaDoorW.PrintMore Go.Proofs.YtpdjahhimmaonaaDoor.Num Go.Proofs.YtpdjahhimmaonaaDoor.Flt
set_option linter.unusedVariables false
set_option linter.unusedSimpArgs false
theorem tmod_nn {x y : Int} (h : 0 ≤ x) : Int.tmod x y = x % y := Int.tmod_eq_emod_of_nonneg h
theorem tdiv_nn {x y : Int} (h : 0 ≤ x) : Int.tdiv x y = x / y := Int.tdiv_eq_ediv_of_nonneg h
theorem u64_of_wf {a : Int} (h : (Lit.int .u64 a).wf = true) : 0 ≤ a ∧ a < 18446744073709551616 := by
  simp [Lit.wf, IntKind.min, IntKind.max, IntKind.signed, IntKind.bits] at h
  omega
theorem rup_no (neg : Bool) (q mode : Int) : rup neg q false false mode = false := by unfold rup; cases neg <;> simp
theorem rnd_exact (neg : Bool) {m x : Int} (mode : Int) (h0 : 0 < m) (h1 : m < 9007199254740992) (hx : -1074 ≤ x) (hx' : x ≤ 971) (hn : 4503599627370496 ≤ m ∨ x = -1074) : rnd neg m x mode = (rput neg m x, 0) := by
  have e53 : (2 : Int) ^ 53 = 9007199254740992 := by decide
  have e52 : (2 : Int) ^ 52 = 4503599627370496 := by decide
  have hb : bitsOf m ≤ 53 := bitsOf_le (by omega) (n := 53) (by omega)
  have hb2 : 4503599627370496 ≤ m → 53 ≤ bitsOf m := by
    intro h
    have := bitsOf_ge (v := m) (n := 52) (by omega)
    omega
  have he : rexp (bitsOf m) x = x := by unfold rexp; split <;> omega
  have hq : qx m x x = (m, false, false) := by
    unfold qx
    rw [show x - x = 0 by omega, up2_neg (a := 0) (by omega), Int.mul_one, qhs_one]
  unfold rnd rfin
  rw [he, hq]
  simp only [rup_no]
  rw [if_neg (show ¬ (false = true) by decide), if_neg (show ¬ 9007199254740992 ≤ m by omega), if_neg (show ¬ 9007199254740992 ≤ m by omega), if_neg (show ¬ (4503599627370496 ≤ m ∧ 971 < x) by omega), if_neg (show ¬ (false = true ∨ false = true) by decide)]
theorem put_back {a : Int} (h0 : 0 ≤ a) (h1 : a < 18446744073709551616) (hf : fex a ≠ 2047) : rput (fneg a) (fman a) (fxp a) = a := by
  have ra := fex_range a
  have fa := ffr_range a
  have ea : a % 9223372036854775808 = fex a * 4503599627370496 + ffr a := by unfold fex ffr; omega
  have hz : rzero (fneg a) = a - a % 9223372036854775808 := by
    unfold fneg rzero
    by_cases c : 9223372036854775808 ≤ a
    · rw [decide_eq_true c, if_pos rfl]; omega
    · rw [decide_eq_false c, if_neg (by decide)]; omega
  unfold rput
  rw [hz, ea]
  unfold fman fxp
  split <;> split <;> omega
theorem fin_shape {a : Int} (hf : fex a ≠ 2047) : -1074 ≤ fxp a ∧ fxp a ≤ 971 ∧ (4503599627370496 ≤ fman a ∨ fxp a = -1074) := by
  have ra := fex_range a
  have fa := ffr_range a
  unfold fxp fman
  split <;> omega
theorem rnd_self {a : Int} (h0 : 0 ≤ a) (h1 : a < 18446744073709551616) (hf : fex a ≠ 2047) (hm : 0 < fman a) (mode : Int) : rnd (fneg a) (fman a) (fxp a) mode = (a, 0) := by
  obtain ⟨s1, s2, s3⟩ := fin_shape hf
  rw [rnd_exact (fneg a) mode hm (fman_range a).2 s1 s2 s3, put_back h0 h1 hf]
theorem rclass_ev {a : Int} (h0 : 0 ≤ a) (h1 : a < 18446744073709551616) : Ev (fun k => vernierref06_Class.f k a) (fcls a) := by
  have e1 : Int.tmod (IntKind.u64.wrap (Int.tdiv a 4503599627370496)) 2048 = fex a := by rw [tdiv_nn h0, u64w (by omega) (by omega), tmod_nn (by omega)]; rfl
  have e2 : Int.tmod a 4503599627370496 = ffr a := tmod_nn h0
  have r2 := ffr_range a
  unfold vernierref06_Class.f
  rw [e1, e2]
  unfold fcls
  by_cases c1 : fex a = 2047
  · rw [if_pos c1]
    refine Ev.congr (fun k => if_pos c1) ?_
    by_cases c2 : ffr a = 0
    · rw [if_pos c2]
      refine Ev.step (f := fun _ => some 2) (fun k => ?_) (Ev.now _)
      simp only [vernierref06_Class.j0]
      rw [if_neg (by simp [c2]), if_pos c1]
    · rw [if_neg c2]
      refine Ev.step (f := fun _ => some 3) (fun k => ?_) (Ev.now _)
      simp only [vernierref06_Class.j0]
      rw [if_pos (decide_eq_true (by omega))]
  · rw [if_neg c1]
    refine Ev.congr (fun k => if_neg c1) ?_
    refine Ev.step (f := fun _ => some (if fex a = 0 ∧ ffr a = 0 then 0 else 1)) (fun k => ?_) (Ev.now _)
    simp only [vernierref06_Class.j0]
    rw [if_neg (by decide), if_neg c1]
    by_cases c3 : fex a = 0
    · by_cases c4 : ffr a = 0
      · rw [if_pos c3, if_pos c4, if_pos ⟨c3, c4⟩]
      · rw [if_pos c3, if_neg c4, if_neg (fun h => c4 h.2)]
    · rw [if_neg c3, if_neg (fun h => c3 h.1)]
theorem rsplit_some {a : Int} (h0 : 0 ≤ a) (h1 : a < 18446744073709551616) : vernierref06_Split.f a = some (fneg a, fman a, fxp a) := by
  have e1 : Int.tmod (IntKind.u64.wrap (Int.tdiv a 4503599627370496)) 2048 = fex a := by rw [tdiv_nn h0, u64w (by omega) (by omega), tmod_nn (by omega)]; rfl
  have e2 : Int.tmod a 4503599627370496 = ffr a := tmod_nn h0
  have r1 := fex_range a
  have r2 := ffr_range a
  have e3 : decide (a ≥ 9223372036854775808) = fneg a := rfl
  unfold vernierref06_Split.f
  rw [e1, e2, e3, w64 (by omega) (by omega)]
  unfold fman fxp
  by_cases c : fex a = 0
  · rw [if_pos c, if_pos c, if_pos c]
  · rw [if_neg c, if_neg c, if_neg c, w64 (by omega) (by omega), u64w (by omega) (by omega)]
end Go.Proofs.YtpdjahhimmaonaaDoor.PD
