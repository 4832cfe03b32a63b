/- What parts' functions compute: binary64 numbers taken apart, rounded, put together. -/
import Derived.Test.YtpdjahhimmaonaaDoorZDumpBack43
import Derived.Laws.Bits64
namespace Go.Proofs.YtpdjahhimmaonaaDoor.PE
open Go.RowKit Go.Proofs.YtpdjahhimmaonaaDoorW.PrintWords Go.Proofs.YtpdjahhimmaonaaDoorW.PrintLast Go.Proofs.YtpdjahhimmaonaaDoorW.PrintMore Go.Proofs.YtpdjahhimmaonaaDoor.Num Go.Proofs.YtpdjahhimmaonaaDoor.Flt
set_option linter.unusedVariables false
set_option linter.unusedSimpArgs false
theorem and_mask {x m : Int} (i : Nat) (hm : (2 : Int) ^ i - 1 = m) (hi : i ≤ 64) (h0 : 0 ≤ x) (h1 : x < 18446744073709551616) : Go.bits .and .u64 x m = x % 2 ^ i := by
  rw [← hm]
  exact bits_mask .u64 64 (by decide) wraps_u64 i hi x h0 h1
theorem and_one {x : Int} (h0 : 0 ≤ x) (h1 : x < 18446744073709551616) : Go.bits .and .u64 x 1 = x % 2 := and_mask 1 (by decide) (by decide) h0 h1
theorem and_frac {x : Int} (h0 : 0 ≤ x) (h1 : x < 18446744073709551616) : Go.bits .and .u64 x 4503599627370495 = x % 4503599627370496 := and_mask 52 (by decide) (by decide) h0 h1
theorem and_exp {x : Int} (h0 : 0 ≤ x) (h1 : x < 18446744073709551616) : Go.bits .and .u64 x 2047 = x % 2048 := and_mask 11 (by decide) (by decide) h0 h1
theorem and_nat (n : Nat) (hn : n < 2 ^ 64) : n &&& 2 ^ 63 = if n < 2 ^ 63 then 0 else 2 ^ 63 := by
  refine Nat.eq_of_testBit_eq fun i => ?_
  rw [Nat.testBit_and, Nat.testBit_two_pow]
  by_cases hi : i = 63
  · subst hi
    rw [decide_eq_true rfl, Bool.and_true, Nat.testBit_eq_decide_div_mod_eq]
    by_cases h : n < 2 ^ 63
    · rw [if_pos h]
      have : n / 2 ^ 63 % 2 = 0 := by omega
      rw [this]
      rfl
    · rw [if_neg h]
      have : n / 2 ^ 63 % 2 = 1 := by omega
      rw [this]
      decide
  · rw [decide_eq_false (fun h => hi h.symm), Bool.and_false]
    split
    · simp
    · rw [Nat.testBit_two_pow, decide_eq_false (fun h => hi h.symm)]
theorem and_sign {x : Int} (h0 : 0 ≤ x) (h1 : x < 18446744073709551616) : Go.bits .and .u64 x 9223372036854775808 = if x < 9223372036854775808 then 0 else 9223372036854775808 := by
  obtain ⟨n, rfl⟩ := Int.eq_ofNat_of_zero_le h0
  have e := bits_and_u64_nat n (2 ^ 63) (by omega) (by decide)
  rw [show (((2 ^ 63 : Nat)) : Int) = 9223372036854775808 by decide] at e
  rw [e, and_nat n (by omega)]
  by_cases h : n < 9223372036854775808
  · rw [if_pos (by omega), if_pos (by omega)]; rfl
  · rw [if_neg (by omega), if_neg (by omega)]; rfl
theorem or_top {z x : Int} (hz : z = 0 ∨ z = 9223372036854775808) (h0 : 0 ≤ x) (h1 : x < 9223372036854775808) : Go.bits .or .u64 z x = z + x := by
  have e63 : (2 : Int) ^ 63 = 9223372036854775808 := by decide
  refine or_high (s := 63) (by omega) (by omega) ?_ h0 (by omega) (by omega)
  rcases hz with rfl | rfl <;> decide
def fex (a : Int) : Int := a / 4503599627370496 % 2048
def ffr (a : Int) : Int := a % 4503599627370496
def fcls (a : Int) : Int := if fex a = 2047 then (if ffr a = 0 then 2 else 3) else if fex a = 0 ∧ ffr a = 0 then 0 else 1
def fneg (a : Int) : Bool := decide (9223372036854775808 ≤ a)
def fman (a : Int) : Int := if fex a = 0 then ffr a else ffr a + 4503599627370496
def fxp (a : Int) : Int := if fex a = 0 then -1074 else fex a - 1075
theorem fex_range (a : Int) : 0 ≤ fex a ∧ fex a ≤ 2047 := by unfold fex; omega
theorem ffr_range (a : Int) : 0 ≤ ffr a ∧ ffr a < 4503599627370496 := by unfold ffr; omega
theorem fman_range (a : Int) : 0 ≤ fman a ∧ fman a < 9007199254740992 := by have := ffr_range a; unfold fman; split <;> omega
theorem fxp_range (a : Int) : -1074 ≤ fxp a ∧ fxp a ≤ 972 := by have := fex_range a; unfold fxp; split <;> omega
theorem fcls_range (a : Int) : 0 ≤ fcls a ∧ fcls a ≤ 3 := by unfold fcls; split <;> split <;> omega
theorem fcls_fin {a : Int} : fcls a ≤ 1 ↔ fex a ≠ 2047 := by unfold fcls; split <;> split <;> omega
theorem class_ev {a : Int} (h0 : 0 ≤ a) (h1 : a < 18446744073709551616) : Ev (fun k => parts_Class.f k a) (fcls a) := by
  have e1 : Go.bits .and .u64 (a / 4503599627370496) 2047 = fex a := and_exp (by omega) (by omega)
  have e2 : Go.bits .and .u64 a 4503599627370495 = ffr a := and_frac h0 h1
  unfold parts_Class.f
  rw [e1, e2]
  unfold fcls
  by_cases c1 : fex a = 2047
  · rw [if_pos c1]
    refine Ev.congr (fun k => if_pos c1) ?_
    by_cases c2 : ffr a = 0
    · rw [if_pos c2]
      refine Ev.step (f := fun _ => some 2) (fun k => ?_) (Ev.now _)
      simp only [parts_Class.j0]
      rw [if_neg (by simp [c2]), if_pos c1]
    · rw [if_neg c2]
      refine Ev.step (f := fun _ => some 3) (fun k => ?_) (Ev.now _)
      simp only [parts_Class.j0]
      rw [if_pos (by simp [c2])]
  · rw [if_neg c1]
    refine Ev.congr (fun k => if_neg c1) ?_
    refine Ev.step (f := fun _ => some (if fex a = 0 ∧ ffr a = 0 then 0 else 1)) (fun k => ?_) (Ev.now _)
    simp only [parts_Class.j0]
    rw [if_neg (by decide), if_neg c1]
    by_cases c3 : fex a = 0
    · by_cases c4 : ffr a = 0
      · rw [if_pos c3, if_pos c4, if_pos ⟨c3, c4⟩]
      · rw [if_pos c3, if_neg c4, if_neg (fun h => c4 h.2)]
    · rw [if_neg c3, if_neg (fun h => c3 h.1)]
theorem split_some {a : Int} (h0 : 0 ≤ a) (h1 : a < 18446744073709551616) (hc : fex a ≠ 2047) : parts_Split.f a = some (fneg a, fman a, fxp a, 0) := by
  have e1 : Go.bits .and .u64 (a / 4503599627370496) 2047 = fex a := and_exp (by omega) (by omega)
  have e2 : Go.bits .and .u64 a 4503599627370495 = ffr a := and_frac h0 h1
  have r1 := fex_range a
  have r2 := ffr_range a
  have e3 : (Go.bits .and .u64 a 9223372036854775808 != 0) = fneg a := by
    rw [and_sign h0 h1]
    unfold fneg
    by_cases c : a < 9223372036854775808
    · rw [if_pos c, decide_eq_false (by omega)]; rfl
    · rw [if_neg c, decide_eq_true (by omega)]; rfl
  unfold parts_Split.f
  rw [e1, e2, e3, w64 (by omega) (by omega), if_neg hc]
  unfold fman fxp
  by_cases c : fex a = 0
  · rw [if_pos c, if_pos c, if_pos c]
  · have e4 : Go.bits .or .u64 (ffr a) 4503599627370496 = ffr a + 4503599627370496 := by
      refine or_low (s := 52) (by omega) (by omega) (by decide) r2.1 ?_ (by omega)
      have : (2 : Int) ^ 52 = 4503599627370496 := by decide
      omega
    rw [if_neg c, if_neg c, if_neg c, e4, w64 (by omega) (by omega)]
theorem len_some {hi lo : Int} (h0 : 0 ≤ hi) (h1 : hi < 18446744073709551616) (l0 : 0 ≤ lo) (l1 : lo < 18446744073709551616) : parts_wide_len.f hi lo = some (bitsOf (hi * 18446744073709551616 + lo)) := by
  unfold parts_wide_len.f
  by_cases c : hi = 0
  · subst c
    rw [if_pos rfl, len64_some l0 l1]
    simp
  · rw [if_neg c, len64_some h0 h1]
    have e64 : (2 : Int) ^ 64 = 18446744073709551616 := by decide
    have hb := bitsOf_le h0 (n := 64) (by omega)
    have hn := bitsOf_nonneg hi
    simp only [Option.bind_some]
    rw [w64 (by omega) (by omega)]
    congr 1
    have e : (hi * 18446744073709551616 + lo) / 2 ^ 64 = hi := by
      have : (2 : Int) ^ 64 = 18446744073709551616 := by decide
      rw [this]
      omega
    have := bitsOf_cut (N := hi * 18446744073709551616 + lo) 64 (by rw [e]; omega)
    rw [e] at this
    omega
theorem two_div {W : Int} (m n : Nat) : W / 2 ^ m / 2 ^ n = W / 2 ^ (m + n) := by
  rw [ediv_two (two_pow_pos m), Int.pow_add]
theorem shr_some {hi lo : Int} (h0 : 0 ≤ hi) (h1 : hi < 18446744073709551616) (l0 : 0 ≤ lo) (l1 : lo < 18446744073709551616) (n : Nat) (hn : n < 4611686018427387904) :
    parts_wide_shr.f hi lo (n : Int) = some ((hi * 18446744073709551616 + lo) / 2 ^ n / 18446744073709551616, (hi * 18446744073709551616 + lo) / 2 ^ n % 18446744073709551616) := by
  have e64 : (2 : Int) ^ 64 = 18446744073709551616 := by decide
  unfold parts_wide_shr.f
  by_cases c1 : 128 ≤ n
  · rw [if_pos (by omega)]
    have hz : (hi * 18446744073709551616 + lo) / 2 ^ n = 0 := by
      refine Int.ediv_eq_zero_of_lt (by omega) ?_
      have : (2 : Int) ^ 128 ≤ 2 ^ n := two_pow_mono c1
      have e128 : (2 : Int) ^ 128 = 18446744073709551616 * 18446744073709551616 := by decide
      omega
    rw [hz]
    rfl
  rw [if_neg (by omega)]
  by_cases c2 : 64 ≤ n
  · rw [if_pos (by omega), w64 (by omega) (by omega), if_pos (by omega)]
    have es : (n : Int) - 64 = ((n - 64 : Nat) : Int) := by omega
    rw [es, shr_u64 (by omega)]
    have ez : (hi * 18446744073709551616 + lo) / 2 ^ n = hi / 2 ^ (n - 64) := by
      rw [show n = 64 + (n - 64) by omega, ← two_div, e64, show (hi * 18446744073709551616 + lo) / 18446744073709551616 = hi by omega, show 64 + (n - 64) - 64 = n - 64 by omega]
    rw [ez]
    have q0 : 0 ≤ hi / 2 ^ (n - 64) := Int.ediv_nonneg h0 (Int.le_of_lt (two_pow_pos _))
    have q1 : hi / 2 ^ (n - 64) ≤ hi := Int.ediv_le_self _ h0
    rw [Int.ediv_eq_zero_of_lt q0 (by omega), Int.emod_eq_of_lt q0 (by omega)]
  rw [if_neg (by omega)]
  by_cases c3 : n = 0
  · subst c3
    rw [if_pos (by omega), Int.pow_zero, Int.ediv_one]
    have z1 : (hi * 18446744073709551616 + lo) / 18446744073709551616 = hi := by omega
    have z2 : (hi * 18446744073709551616 + lo) % 18446744073709551616 = lo := by omega
    rw [z1, z2]
  · rw [if_neg (by omega), if_pos (by omega), w64 (by omega) (by omega), if_pos (by omega), shr_u64 (by omega), shr_u64 (by omega)]
    have es : (64 : Int) - (n : Int) = ((64 - n : Nat) : Int) := by omega
    rw [es, shl_u64 (by omega)]
    have hP := two_pow_pos n
    have hQ := two_pow_pos (64 - n)
    have hB := two64 (s := n) (by omega)
    have lq0 : 0 ≤ lo / 2 ^ n := Int.ediv_nonneg l0 (by omega)
    have lq1 : lo / 2 ^ n < 2 ^ (64 - n) := Int.ediv_lt_of_lt_mul hP (by rw [Int.mul_comm, hB]; exact l1)
    have m := mod_shift (P := 2 ^ (64 - n)) (Q := 2 ^ n) hQ hP (by rw [Int.mul_comm]; exact hB) h0
    have mm0 := Int.emod_nonneg hi (show (2 : Int) ^ n ≠ 0 by omega)
    have mm1 := Int.emod_lt_of_pos hi hP
    have hd := Int.emod_add_mul_ediv hi (2 ^ n)
    rw [m]
    have t0 : 0 ≤ (2 : Int) ^ (64 - n) * (hi % 2 ^ n) := Int.mul_nonneg (by omega) mm0
    have t1 : (2 : Int) ^ (64 - n) * (hi % 2 ^ n) ≤ 2 ^ (64 - n) * (2 ^ n - 1) := Int.mul_le_mul_of_nonneg_left (by omega) (by omega)
    have t2 : (2 : Int) ^ (64 - n) * (2 ^ n - 1) = 18446744073709551616 - 2 ^ (64 - n) := by rw [Int.mul_sub, Int.mul_comm, hB, Int.mul_one]
    have eo : Go.bits .or .u64 (lo / 2 ^ n) (2 ^ (64 - n) * (hi % 2 ^ n)) = lo / 2 ^ n + 2 ^ (64 - n) * (hi % 2 ^ n) :=
      or_low t0 (by omega) (Int.mul_emod_right _ _) lq0 lq1 (by omega)
    have ew : (hi * 18446744073709551616 + lo) / 2 ^ n = hi * 2 ^ (64 - n) + lo / 2 ^ n := by
      rw [← hB, show hi * (2 ^ n * 2 ^ (64 - n)) + lo = lo + 2 ^ n * (hi * 2 ^ (64 - n)) by grind, Int.add_mul_ediv_left _ _ (by omega)]
      omega
    have ex : hi * 2 ^ (64 - n) + lo / 2 ^ n = (lo / 2 ^ n + 2 ^ (64 - n) * (hi % 2 ^ n)) + 18446744073709551616 * (hi / 2 ^ n) := by
      rw [← hB]
      generalize (2 : Int) ^ n = P at *
      generalize (2 : Int) ^ (64 - n) = Q at *
      have : Q * (hi % P + P * (hi / P)) = Q * hi := by rw [hd]
      grind
    have s0 : 0 ≤ lo / 2 ^ n + 2 ^ (64 - n) * (hi % 2 ^ n) := by omega
    have s1 : lo / 2 ^ n + 2 ^ (64 - n) * (hi % 2 ^ n) < 18446744073709551616 := by omega
    rw [eo, ew, ex, Int.add_mul_ediv_left _ _ (by decide), Int.ediv_eq_zero_of_lt s0 s1, Int.zero_add, Int.add_mul_emod_self_left, Int.emod_eq_of_lt s0 s1]
theorem mod_two_pow_succ (W : Int) (i : Nat) : W % 2 ^ (i + 1) = W % 2 ^ i + 2 ^ i * (W / 2 ^ i % 2) := by
  have hP := two_pow_pos i
  have h1 := Int.emod_add_mul_ediv W (2 ^ i)
  have h2 := Int.emod_add_mul_ediv (W / 2 ^ i) 2
  have m0 := Int.emod_nonneg W (show (2 : Int) ^ i ≠ 0 by omega)
  have m1 := Int.emod_lt_of_pos W hP
  have b0 := Int.emod_nonneg (W / 2 ^ i) (show (2 : Int) ≠ 0 by omega)
  have b1 := Int.emod_lt_of_pos (W / 2 ^ i) (show (0 : Int) < 2 by omega)
  generalize W / 2 ^ i % 2 = b at *
  generalize W / 2 ^ i / 2 = c at *
  generalize W / 2 ^ i = d at *
  generalize W % 2 ^ i = r at *
  rw [Int.pow_succ]
  have e : W = (r + 2 ^ i * b) + 2 ^ i * 2 * c := by rw [← h1, ← h2]; grind
  have hb : b = 0 ∨ b = 1 := by omega
  rw [e, Int.add_mul_emod_self_left, Int.emod_eq_of_lt]
  · rcases hb with rfl | rfl <;> omega
  · rcases hb with rfl | rfl <;> omega
theorem qhs_bits (W : Int) (n : Nat) : qhs W (2 ^ (n + 1)) = (W / 2 ^ (n + 1), decide (W / 2 ^ n % 2 = 1), decide (W % 2 ^ n ≠ 0)) := by
  have hP := two_pow_pos n
  have m0 := Int.emod_nonneg W (show (2 : Int) ^ n ≠ 0 by omega)
  have m1 := Int.emod_lt_of_pos W hP
  have hb : W / 2 ^ n % 2 = 0 ∨ W / 2 ^ n % 2 = 1 := by omega
  unfold qhs
  rw [mod_two_pow_succ, Int.pow_succ]
  generalize W % 2 ^ n = r at *
  generalize W / 2 ^ n % 2 = b at *
  generalize (2 : Int) ^ n = P at *
  congr 1
  congr 1
  · refine decide_eq_decide.2 ?_
    rcases hb with rfl | rfl <;> simp <;> omega
  · refine decide_eq_decide.2 ?_
    rcases hb with rfl | rfl <;> simp <;> omega
theorem cut_loop {hi lo : Int} (h0 : 0 ≤ hi) (h1 : hi < 18446744073709551616) (l0 : 0 ≤ lo) (l1 : lo < 18446744073709551616) (q : Int) (h : Bool) (M : Nat) (hM : M ≤ 128) : ∀ (d i : Nat), M = i + d → (hi * 18446744073709551616 + lo) % 2 ^ i = 0 →
    Ev (fun k => parts_wide_cut.l0 k q h (M : Int) (i : Int) hi lo) (q, h, decide ((hi * 18446744073709551616 + lo) % 2 ^ M ≠ 0))
  | 0, i, hi', hz => by
    obtain rfl : M = i := by omega
    refine Ev.step (f := fun _ => some _) (fun k => ?_) (Ev.now _)
    simp only [parts_wide_cut.l0]
    rw [if_neg (by omega), decide_eq_false (by simp [hz])]
  | d + 1, i, hi', hz => by
    have es := shr_some h0 h1 l0 l1 i (by omega)
    have a0 : 0 ≤ (hi * 18446744073709551616 + lo) / 2 ^ i := Int.ediv_nonneg (by omega) (Int.le_of_lt (two_pow_pos _))
    have em : Go.bits .and .u64 ((hi * 18446744073709551616 + lo) / 2 ^ i % 18446744073709551616) 1 = (hi * 18446744073709551616 + lo) / 2 ^ i % 2 := by
      rw [and_one (by omega) (by omega)]
      omega
    have hs := mod_two_pow_succ (hi * 18446744073709551616 + lo) i
    by_cases hb : (hi * 18446744073709551616 + lo) / 2 ^ i % 2 = 1
    · have hn : (hi * 18446744073709551616 + lo) % 2 ^ M ≠ 0 := by
        intro hc
        have hd : (hi * 18446744073709551616 + lo) % 2 ^ (i + 1) = 0 := by
          have := Int.emod_emod_of_dvd (hi * 18446744073709551616 + lo) (show (2 : Int) ^ (i + 1) ∣ 2 ^ M from ⟨2 ^ (M - (i + 1)), by rw [← Int.pow_add]; congr 1; omega⟩)
          rw [hc] at this
          rw [← this]
          rfl
        have := two_pow_pos i
        rw [hs, hz, hb] at hd
        omega
      refine Ev.step (f := fun _ => some (q, h, true)) (fun k => ?_) (by rw [decide_eq_true hn]; exact Ev.now _)
      simp only [parts_wide_cut.l0]
      rw [if_pos (by omega), es]
      simp only [Option.bind_some]
      rw [em, if_pos hb]
    · have hb' : (hi * 18446744073709551616 + lo) / 2 ^ i % 2 = 0 := by omega
      refine Ev.step (f := fun k => parts_wide_cut.l0 k q h (M : Int) ((i + 1 : Nat) : Int) hi lo) (fun k => ?_) (cut_loop h0 h1 l0 l1 q h M hM d (i + 1) (by omega) (by rw [hs, hz, hb']; simp))
      simp only [parts_wide_cut.l0]
      rw [if_pos (by omega), es]
      simp only [Option.bind_some]
      rw [em, if_neg hb, w64 (by omega) (by omega)]
      rfl
theorem mod_small {W : Int} (h0 : 0 ≤ W) {m n : Nat} (h : W < 2 ^ m) (hmn : m ≤ n) : W % 2 ^ n = W := Int.emod_eq_of_lt h0 (Int.lt_of_lt_of_le h (two_pow_mono hmn))
theorem cut_pos {hi lo : Int} (h0 : 0 ≤ hi) (h1 : hi < 18446744073709551616) (l0 : 0 ≤ lo) (l1 : lo < 18446744073709551616) (n : Nat) (hn : n < 1073741824) :
    Ev (fun k => parts_wide_cut.f k hi lo ((n + 1 : Nat) : Int)) ((hi * 18446744073709551616 + lo) / 2 ^ (n + 1) % 18446744073709551616, decide ((hi * 18446744073709551616 + lo) / 2 ^ n % 2 = 1), decide ((hi * 18446744073709551616 + lo) % 2 ^ n ≠ 0)) := by
  have e1 := shr_some h0 h1 l0 l1 (n + 1) (by omega)
  have e2 := shr_some h0 h1 l0 l1 n (by omega)
  have ew : wrap64 (((n + 1 : Nat) : Int) - 1) = (n : Int) := by rw [w64 (by omega) (by omega)]; omega
  have a0 : 0 ≤ (hi * 18446744073709551616 + lo) / 2 ^ n := Int.ediv_nonneg (by omega) (Int.le_of_lt (two_pow_pos _))
  have em : (Go.bits .and .u64 ((hi * 18446744073709551616 + lo) / 2 ^ n % 18446744073709551616) 1 == 1) = decide ((hi * 18446744073709551616 + lo) / 2 ^ n % 2 = 1) := by
    rw [and_one (by omega) (by omega)]
    rw [Bool.eq_iff_iff, beq_iff_eq, decide_eq_true_eq]
    omega
  unfold parts_wide_cut.f
  refine Ev.congr (fun k => if_neg (by omega)) ?_
  rw [ew, e1, e2]
  simp only [Option.bind_some]
  rw [em]
  by_cases c : 128 < n
  · refine Ev.congr (fun k => if_pos (by omega)) ?_
    have := cut_loop h0 h1 l0 l1 ((hi * 18446744073709551616 + lo) / 2 ^ (n + 1) % 18446744073709551616) (decide ((hi * 18446744073709551616 + lo) / 2 ^ n % 2 = 1)) 128 (by omega) 128 0 (by omega) (by simp [Int.emod_one])
    have e128 : (2 : Int) ^ 128 = 18446744073709551616 * 18446744073709551616 := by decide
    have hlt : hi * 18446744073709551616 + lo < 2 ^ 128 := by rw [e128]; omega
    rw [mod_small (m := 128) (by omega) hlt (by omega)] at this
    rw [mod_small (m := 128) (by omega) hlt (by omega)]
    exact this
  · refine Ev.congr (fun k => if_neg (by omega)) ?_
    exact cut_loop h0 h1 l0 l1 _ _ n (by omega) n 0 (by omega) (by simp [Int.emod_one])
theorem cut_zero {hi lo : Int} (n : Nat) (hn : n ≤ 64) : Ev (fun k => parts_wide_cut.f k hi lo (-(n : Int))) (lo * 2 ^ n % 18446744073709551616, false, false) := by
  unfold parts_wide_cut.f
  rw [w64 (by omega) (by omega), show -(-(n : Int)) = (n : Int) by omega, shl_u64 hn]
  exact Ev.congr (fun k => (if_pos (by omega)).trans (if_pos (by omega))) (Ev.now _)
theorem cut_qx {hi lo : Int} (h0 : 0 ≤ hi) (h1 : hi < 18446744073709551616) (l0 : 0 ≤ lo) (l1 : lo < 18446744073709551616) (x e : Int) (he : bitsOf (hi * 18446744073709551616 + lo) + x - 53 ≤ e) (hW : 0 < hi * 18446744073709551616 + lo) (hx : -100000 ≤ x) (hx' : x ≤ 100000) (he' : -100000 ≤ e) (he'' : e ≤ 200000) :
    Ev (fun k => parts_wide_cut.f k hi lo (e - x)) (qx (hi * 18446744073709551616 + lo) x e) := by
  have hlt := qx_lt (N := hi * 18446744073709551616 + lo) (x := x) (by omega) he
  by_cases c : e ≤ x
  · have hb := bitsOf_pos hW
    obtain ⟨n, hn⟩ : ∃ n : Nat, x - e = n := ⟨(x - e).toNat, by omega⟩
    have hn2 : n ≤ 53 := by omega
    have hl := bitsOf_lt_pow (v := hi * 18446744073709551616 + lo) (by omega)
    have h53 : (2 : Int) ^ (bitsOf (hi * 18446744073709551616 + lo)).toNat ≤ 2 ^ 53 := two_pow_mono (by omega)
    have e53 : (2 : Int) ^ 53 = 9007199254740992 := by decide
    have hi0 : hi = 0 := by omega
    subst hi0
    simp only [Int.zero_mul, Int.zero_add] at *
    have hq : qx lo x e = (lo * 2 ^ n, false, false) := by
      unfold qx
      rw [up2_neg (a := e - x) (by omega), hn, up2_nat, qhs_one]
    rw [hq] at hlt ⊢
    have := cut_zero (hi := 0) (lo := lo) n (by omega)
    rw [show e - x = -(n : Int) by omega]
    rw [Int.emod_eq_of_lt hlt.1 (by have := hlt.2; simp only at this; omega)] at this
    exact this
  · obtain ⟨n, hn⟩ : ∃ n : Nat, e - x = ((n + 1 : Nat) : Int) := ⟨(e - x - 1).toNat, by omega⟩
    have hq : qx (hi * 18446744073709551616 + lo) x e = ((hi * 18446744073709551616 + lo) / 2 ^ (n + 1), decide ((hi * 18446744073709551616 + lo) / 2 ^ n % 2 = 1), decide ((hi * 18446744073709551616 + lo) % 2 ^ n ≠ 0)) := by
      unfold qx
      rw [up2_neg (a := x - e) (by omega), Int.mul_one, hn, up2_nat, qhs_bits]
    rw [hq] at hlt ⊢
    have := cut_pos h0 h1 l0 l1 n (by omega)
    rw [Int.emod_eq_of_lt hlt.1 (by have := hlt.2; simp only at this; omega)] at this
    rw [hn]
    exact this
theorem up_some (neg : Bool) (q : Int) (h s : Bool) (mode : Int) (h0 : 0 ≤ q) (h1 : q < 18446744073709551616) : parts_up.f neg q h s mode = some (rup neg q h s mode) := by
  have e : (Go.bits .and .u64 q 1 == 1) = decide (q % 2 = 1) := by rw [and_one h0 h1]; rw [Bool.eq_iff_iff]; simp
  unfold parts_up.f rup
  rw [e]
  by_cases m1 : mode = 1
  · rw [if_pos m1, if_pos m1]
  · rw [if_neg m1, if_neg m1]
    by_cases m2 : mode = 2
    · rw [if_pos m2, if_pos m2]
    · rw [if_neg m2, if_neg m2]
      by_cases m3 : mode = 3
      · rw [if_pos m3, if_pos m3]
        cases neg <;> cases h <;> rfl
      · rw [if_neg m3, if_neg m3]
        by_cases m4 : mode = 4
        · rw [if_pos m4, if_pos m4]
          cases neg <;> cases h <;> rfl
        · rw [if_neg m4, if_neg m4]
          cases h <;> cases s <;> rfl
theorem zero_some (neg : Bool) : parts_Zero.f neg = some (rzero neg) := by cases neg <;> rfl
theorem rzero_or (neg : Bool) : rzero neg = 0 ∨ rzero neg = 9223372036854775808 := by cases neg <;> simp [rzero]
theorem inf_some (neg : Bool) : parts_Inf.f neg = some (rinf neg) := by
  unfold parts_Inf.f
  rw [zero_some]
  simp only [Option.bind_some]
  rw [or_top (rzero_or neg) (by decide) (by decide)]
  rfl
theorem rinf_range (neg : Bool) : 9218868437227405312 ≤ rinf neg ∧ rinf neg < 18446744073709551616 := by unfold rinf; rcases rzero_or neg with h | h <;> omega
theorem greatest_some (neg : Bool) : parts_greatest.f neg = some (rinf neg - 1) := by
  have := rinf_range neg
  unfold parts_greatest.f
  rw [inf_some]
  simp only [Option.bind_some]
  rw [u64w (by omega) (by omega)]
theorem over_ev (neg : Bool) (mode : Int) : Ev (fun k => parts_over.f k neg mode) (rover neg mode) := by
  have t1 : Ev (fun k => parts_over.j0 k neg true) (rinf neg, 20) := Ev.step (f := fun _ => some (rinf neg, 20)) (fun k => by simp only [parts_over.j0]; rw [if_pos trivial, inf_some]; rfl) (Ev.now _)
  have t2 : Ev (fun k => parts_over.j0 k neg false) (rinf neg - 1, 20) := Ev.step (f := fun _ => some (rinf neg - 1, 20)) (fun k => by simp only [parts_over.j0]; rw [if_neg (by decide), greatest_some]; rfl) (Ev.now _)
  unfold parts_over.f rover
  by_cases a1 : mode < 2
  · rw [if_neg (by omega)]
    exact Ev.congr (fun k => if_pos a1) t1
  · by_cases a2 : mode > 4
    · rw [if_neg (by omega)]
      exact Ev.congr (fun k => (if_neg a1).trans (if_pos a2)) t1
    · by_cases a3 : mode = 3
      · cases neg
        · rw [if_neg (by simp; omega)]
          exact Ev.congr (fun k => ((if_neg a1).trans (if_neg a2)).trans ((if_pos a3).trans (if_neg (by decide)))) t1
        · rw [if_pos (by simp; omega)]
          exact Ev.congr (fun k => ((if_neg a1).trans (if_neg a2)).trans ((if_pos a3).trans ((if_pos rfl).trans (if_neg (by omega))))) t2
      · by_cases a4 : mode = 4
        · cases neg
          · rw [if_pos (by simp; omega)]
            exact Ev.congr (fun k => ((if_neg a1).trans (if_neg a2)).trans ((if_neg a3).trans (if_pos a4))) t2
          · rw [if_neg (by simp; omega)]
            exact Ev.congr (fun k => ((if_neg a1).trans (if_neg a2)).trans ((if_neg a3).trans (if_pos a4))) t1
        · rw [if_pos (by omega)]
          exact Ev.congr (fun k => ((if_neg a1).trans (if_neg a2)).trans ((if_neg a3).trans (if_neg a4))) t2
theorem put_some (neg : Bool) (q e : Int) (h0 : 0 ≤ q) (h1 : q < 9007199254740992) (he : 4503599627370496 ≤ q → -1074 ≤ e ∧ e ≤ 971) : parts_put.f neg q e = some (rput neg q e) := by
  have hz := rzero_or neg
  unfold parts_put.f rput
  by_cases c : q < 4503599627370496
  · rw [if_pos c, if_pos c, zero_some]
    simp only [Option.bind_some]
    rw [or_top hz h0 (by omega)]
  · obtain ⟨e0, e1⟩ := he (by omega)
    rw [if_neg c, if_neg c, zero_some]
    simp only [Option.bind_some]
    rw [w64 (by omega) (by omega), u64w (x := e + 1075) (by omega) (by omega), u64w (by omega) (by omega), or_top hz (by omega) (by omega), and_frac (by omega) (by omega)]
    have em : q % 4503599627370496 = q - 4503599627370496 := by omega
    rw [em]
    congr 1
    refine or_high (s := 52) ?_ ?_ ?_ (by omega) ?_ (by omega)
    · rcases hz with h | h <;> omega
    · rcases hz with h | h <;> omega
    · rw [show (2 : Int) ^ 52 = 4503599627370496 by decide]
      rcases hz with h | h <;> omega
    · rw [show (2 : Int) ^ 52 = 4503599627370496 by decide]
      omega
theorem round_tail (neg : Bool) (x n : Int) (mode : Int) (e q : Int) (h s : Bool) (hq : 0 ≤ q) (hq' : q < 9007199254740992) (he : -1074 ≤ e) (he' : e ≤ 100000) (hx : -100000 ≤ x) (hx' : x ≤ 100000) (hn : 0 ≤ n) (hn' : n ≤ 128) :
    Ev (fun k => parts_Round.j1 k neg x mode n e q h s) (rfin neg e (q, h, s) (decide (n + x - 1 < -1022)) mode) := by
  have hw1 : wrap64 (x + n) = x + n := w64 (by omega) (by omega)
  have hw2 : wrap64 (x + n - 1) = x + n - 1 := w64 (by omega) (by omega)
  have last : ∀ (q2 e2 fl : Int), 0 ≤ q2 → q2 < 9007199254740992 → -1074 ≤ e2 → e2 ≤ 200000 → Ev (fun k => parts_Round.j5 k neg mode e2 q2 fl) (if 4503599627370496 ≤ q2 ∧ 971 < e2 then rover neg mode else (rput neg q2 e2, fl)) := by
    intro q2 e2 fl a0 a1 a2 a3
    have j6 : ∀ b : Bool, (b = true ↔ 4503599627370496 ≤ q2 ∧ 971 < e2) → Ev (fun k => parts_Round.j6 k neg mode e2 q2 fl b) (if 4503599627370496 ≤ q2 ∧ 971 < e2 then rover neg mode else (rput neg q2 e2, fl)) := by
      intro b hb
      cases b
      · have hno : ¬ (4503599627370496 ≤ q2 ∧ 971 < e2) := fun h => Bool.false_ne_true (hb.2 h)
        rw [if_neg hno]
        refine Ev.step (f := fun _ => some (rput neg q2 e2, fl)) (fun k => ?_) (Ev.now _)
        simp only [parts_Round.j6]
        rw [if_neg (by decide), put_some neg q2 e2 a0 a1 (fun h => ⟨a2, by omega⟩)]
        rfl
      · rw [if_pos (hb.1 rfl)]
        refine Ev.step (f := fun k => (parts_over.f k neg mode).bind fun t => some (t.1, t.2)) (fun k => ?_) (Ev.bind (over_ev neg mode) (Ev.now _))
        simp only [parts_Round.j6]
        rw [if_pos trivial]
    by_cases c : 4503599627370496 ≤ q2
    · refine Ev.step (f := fun k => parts_Round.j6 k neg mode e2 q2 fl (decide (wrap64 (e2 + 1075) ≥ 2047))) (fun k => ?_) (j6 _ ?_)
      · simp only [parts_Round.j5]
        rw [if_pos (by omega)]
      · rw [w64 (by omega) (by omega), decide_eq_true_eq]
        omega
    · refine Ev.step (f := fun k => parts_Round.j6 k neg mode e2 q2 fl false) (fun k => ?_) (j6 _ ?_)
      · simp only [parts_Round.j5]
        rw [if_neg (by omega)]
      · constructor
        · intro h; cases h
        · intro h; omega
  have j4 : ∀ (q1 fl : Int), 0 ≤ q1 → q1 ≤ 9007199254740992 → Ev (fun k => parts_Round.j4 k neg mode e q1 fl)
      (if 4503599627370496 ≤ (if 9007199254740992 ≤ q1 then q1 / 2 else q1) ∧ 971 < (if 9007199254740992 ≤ q1 then e + 1 else e) then rover neg mode else (rput neg (if 9007199254740992 ≤ q1 then q1 / 2 else q1) (if 9007199254740992 ≤ q1 then e + 1 else e), fl)) := by
    intro q1 fl a0 a1
    by_cases c : q1 = 9007199254740992
    · subst c
      simp only [Int.le_refl, if_true]
      refine Ev.step (f := fun k => parts_Round.j5 k neg mode (e + 1) 4503599627370496 fl) (fun k => ?_) ?_
      · simp only [parts_Round.j4]
        rw [if_pos trivial, w64 (by omega) (by omega)]
      · have := last 4503599627370496 (e + 1) fl (by omega) (by omega) (by omega) (by omega)
        rwa [show (9007199254740992 : Int) / 2 = 4503599627370496 by decide]
    · have cn : ¬ 9007199254740992 ≤ q1 := by omega
      simp only [if_neg cn]
      refine Ev.step (f := fun k => parts_Round.j5 k neg mode e q1 fl) (fun k => ?_) (last q1 e fl (by omega) (by omega) (by omega) (by omega))
      simp only [parts_Round.j4]
      rw [if_neg c]
  have j3 : ∀ fl : Int, fl = (if h = true ∨ s = true then (if decide (n + x - 1 < -1022) = true then 24 else 16) else 0) → Ev (fun k => parts_Round.j3 k neg mode e q h s fl) (rfin neg e (q, h, s) (decide (n + x - 1 < -1022)) mode) := by
    intro fl hfl
    unfold rfin
    simp only
    rw [← hfl]
    cases hu : rup neg q h s mode
    · refine Ev.step (f := fun k => parts_Round.j4 k neg mode e q fl) (fun k => ?_) ?_
      · simp only [parts_Round.j3]
        rw [up_some neg q h s mode hq (by omega), hu]
        rfl
      · have := j4 q fl hq (by omega)
        simpa using this
    · refine Ev.step (f := fun k => parts_Round.j4 k neg mode e (q + 1) fl) (fun k => ?_) ?_
      · simp only [parts_Round.j3]
        rw [up_some neg q h s mode hq (by omega), hu]
        simp only [Option.bind_some]
        rw [if_pos trivial, u64w (by omega) (by omega)]
      · have := j4 (q + 1) fl (by omega) (by omega)
        simpa using this
  have e24 : Go.bits .or .i64 16 8 = 24 := by decide
  have j2 : ∀ b : Bool, (b = true ↔ (h = true ∨ s = true)) → Ev (fun k => parts_Round.j2 k neg x mode n e q h s 0 b) (rfin neg e (q, h, s) (decide (n + x - 1 < -1022)) mode) := by
    intro b hb
    cases b
    · refine Ev.step (f := fun k => parts_Round.j3 k neg mode e q h s 0) (fun k => ?_) (j3 0 ?_)
      · simp only [parts_Round.j2]
        rw [if_neg (by decide)]
      · rw [if_neg (fun hc => Bool.false_ne_true (hb.2 hc))]
    · by_cases ht : n + x - 1 < -1022
      · refine Ev.step (f := fun k => parts_Round.j3 k neg mode e q h s 24) (fun k => ?_) (j3 24 ?_)
        · simp only [parts_Round.j2]
          rw [if_pos trivial, hw1, hw2, if_pos (by omega), e24]
        · rw [if_pos (hb.1 rfl), if_pos (decide_eq_true ht)]
      · refine Ev.step (f := fun k => parts_Round.j3 k neg mode e q h s 16) (fun k => ?_) (j3 16 ?_)
        · simp only [parts_Round.j2]
          rw [if_pos trivial, hw1, hw2, if_neg (by omega)]
        · rw [if_pos (hb.1 rfl), if_neg (by simp; omega)]
  cases h
  · refine Ev.step (f := fun k => parts_Round.j2 k neg x mode n e q false s 0 s) (fun k => ?_) (j2 s (by simp))
    simp only [parts_Round.j1]
    rw [if_neg (by decide)]
  · refine Ev.step (f := fun k => parts_Round.j2 k neg x mode n e q true s 0 true) (fun k => ?_) (j2 true (by simp))
    simp only [parts_Round.j1]
    rw [if_pos trivial]
def rclamp (x : Int) : Int := mn (mx x (-16384)) 16384
theorem rclamp_range (x : Int) : -16384 ≤ rclamp x ∧ rclamp x ≤ 16384 := by unfold rclamp mn mx; split <;> split <;> omega
theorem rclamp_id {x : Int} (h0 : -16384 ≤ x) (h1 : x ≤ 16384) : rclamp x = x := by unfold rclamp mn mx; split <;> split <;> omega
theorem round_raw (neg : Bool) {hi lo : Int} (x : Int) (more : Bool) (mode : Int) (h0 : 0 ≤ hi) (h1 : hi < 18446744073709551616) (l0 : 0 ≤ lo) (l1 : lo < 18446744073709551616) (hW : 0 < hi * 18446744073709551616 + lo) :
    Ev (fun k => parts_Round.f k neg hi lo x more mode) (rfin neg (rexp (bitsOf (hi * 18446744073709551616 + lo)) (rclamp x))
      ((qx (hi * 18446744073709551616 + lo) (rclamp x) (rexp (bitsOf (hi * 18446744073709551616 + lo)) (rclamp x))).1, (qx (hi * 18446744073709551616 + lo) (rclamp x) (rexp (bitsOf (hi * 18446744073709551616 + lo)) (rclamp x))).2.1,
        (qx (hi * 18446744073709551616 + lo) (rclamp x) (rexp (bitsOf (hi * 18446744073709551616 + lo)) (rclamp x))).2.2 || (more && decide (55 ≤ bitsOf (hi * 18446744073709551616 + lo) ∨ rclamp x ≤ -1080))) (decide (bitsOf (hi * 18446744073709551616 + lo) + rclamp x - 1 < -1022)) mode) := by
  have hc := rclamp_range x
  have hp := bitsOf_pos hW
  have e128 : (2 : Int) ^ 128 = 18446744073709551616 * 18446744073709551616 := by decide
  have hle : bitsOf (hi * 18446744073709551616 + lo) ≤ 128 := bitsOf_le (by omega) (n := 128) (by rw [e128]; omega)
  have hl := len_some h0 h1 l0 l1
  have hcut := fun e he => cut_qx h0 h1 l0 l1 (rclamp x) e he hW (by omega) (by omega)
  have hlt := fun e he => qx_lt (N := hi * 18446744073709551616 + lo) (x := rclamp x) (e := e) (by omega) he
  unfold parts_Round.f
  rw [hl]
  simp only [Option.bind_some]
  generalize hi * 18446744073709551616 + lo = W at *
  have hr : mn (mx x (-16384)) 16384 = rclamp x := rfl
  rw [hr]
  generalize hn : bitsOf W = n at *
  generalize rclamp x = y at *
  have hE := rexp_ge n y
  have he : mx (wrap64 (wrap64 (wrap64 (y + n) - 1) - 52)) (-1074) = rexp n y := by
    rw [w64 (x := y + n) (by omega) (by omega), w64 (x := y + n - 1) (by omega) (by omega), w64 (by omega) (by omega)]
    unfold mx rexp
    split <;> split <;> omega
  have hE2 : rexp n y ≤ 100000 := by omega
  have j0 : ∀ m : Bool, Ev (fun k => parts_Round.j0 k neg y m mode n hi lo) (rfin neg (rexp n y) ((qx W y (rexp n y)).1, (qx W y (rexp n y)).2.1, (qx W y (rexp n y)).2.2 || m) (decide (n + y - 1 < -1022)) mode) := by
    intro m
    have hq := hlt (rexp n y) (by omega)
    refine Ev.step (f := fun k => (parts_wide_cut.f k hi lo (rexp n y - y)).bind fun b => if b.2.2 = true then parts_Round.j1 k neg y mode n (rexp n y) b.1 b.2.1 true else parts_Round.j1 k neg y mode n (rexp n y) b.1 b.2.1 m) (fun k => ?_) ?_
    · simp only [parts_Round.j0]
      rw [he, w64 (by omega) (by omega)]
    · refine Ev.bind (hcut (rexp n y) (by omega) (by omega) (by omega)) ?_
      generalize qx W y (rexp n y) = p at *
      obtain ⟨q, h, s⟩ := p
      simp only at hq ⊢
      cases s
      · refine Ev.congr (fun k => if_neg (by decide)) ?_
        have := round_tail neg y n mode (rexp n y) q h m hq.1 hq.2 (by omega) (by omega) (by omega) (by omega) (by omega) (by omega)
        simpa using this
      · refine Ev.congr (fun k => if_pos rfl) ?_
        have := round_tail neg y n mode (rexp n y) q h true hq.1 hq.2 (by omega) (by omega) (by omega) (by omega) (by omega) (by omega)
        simpa using this
  refine Ev.congr (fun k => if_neg (by omega)) ?_
  cases more
  · refine Ev.congr (fun k => if_neg (by decide)) ?_
    have := j0 false
    simpa using this
  · refine Ev.congr (fun k => if_pos rfl) ?_
    by_cases c : n ≥ 55
    · refine Ev.congr (fun k => if_pos c) ?_
      have := j0 true
      rw [decide_eq_true (.inl (by omega))]
      simpa using this
    · refine Ev.congr (fun k => if_neg c) ?_
      have := j0 (decide (y ≤ -1080))
      have e : (decide (55 ≤ n ∨ y ≤ -1080)) = decide (y ≤ -1080) := decide_eq_decide.2 ⟨fun h => by omega, fun h => .inr h⟩
      rw [e]
      simpa using this
theorem round_ev (neg : Bool) {hi lo N x : Int} (y : Int) (k : Nat) (more : Bool) (mode : Int) (h0 : 0 ≤ hi) (h1 : hi < 18446744073709551616) (l0 : 0 ≤ lo) (l1 : lo < 18446744073709551616) (hN : 0 < N) (hW : hi * 18446744073709551616 + lo = N / 2 ^ k) (hW0 : 0 < N / 2 ^ k) (hx : y = x + k)
    (hm : more = decide (N % 2 ^ k ≠ 0)) (hs : N % 2 ^ k ≠ 0 → 55 ≤ bitsOf (N / 2 ^ k) ∨ y ≤ -1080) (hy0 : -16384 ≤ y) (hy1 : y ≤ 16384) : Ev (fun k => parts_Round.f k neg hi lo y more mode) (rnd neg N x mode) := by
  have e := round_raw neg y more mode h0 h1 l0 l1 (by rw [hW]; exact hW0)
  rw [hW, rclamp_id hy0 hy1] at e
  have es := rnd_sticky neg hN x k mode hW0 (fun h => by have := hs h; omega)
  rw [← hx] at es
  rw [es]
  have e2 : (more && decide (55 ≤ bitsOf (N / 2 ^ k) ∨ y ≤ -1080)) = decide (N % 2 ^ k ≠ 0) := by
    rw [hm]
    by_cases c : N % 2 ^ k ≠ 0
    · rw [decide_eq_true c, decide_eq_true (hs c)]
      rfl
    · rw [decide_eq_false c]
      rfl
  rw [e2] at e
  exact e
theorem round_plain (neg : Bool) {hi lo : Int} (y : Int) (mode : Int) (h0 : 0 ≤ hi) (h1 : hi < 18446744073709551616) (l0 : 0 ≤ lo) (l1 : lo < 18446744073709551616) (hW0 : 0 < hi * 18446744073709551616 + lo) (hy0 : -16384 ≤ y) (hy1 : y ≤ 16384) : Ev (fun k => parts_Round.f k neg hi lo y false mode) (rnd neg (hi * 18446744073709551616 + lo) y mode) := by
  have e1 : (hi * 18446744073709551616 + lo) / 2 ^ 0 = hi * 18446744073709551616 + lo := by rw [Int.pow_zero, Int.ediv_one]
  have e2 : (hi * 18446744073709551616 + lo) % 2 ^ 0 = 0 := by rw [Int.pow_zero, Int.emod_one]
  exact round_ev neg (N := hi * 18446744073709551616 + lo) (x := y) y 0 false mode h0 h1 l0 l1 hW0 e1.symm (by rw [e1]; exact hW0) (by omega) (by rw [e2]; rfl) (fun h => absurd e2 h) hy0 hy1
end Go.Proofs.YtpdjahhimmaonaaDoor.PE
