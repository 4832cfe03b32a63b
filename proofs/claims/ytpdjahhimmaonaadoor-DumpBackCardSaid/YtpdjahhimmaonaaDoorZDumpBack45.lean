/- Parts of a proof. -/
import Derived.Test.YtpdjahhimmaonaaDoorZDumpBack44
import Derived.Lib.TrailingZeros
section
namespace Go.Proofs.YtpdjahhimmaonaaDoor.PE
open Go.RowKit Go.Proofs.YtpdjahhimmaonaaDoorW.PrintWords Go.Proofs.YtpdjahhimmaonaaDoorW.PrintLast Go.Proofs.YtpdjahhimmaonaaDoorW.PrintMore Go.Proofs.YtpdjahhimmaonaaDoor.Num Go.Proofs.YtpdjahhimmaonaaDoor.Flt
set_option linter.unusedVariables false
set_option linter.unusedSimpArgs false
theorem tmod_nn {x y : Int} (h : 0 ≤ x) : Int.tmod x y = x % y := Int.tmod_eq_emod_of_nonneg h
theorem tdiv_nn {x y : Int} (h : 0 ≤ x) : Int.tdiv x y = x / y := Int.tdiv_eq_ediv_of_nonneg h
theorem u64_of_wf {a : Int} (h : (Lit.int .u64 a).wf = true) : 0 ≤ a ∧ a < 18446744073709551616 := by
  simp [Lit.wf, IntKind.min, IntKind.max, IntKind.signed, IntKind.bits] at h
  omega
theorem rup_no (neg : Bool) (q mode : Int) : rup neg q false false mode = false := by unfold rup; cases neg <;> simp
theorem rnd_exact (neg : Bool) {m x : Int} (mode : Int) (h0 : 0 < m) (h1 : m < 9007199254740992) (hx : -1074 ≤ x) (hx' : x ≤ 971) (hn : 4503599627370496 ≤ m ∨ x = -1074) : rnd neg m x mode = (rput neg m x, 0) := by
  have e53 : (2 : Int) ^ 53 = 9007199254740992 := by decide
  have e52 : (2 : Int) ^ 52 = 4503599627370496 := by decide
  have hb : bitsOf m ≤ 53 := bitsOf_le (by omega) (n := 53) (by omega)
  have hb2 : 4503599627370496 ≤ m → 53 ≤ bitsOf m := by
    intro h
    have := bitsOf_ge (v := m) (n := 52) (by omega)
    omega
  have he : rexp (bitsOf m) x = x := by unfold rexp; split <;> omega
  have hq : qx m x x = (m, false, false) := by
    unfold qx
    rw [show x - x = 0 by omega, up2_neg (a := 0) (by omega), Int.mul_one, qhs_one]
  unfold rnd rfin
  rw [he, hq]
  simp only [rup_no]
  rw [if_neg (show ¬ (false = true) by decide), if_neg (show ¬ 9007199254740992 ≤ m by omega), if_neg (show ¬ 9007199254740992 ≤ m by omega), if_neg (show ¬ (4503599627370496 ≤ m ∧ 971 < x) by omega), if_neg (show ¬ (false = true ∨ false = true) by decide)]
theorem rput_parts (neg : Bool) {m e : Int} (h0 : 0 ≤ m) (h1 : m < 9007199254740992) (he : -1074 ≤ e) (he' : e ≤ 971) (hn : 4503599627370496 ≤ m ∨ e = -1074) :
    0 ≤ rput neg m e ∧ rput neg m e < 18446744073709551616 ∧ fneg (rput neg m e) = neg ∧ fex (rput neg m e) ≠ 2047 ∧ fman (rput neg m e) = m ∧ fxp (rput neg m e) = e := by
  have key : ∀ z : Int, (z = 0 ∧ neg = false) ∨ (z = 9223372036854775808 ∧ neg = true) → rzero neg = z := by
    intro z hz
    rcases hz with ⟨rfl, rfl⟩ | ⟨rfl, rfl⟩ <;> rfl
  obtain ⟨z, hz⟩ : ∃ z : Int, (z = 0 ∧ neg = false) ∨ (z = 9223372036854775808 ∧ neg = true) := by cases neg; exact ⟨0, .inl ⟨rfl, rfl⟩⟩; exact ⟨_, .inr ⟨rfl, rfl⟩⟩
  have hr := key z hz
  unfold rput
  rw [hr]
  have hfn : ∀ t : Int, (t < 9223372036854775808 ↔ z = 0) → fneg t = neg := by
    intro t ht
    unfold fneg
    rcases hz with ⟨rfl, rfl⟩ | ⟨rfl, rfl⟩
    · exact decide_eq_false (by have := ht.2 rfl; omega)
    · exact decide_eq_true (by
        by_cases c : t < 9223372036854775808
        · have := ht.1 c; omega
        · omega)
  have hz2 : z = 0 ∨ z = 9223372036854775808 := by omega
  by_cases c : m < 4503599627370496
  · rw [if_pos c]
    have ee : e = -1074 := by omega
    have e1 : fex (z + m) = 0 := by unfold fex; rcases hz2 with rfl | rfl <;> omega
    have e2 : ffr (z + m) = m := by unfold ffr; rcases hz2 with rfl | rfl <;> omega
    refine ⟨by omega, by omega, hfn _ (by omega), by omega, ?_, ?_⟩
    · unfold fman; rw [if_pos e1, e2]
    · unfold fxp; rw [if_pos e1, ee]
  · rw [if_neg c]
    have e1 : fex (z + (e + 1075) * 4503599627370496 + (m - 4503599627370496)) = e + 1075 := by unfold fex; rcases hz2 with rfl | rfl <;> omega
    have e2 : ffr (z + (e + 1075) * 4503599627370496 + (m - 4503599627370496)) = m - 4503599627370496 := by unfold ffr; rcases hz2 with rfl | rfl <;> omega
    refine ⟨by omega, by omega, hfn _ (by omega), by omega, ?_, ?_⟩
    · unfold fman; rw [if_neg (by omega), e2]; omega
    · unfold fxp; rw [if_neg (by omega), e1]; omega
theorem put_back {a : Int} (h0 : 0 ≤ a) (h1 : a < 18446744073709551616) (hf : fex a ≠ 2047) : rput (fneg a) (fman a) (fxp a) = a := by
  have ra := fex_range a
  have fa := ffr_range a
  have ea : a % 9223372036854775808 = fex a * 4503599627370496 + ffr a := by unfold fex ffr; omega
  have hz : rzero (fneg a) = a - a % 9223372036854775808 := by
    unfold fneg rzero
    by_cases c : 9223372036854775808 ≤ a
    · rw [decide_eq_true c, if_pos rfl]; omega
    · rw [decide_eq_false c, if_neg (by decide)]; omega
  unfold rput
  rw [hz, ea]
  unfold fman fxp
  split <;> split <;> omega
theorem fin_shape {a : Int} (hf : fex a ≠ 2047) : -1074 ≤ fxp a ∧ fxp a ≤ 971 ∧ (4503599627370496 ≤ fman a ∨ fxp a = -1074) := by
  have ra := fex_range a
  have fa := ffr_range a
  unfold fxp fman
  split <;> omega
theorem rnd_self {a : Int} (h0 : 0 ≤ a) (h1 : a < 18446744073709551616) (hf : fex a ≠ 2047) (hm : 0 < fman a) (mode : Int) : rnd (fneg a) (fman a) (fxp a) mode = (a, 0) := by
  obtain ⟨s1, s2, s3⟩ := fin_shape hf
  rw [rnd_exact (fneg a) mode hm (fman_range a).2 s1 s2 s3, put_back h0 h1 hf]
theorem rclass_ev {a : Int} (h0 : 0 ≤ a) (h1 : a < 18446744073709551616) : Ev (fun k => vernierref06_Class.f k a) (fcls a) := by
  have e1 : Int.tmod (IntKind.u64.wrap (Int.tdiv a 4503599627370496)) 2048 = fex a := by rw [tdiv_nn h0, u64w (by omega) (by omega), tmod_nn (by omega)]; rfl
  have e2 : Int.tmod a 4503599627370496 = ffr a := tmod_nn h0
  have r2 := ffr_range a
  unfold vernierref06_Class.f
  rw [e1, e2]
  unfold fcls
  by_cases c1 : fex a = 2047
  · rw [if_pos c1]
    refine Ev.congr (fun k => if_pos c1) ?_
    by_cases c2 : ffr a = 0
    · rw [if_pos c2]
      refine Ev.step (f := fun _ => some 2) (fun k => ?_) (Ev.now _)
      simp only [vernierref06_Class.j0]
      rw [if_neg (by simp [c2]), if_pos c1]
    · rw [if_neg c2]
      refine Ev.step (f := fun _ => some 3) (fun k => ?_) (Ev.now _)
      simp only [vernierref06_Class.j0]
      rw [if_pos (decide_eq_true (by omega))]
  · rw [if_neg c1]
    refine Ev.congr (fun k => if_neg c1) ?_
    refine Ev.step (f := fun _ => some (if fex a = 0 ∧ ffr a = 0 then 0 else 1)) (fun k => ?_) (Ev.now _)
    simp only [vernierref06_Class.j0]
    rw [if_neg (by decide), if_neg c1]
    by_cases c3 : fex a = 0
    · by_cases c4 : ffr a = 0
      · rw [if_pos c3, if_pos c4, if_pos ⟨c3, c4⟩]
      · rw [if_pos c3, if_neg c4, if_neg (fun h => c4 h.2)]
    · rw [if_neg c3, if_neg (fun h => c3 h.1)]
theorem rsplit_some {a : Int} (h0 : 0 ≤ a) (h1 : a < 18446744073709551616) : vernierref06_Split.f a = some (fneg a, fman a, fxp a) := by
  have e1 : Int.tmod (IntKind.u64.wrap (Int.tdiv a 4503599627370496)) 2048 = fex a := by rw [tdiv_nn h0, u64w (by omega) (by omega), tmod_nn (by omega)]; rfl
  have e2 : Int.tmod a 4503599627370496 = ffr a := tmod_nn h0
  have r1 := fex_range a
  have r2 := ffr_range a
  have e3 : decide (a ≥ 9223372036854775808) = fneg a := rfl
  unfold vernierref06_Split.f
  rw [e1, e2, e3, w64 (by omega) (by omega)]
  unfold fman fxp
  by_cases c : fex a = 0
  · rw [if_pos c, if_pos c, if_pos c]
  · rw [if_neg c, if_neg c, if_neg c, w64 (by omega) (by omega), u64w (by omega) (by omega)]
end Go.Proofs.YtpdjahhimmaonaaDoor.PE
end
section
namespace Go.Proofs.YtpdjahhimmaonaaDoor.PE
open Go.RowKit Go.Proofs.YtpdjahhimmaonaaDoorW.PrintWords Go.Proofs.YtpdjahhimmaonaaDoorW.PrintLast Go.Proofs.YtpdjahhimmaonaaDoor.Num
set_option linter.unusedVariables false
structure Nm (a : List Int) (v : Int) (n : Nat) : Prop where
  dig : Dig 18446744073709551616 a
  val : V 18446744073709551616 a = v
  len : a.length ≤ n
theorem Nm.nonneg {a v n} (h : Nm a v n) : 0 ≤ v := h.val ▸ V_nonneg B_pos h.dig
theorem Nm.lt {a v n} (h : Nm a v n) : v < 18446744073709551616 ^ n := h.val ▸ Int.lt_of_lt_of_le (V_lt B_pos h.dig) (pow_le B_pos h.len)
theorem Nm.dg {v : Int} {n : Nat} (h0 : 0 ≤ v) (h1 : v < 18446744073709551616 ^ n) : Nm (dg 18446744073709551616 v) v n := ⟨dg_dig one_lt_B v, dg_val one_lt_B h0, dg_len_le one_lt_B h0 h1⟩
theorem Nm.mono {a v n m} (h : Nm a v n) (hm : n ≤ m) : Nm a v m := ⟨h.dig, h.val, Nat.le_trans h.len hm⟩
theorem Nm.nil {n} : Nm [] 0 n := ⟨Dig.nil _, rfl, by simp⟩
theorem Nm.add {a b v w n m} (p : Nat) (h : Nm a v n) (g : Nm b w m) (hn : n ≤ p) (hm : m ≤ p) (hp : p < 35184372088832) : Ev (fun k => nat_Add.f k a b) (Num.dg 18446744073709551616 (v + w)) ∧ Nm (Num.dg 18446744073709551616 (v + w)) (v + w) (p + 1) := by
  have h1 := h.len
  have h2 := g.len
  have e := add_ev a b h.dig g.dig (by omega) (by omega)
  rw [h.val, g.val] at e
  have l1 := (h.mono hn).lt
  have l2 := (g.mono hm).lt
  have n1 := h.nonneg
  have n2 := g.nonneg
  have pp := pow_pos' B_pos p
  refine ⟨e, Nm.dg (by omega) ?_⟩
  rw [Int.pow_succ]
  omega
theorem Nm.bits {a v n} (h : Nm a v n) (hn : n ≤ 35184372088832) : Ev (fun k => nat_Bits.f k a) (bitsOf v) := by
  have h1 := h.len
  have e := bits_ev a h.dig (by omega)
  rwa [h.val] at e
theorem Nm.same {v w : Int} {n : Nat} (e : v = w) (h : Nm (Num.dg 18446744073709551616 v) v n) (hn : n ≤ 4611686018427387904) : Ev (fun k => vernierref01_Same.f k (Num.dg 18446744073709551616 v) (Num.dg 18446744073709551616 w)) true :=
  same_true (by rw [e]) (Nat.le_trans h.len hn)
end Go.Proofs.YtpdjahhimmaonaaDoor.PE
end
section
namespace Go.Proofs.YtpdjahhimmaonaaDoor.PE
open Go.RowKit Go.Proofs.YtpdjahhimmaonaaDoorW.PrintWords Go.Proofs.YtpdjahhimmaonaaDoorW.PrintLast Go.Proofs.YtpdjahhimmaonaaDoorW.PrintMore Go.Proofs.YtpdjahhimmaonaaDoor.Num
set_option linter.unusedVariables false
set_option linter.unusedSimpArgs false
def Odd2 (v : Int) (t : Nat) (m : Int) : Prop := v = 2 ^ t * (2 * m + 1)
theorem Odd2.uniq {v : Int} {t s : Nat} {m n : Int} (h : Odd2 v t m) (g : Odd2 v s n) : t = s ∧ m = n := by
  unfold Odd2 at h g
  have key : ∀ (a b : Nat) (x y : Int), a ≤ b → (2 : Int) ^ a * (2 * x + 1) = 2 ^ b * (2 * y + 1) → a = b ∧ x = y := by
    intro a b x y hab e
    obtain ⟨d, rfl⟩ : ∃ d, b = a + d := ⟨b - a, by omega⟩
    have hp := two_pow_pos a
    rw [Int.pow_add, Int.mul_assoc] at e
    have e2 := Int.eq_of_mul_eq_mul_left (by omega) e
    cases d with
    | zero =>
      rw [Int.pow_zero, Int.one_mul] at e2
      exact ⟨rfl, by omega⟩
    | succ d =>
      exfalso
      rw [Int.pow_succ] at e2
      generalize (2 : Int) ^ d = P at e2
      have : P * 2 * (2 * y + 1) = 2 * (P * (2 * y + 1)) := by grind
      omega
  rcases Nat.le_total t s with hts | hts
  · exact key t s m n hts (by rw [← h, ← g])
  · have := key s t n m hts (by rw [← h, ← g])
    exact ⟨this.1.symm, this.2.symm⟩
theorem tz_some {x : Int} (h0 : 0 < x) (h1 : x < 18446744073709551616) : ∃ (c : Nat) (m : Int), bits_TrailingZeros64.f x = some (c : Int) ∧ c < 64 ∧ 0 ≤ m ∧ Odd2 x c m := by
  obtain ⟨n, rfl⟩ := Int.eq_ofNat_of_zero_le (Int.le_of_lt h0)
  obtain ⟨m, hm, hc⟩ := Lib.ctzFrom_spec 64 n (by omega) (by omega)
  refine ⟨Lib.ctzFrom 64 n, m, ?_, hc, by omega, ?_⟩
  · unfold bits_TrailingZeros64.f
    rw [if_pos ⟨by omega, by omega⟩, Int.toNat_natCast]
    unfold Lib.ctz
    rw [if_neg (by omega)]
  · unfold Odd2
    have : ((n : Nat) : Int) = ((2 ^ Lib.ctzFrom 64 n * (2 * m + 1) : Nat) : Int) := congrArg _ hm
    rw [this]
    push_cast
    rfl
end Go.Proofs.YtpdjahhimmaonaaDoor.PE
end
