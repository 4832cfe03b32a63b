/- Of numbers of one exponent, and few bits, sums are exact: no flags, and taken away again they are gone: for all words. -/
import Derived.Test.YtfmdjhfnbiekaaaQFaddExact27
import Derived.Test.YtfmdjhfnbiekaaaQFaddExact28
import Derived.Test.YtfmdjhfnbiekaaaQFaddExact41
import Derived.Test.YtfmdjhfnbiekaaaQFaddExact42
import Derived.Test.YtfmdjhfnbiekaaaQFaddExact29
import Derived.Test.YtfmdjhfnbiekaaaQFaddExact30
import Derived.Test.YtfmdjhfnbiekaaaQFaddExact36
import Derived.Test.YtfmdjhfnbiekaaaQFaddExact40
namespace Go.Proofs.Ytfmdjhfnbiekaaa.Pure
open Go.RowKit Go.Proofs.Ytfmdjhfnbiekaaa.PA Go.Proofs.YtfmdjhfnbiekaaaW.PrintWords Go.Proofs.YtfmdjhfnbiekaaaW.PrintLast Go.Proofs.Ytfmdjhfnbiekaaa.Num Go.Proofs.Ytfmdjhfnbiekaaa.Flt
set_option linter.unusedVariables false
theorem sv_mul (s : Bool) (c v : Int) : sv s (c * v) = c * sv s v := by cases s <;> simp [sv, Int.mul_neg]
theorem half_sign (T : Int) (he : T % 2 = 0) (h0 : T ≠ 0) (hb : T < 18014398509481984) (hb' : -18014398509481984 < T) :
    T = sv (decide (T < 0)) (((T.natAbs / 2 : Nat) : Int) * 2) ∧ 0 < ((T.natAbs / 2 : Nat) : Int) ∧ ((T.natAbs / 2 : Nat) : Int) < 9007199254740992 := by
  by_cases c : T < 0
  · rw [decide_eq_true c, sv_tt]
    omega
  · rw [decide_eq_false c, sv_ff]
    omega
theorem sv_not (s : Bool) (v : Int) : sv (!s) v = -sv s v := by cases s <;> simp [sv]
theorem exact_pair (p q : Bool) {m k x : Int} (hm : 4503599627370496 ≤ m) (hm' : m < 9007199254740992) (hk : 4503599627370496 ≤ k) (hk' : k < 9007199254740992) (hx : -1000 ≤ x) (hx' : x ≤ 890) (he : (m + k) % 2 = 0) :
    ∃ s, addS (rput p m x) (rput q k x) 0 = (s, 0) ∧ 0 ≤ s ∧ s < 18446744073709551616 ∧ fcls s ≤ 1 ∧ addS s (fflip (rput q k x)) 0 = (rput p m x, 0) := by
  obtain ⟨a0, a1, a2, a3, a4, a5⟩ := rput_parts p (m := m) (e := x) (by omega) hm' (by omega) (by omega) (.inl hm)
  obtain ⟨b0, b1, b2, b3, b4, b5⟩ := rput_parts q (m := k) (e := x) (by omega) hk' (by omega) (by omega) (.inl hk)
  obtain ⟨c1, c2, c3⟩ := fflip_man b0 b1
  obtain ⟨c4, _, _⟩ := fflip_parts b0 b1
  have fa : fcls (rput p m x) ≤ 1 := fcls_fin.2 a3
  have fb : fcls (rput q k x) ≤ 1 := fcls_fin.2 b3
  have hex := rnd_exact p (m := m) (x := x) 0 (by omega) hm' (by omega) (by omega) (.inl hm)
  have hmx : mn x x = x := by unfold mn; split <;> rfl
  have h0 : up2 (x - x) = 1 := up2_neg (by omega)
  rw [addS_fin 0 fa fb, a2, a4, a5, b2, b4, b5]
  by_cases hT : sv p m + sv q k = 0
  · have hpq : p = !q ∧ m = k := by
      revert hT
      cases p <;> cases q <;> simp [sv] <;> omega
    obtain ⟨rfl, rfl⟩ := hpq
    refine ⟨0, ?_, by decide, by decide, by decide, ?_⟩
    · unfold rsum
      rw [hmx, h0, Int.one_mul, if_pos hT, if_neg (by cases q <;> simp)]
      rfl
    · have f0 : fcls 0 ≤ 1 := by decide
      have p0 : fneg 0 = false ∧ fman 0 = 0 ∧ fxp 0 = -1074 := by decide
      have hmn : mn (-1074) x = -1074 := by unfold mn; split <;> omega
      rw [addS_fin 0 f0 (by omega), p0.1, p0.2.1, p0.2.2, c4, c1, c2, b2, b4, b5]
      rw [rsum_is false (!q) (!q) 0 (-1074) m x 0 m x (by omega) (by rw [hmn, Int.mul_comm m]; simp [sv]) (by omega)]
      exact hex
  · have hN : sv p m + sv q k = sv (decide (sv p m + sv q k < 0)) ((((sv p m + sv q k).natAbs / 2 : Nat) : Int) * up2 1) ∧ 0 < (((sv p m + sv q k).natAbs / 2 : Nat) : Int) ∧ (((sv p m + sv q k).natAbs / 2 : Nat) : Int) < 9007199254740992 := by
      rw [up2_one]
      refine half_sign _ ?_ hT ?_ ?_
      · cases p <;> cases q <;> simp only [sv_tt, sv_ff] <;> omega
      · cases p <;> cases q <;> simp only [sv_tt, sv_ff] <;> omega
      · cases p <;> cases q <;> simp only [sv_tt, sv_ff] <;> omega
    obtain ⟨hN1, hN2, hN3⟩ := hN
    generalize (((sv p m + sv q k).natAbs / 2 : Nat) : Int) = N at *
    generalize decide (sv p m + sv q k < 0) = sT at *
    obtain ⟨t, j, t0, t1, t2, t3, t4, t5, t6, t7⟩ := rnd_few sT (N := N) (x := x + 1) 0 hN2 hN3 (by omega) (by omega)
    refine ⟨t, ?_, t1, t2, fcls_fin.2 t4, ?_⟩
    · rw [rsum_is p q sT m x k x 0 N (x + 1) hN2 (by rw [hmx, h0, Int.one_mul, Int.one_mul, hN1, show x + 1 - x = 1 by omega]) (by omega)]
      exact t0
    · rw [addS_fin 0 (fcls_fin.2 t4) (by omega), t3, t6, t7, c4, c1, c2, b2, b4, b5]
      have hl := mn_le (x + 1 - j) x
      obtain ⟨e, hee⟩ : ∃ e, mn (x + 1 - j) x = e := ⟨_, rfl⟩
      rw [hee] at hl
      have e1 : up2 (x + 1 - j - e) * (N * up2 j) = up2 (x - e) * (N * up2 1) := by
        have g1 := up2_add (a := x + 1 - j - e) (b := j) (by omega) t5
        have g2 := up2_add (a := x - e) (b := 1) (by omega) (by omega)
        rw [show x + 1 - j - e + j = x - e + 1 by omega, g2] at g1
        generalize up2 (x + 1 - j - e) = u at *
        generalize up2 j = v at *
        generalize up2 (x - e) = w at *
        generalize up2 1 = z at *
        have : N * (w * z) = N * (u * v) := by rw [g1]
        grind
      rw [rsum_is sT (!q) p _ _ _ _ 0 m x (by omega) (by
        rw [hee, e1, sv_mul, ← hN1, sv_mul, sv_not, Int.mul_comm m, sv_mul]
        generalize up2 (x - e) = w
        generalize sv q k = b
        generalize sv p m = a
        grind) (by rw [hee]; omega)]
      exact hex
theorem FaddExact (a0 a1 a2 : Int) (a3 a4 : Bool) (w0 : (Lit.int .u32 a0).wf = true) (w1 : (Lit.int .u32 a1).wf = true) (w2 : (Lit.int .u16 a2).wf = true) : ∃ k, vernierlaw07_FaddExact.f k a0 a1 a2 a3 a4 = some true := by
  simp [Lit.wf, IntKind.min, IntKind.max, IntKind.signed, IntKind.bits] at w0 w1 w2
  refine Ev.rounds ?_
  unfold vernierlaw07_FaddExact.f
  refine Ev.bind alive7_ev (Ev.congr (fun k => if_pos rfl) ?_)
  have e1 : IntKind.u64.wrap a2 = a2 := u64w (by omega) (by omega)
  have e2 : Int.tmod a2 1800 = a2 % 1800 := Int.tmod_eq_emod_of_nonneg (by omega)
  have e3 : IntKind.u64.wrap (100 + a2 % 1800) = 100 + a2 % 1800 := u64w (by omega) (by omega)
  rw [e1, e2, e3, u64w (x := a0) (by omega) (by omega), u64w (x := a1) (by omega) (by omega), u64w (x := a0 * 524288) (by omega) (by omega), u64w (x := a1 * 524288) (by omega) (by omega), u64w (x := (100 + a2 % 1800) * 4503599627370496) (by omega) (by omega),
    u64w (x := (100 + a2 % 1800) * 4503599627370496 + a0 * 524288) (by omega) (by omega), u64w (x := (100 + a2 % 1800) * 4503599627370496 + a1 * 524288) (by omega) (by omega), u64w (x := (100 + a2 % 1800) * 4503599627370496 + a0 * 524288 + 9223372036854775808) (by omega) (by omega)]
  have hput : ∀ (s : Bool) (c : Int), 0 ≤ c → c < 4503599627370496 → rput s (4503599627370496 + c) (100 + a2 % 1800 - 1075) = rzero s + ((100 + a2 % 1800) * 4503599627370496 + c) := by
    intro s c h0 h1
    unfold rput
    rw [if_neg (by omega)]
    omega
  have fin : ∀ (p q : Bool), Ev (fun k => vernierlaw07_FaddExact.j0 k q (rzero p + ((100 + a2 % 1800) * 4503599627370496 + a0 * 524288)) ((100 + a2 % 1800) * 4503599627370496 + a1 * 524288)) true := by
    intro p q
    obtain ⟨s, s1, s2, s3, s4, s5⟩ := exact_pair p q (m := 4503599627370496 + a0 * 524288) (k := 4503599627370496 + a1 * 524288) (x := 100 + a2 % 1800 - 1075) (by omega) (by omega) (by omega) (by omega) (by omega) (by omega) (by omega)
    obtain ⟨p0, p1, _, _, _, _⟩ := rput_parts p (m := 4503599627370496 + a0 * 524288) (e := 100 + a2 % 1800 - 1075) (by omega) (by omega) (by omega) (by omega) (.inl (by omega))
    obtain ⟨q0, q1, q2, q3, _, _⟩ := rput_parts q (m := 4503599627370496 + a1 * 524288) (e := 100 + a2 % 1800 - 1075) (by omega) (by omega) (by omega) (by omega) (.inl (by omega))
    have fb := fcls_fin.2 q3
    have ha := fadd_ev p0 p1 q0 q1 0
    rw [s1] at ha
    have hs := fsub_ev s2 s3 q0 q1 0
    rw [if_neg (by omega)] at hs
    have hs' : Ev (fun k => fadd_Sub.f k s (rput q (4503599627370496 + a1 * 524288) (100 + a2 % 1800 - 1075)) 0) (rput p (4503599627370496 + a0 * 524288) (100 + a2 % 1800 - 1075), 0) := by
      rw [← s5]
      exact hs
    rw [hput p _ (by omega) (by omega)] at ha hs'
    cases q
    · have eb : rput false (4503599627370496 + a1 * 524288) (100 + a2 % 1800 - 1075) = (100 + a2 % 1800) * 4503599627370496 + a1 * 524288 := by rw [hput false _ (by omega) (by omega)]; simp [rzero]
      rw [eb] at ha hs'
      generalize rzero p + ((100 + a2 % 1800) * 4503599627370496 + a0 * 524288) = A at *
      generalize (100 + a2 % 1800) * 4503599627370496 + a1 * 524288 = Bv at *
      refine Ev.step (f := fun k => (fadd_Add.f k A Bv 0).bind fun bt691 => ((fadd_Sub.f k bt691.1 Bv 0).bind fun bt693 => (if bt691.2 = 0 then (if bt693.2 = 0 then (some (bt693.1 == A)) else (some false)) else (some false)))) (fun k => ?_) ?_
      · simp only [vernierlaw07_FaddExact.j0]
        rw [if_neg (by decide)]
      · refine Ev.bind ha (Ev.bind hs' (Ev.congr (fun k => (if_pos rfl).trans (if_pos rfl)) ?_))
        rw [beq_self_eq_true]
        exact Ev.now _
    · have eb : rput true (4503599627370496 + a1 * 524288) (100 + a2 % 1800 - 1075) = IntKind.u64.wrap ((100 + a2 % 1800) * 4503599627370496 + a1 * 524288 + 9223372036854775808) := by
        rw [hput true _ (by omega) (by omega), u64w (by omega) (by omega)]
        simp only [rzero, if_true]
        omega
      rw [eb] at ha hs'
      generalize rzero p + ((100 + a2 % 1800) * 4503599627370496 + a0 * 524288) = A at *
      generalize (100 + a2 % 1800) * 4503599627370496 + a1 * 524288 = Bv at *
      refine Ev.step (f := fun k => (fadd_Add.f k A (IntKind.u64.wrap (Bv + 9223372036854775808)) 0).bind fun bt691 => ((fadd_Sub.f k bt691.1 (IntKind.u64.wrap (Bv + 9223372036854775808)) 0).bind fun bt693 => (if bt691.2 = 0 then (if bt693.2 = 0 then (some (bt693.1 == A)) else (some false)) else (some false)))) (fun k => ?_) ?_
      · simp only [vernierlaw07_FaddExact.j0]
        rw [if_pos trivial]
      · refine Ev.bind ha (Ev.bind hs' (Ev.congr (fun k => (if_pos rfl).trans (if_pos rfl)) ?_))
        rw [beq_self_eq_true]
        exact Ev.now _
  cases a3
  · refine Ev.congr (fun k => if_neg (by decide)) ?_
    have := fin false a4
    simpa [rzero] using this
  · refine Ev.congr (fun k => if_pos rfl) ?_
    have := fin true a4
    have e : rzero true + ((100 + a2 % 1800) * 4503599627370496 + a0 * 524288) = (100 + a2 % 1800) * 4503599627370496 + a0 * 524288 + 9223372036854775808 := by
      simp only [rzero, if_true]
      omega
    rw [e] at this
    exact this
end Go.Proofs.Ytfmdjhfnbiekaaa.Pure
