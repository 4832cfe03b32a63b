/- What fconv.ToInt and the law's own rounding to a whole number compute. -/
import Derived.Test.YtfmdjhfnbiekaaaQFconvWhole34
import Derived.Test.YtfmdjhfnbiekaaaQFconvWhole36
import Derived.Test.YtfmdjhfnbiekaaaQFconvWhole50
import Derived.Test.YtfmdjhfnbiekaaaQFconvWhole51
import Derived.Test.YtfmdjhfnbiekaaaQFconvWhole52
import Derived.Test.YtfmdjhfnbiekaaaQFconvWhole37
import Derived.Test.YtfmdjhfnbiekaaaQFconvWhole38
import Derived.Test.YtfmdjhfnbiekaaaQFconvWhole39
import Derived.Test.YtfmdjhfnbiekaaaQFconvWhole40
import Derived.Test.YtfmdjhfnbiekaaaQFconvWhole41
import Derived.Test.YtfmdjhfnbiekaaaQFconvWhole43
import Derived.Test.YtfmdjhfnbiekaaaQFconvWhole44
import Derived.Test.YtfmdjhfnbiekaaaQFconvWhole47
import Derived.Test.YtfmdjhfnbiekaaaQFconvWhole48
import Derived.Test.YtfmdjhfnbiekaaaQFconvWhole49
import Derived.Test.YtfmdjhfnbiekaaaQFconvWhole42
namespace Go.Proofs.Ytfmdjhfnbiekaaa.PF
open Go.RowKit Go.Proofs.YtfmdjhfnbiekaaaW.PrintWords Go.Proofs.YtfmdjhfnbiekaaaW.PrintLast Go.Proofs.YtfmdjhfnbiekaaaW.PrintMore Go.Proofs.Ytfmdjhfnbiekaaa.Num Go.Proofs.Ytfmdjhfnbiekaaa.Flt
set_option linter.unusedVariables false
set_option linter.unusedSimpArgs false
theorem wval_nonneg (a mode : Int) : 0 ≤ wval a mode := by
  have mr := fman_range a
  unfold wval
  by_cases h : fxp a < 0
  · rw [if_pos h]
    refine (wq_range (fneg a) mode mr.1 mr.2 ?_).1
    have := two_pow_mono (show 1 ≤ (-fxp a).toNat by omega)
    omega
  · rw [if_neg h]
    exact Int.mul_nonneg mr.1 (Int.le_of_lt (two_pow_pos _))
theorem toint_j0 {t W fl : Int} (ht : fex t ≠ 2047) (h0 : 0 ≤ W) (h1 : W ≤ 4611686018427387904) (h : fman t * up2 (fxp t) = W * up2 (-fxp t)) :
    Ev (fun k => fconv_ToInt.j0 k fl (fneg t) (fman t) (fxp t) false) (sv (fneg t) W, fl) := by
  have mr := fman_range t
  have xr := fxp_range t
  have fs := fin_shape ht
  have fin : ∀ x : Int, x = W → ∀ b : Bool, (if b = true then some (wrap64 (-(wrap64 x)), fl) else some (wrap64 x, fl)) = some (sv b W, fl) := by
    intro x hx b
    rw [hx, w64 (x := W) (by omega) (by omega), w64 (x := -W) (by omega) (by omega)]
    cases b <;> rfl
  refine Ev.step (f := fun _ => some (sv (fneg t) W, fl)) (fun k => ?_) (Ev.now _)
  rw [fconv_ToInt.j0, if_neg (by decide)]
  by_cases hp : 0 ≤ fxp t
  · obtain ⟨n, hn⟩ := Int.eq_ofNat_of_zero_le hp
    rw [up2_neg (a := -fxp t) (by omega), Int.mul_one, hn, up2_nat] at h
    have hm : 4503599627370496 ≤ fman t := by omega
    have hn10 : n ≤ 10 := by
      by_cases c : n ≤ 10
      · exact c
      · exfalso
        have e11 : (2 : Int) ^ 11 = 2048 := by decide
        have c1 := two_pow_mono (show 11 ≤ n by omega)
        have c2 : 4503599627370496 * 2048 ≤ fman t * 2 ^ n := Int.mul_le_mul hm (by omega) (by decide) (by omega)
        omega
    rw [hn, if_pos (by omega), if_pos (by omega), shl_u64 (by omega), h]
    exact fin _ (by omega) _
  · obtain ⟨n, hn⟩ : ∃ n : Nat, -fxp t = (n : Int) := ⟨(-fxp t).toNat, by omega⟩
    rw [up2_neg (a := fxp t) (by omega), Int.mul_one, hn, up2_nat] at h
    have hP := two_pow_pos n
    rw [if_neg (by omega), w64 (x := -fxp t) (by omega) (by omega), hn]
    by_cases c : n < 64
    · rw [if_pos (by omega), if_pos (by omega), shr_u64 (by omega)]
      exact fin _ (by rw [h]; exact Int.mul_ediv_cancel _ (by omega)) _
    · rw [if_neg (by omega)]
      have hz : W = 0 := by
        by_cases z : W = 0
        · exact z
        · exfalso
          have e64 : (2 : Int) ^ 64 = 18446744073709551616 := by decide
          have c1 := two_pow_mono (show 64 ≤ n by omega)
          have c2 : 1 * 2 ^ n ≤ W * 2 ^ n := Int.mul_le_mul_of_nonneg_right (by omega) (by omega)
          omega
      rw [hz]
      cases fneg t <;> rfl
theorem toint_j0_out {t : Int} (fl : Int) : Ev (fun k => fconv_ToInt.j0 k fl (fneg t) (fman t) (fxp t) true) (0, 1) := by
  refine Ev.step (f := fun _ => some (0, 1)) (fun k => ?_) (Ev.now _)
  rw [fconv_ToInt.j0, if_pos rfl]
theorem toint_ev {a : Int} (a0 : 0 ≤ a) (a1 : a < 18446744073709551616) (hf : fex a ≠ 2047) (mode : Int) :
    Ev (fun k => fconv_ToInt.f k a mode) (if 4611686018427387904 < wval a mode then (0, 1) else (sv (fneg a) (wval a mode), if wfl a = true then 16 else 0)) := by
  obtain ⟨t, e1, t0, t1, t2, t3, t4⟩ := fwhole_ev a0 a1 hf mode
  obtain ⟨b, e2, b0, b1, b2, b3, b4, b5⟩ := from62
  obtain ⟨z, f, e3, z1, z2, z3⟩ := sub62 t0 t1 t3 b0 b1 b2 b3 b4 b5 t4
  have hs := split_some t0 t1 t3
  have hc := (fcls_fin (a := a)).2 hf
  have hw := wval_nonneg a mode
  unfold fconv_ToInt.f
  refine Ev.bind (class_ev a0 a1) (Ev.congr (fun k => if_neg (by omega)) ?_)
  refine Ev.bind e1 (Ev.bind e2 ?_)
  refine Ev.bind (g := fun _ => parts_Split.f t) (Ev.congr (fun _ => hs) (Ev.now _)) ?_
  rw [andNot_sign t0 t1]
  refine Ev.bind e3 ?_
  rw [← t2]
  rcases Int.lt_trichotomy (wval a mode) 4611686018427387904 with h | h | h
  · have hz := z2 h
    rw [if_neg (show ¬ 4611686018427387904 < wval a mode by omega)]
    refine Ev.congr (fun k => if_neg (by omega)) ?_
    have e : (z / 9223372036854775808 == 0) = false := by
      have : z / 9223372036854775808 = 1 := by omega
      rw [this]
      rfl
    rw [e]
    exact toint_j0 t3 hw (by omega) t4
  · rw [if_neg (show ¬ 4611686018427387904 < wval a mode by omega)]
    refine Ev.congr (fun k => if_pos (z1 h)) ?_
    exact toint_j0 t3 hw (by omega) t4
  · have hz := z3 h
    rw [if_pos h]
    refine Ev.congr (fun k => if_neg (by omega)) ?_
    have e : (z / 9223372036854775808 == 0) = true := by
      have : z / 9223372036854775808 = 0 := by omega
      rw [this]
      rfl
    rw [e]
    exact toint_j0_out _
theorem alive13_ev : Ev (fun k => vernierlaw13_alive.f k) true := by
  have h := toint_ev (a := 4612811918334230528) (by decide) (by decide) (by decide) 0
  have e1 : wval 4612811918334230528 0 = 2 := by decide
  have e2 : wfl 4612811918334230528 = true := by decide
  have e3 : fneg 4612811918334230528 = false := by decide
  rw [e1, e2, e3, if_neg (by decide), if_pos rfl] at h
  unfold vernierlaw13_alive.f
  refine Ev.bind h (Ev.congr (fun k => if_pos rfl) ?_)
  exact Ev.now _
theorem dg_len_pos {q : Int} (h0 : 0 ≤ q) : 0 < (dg 65536 q).length ↔ q ≠ 0 := by
  have := dg_nil one_lt_D h0
  constructor
  · intro h e
    rw [this.2 e] at h
    exact absurd h (by decide)
  · intro h
    refine List.length_pos_iff.2 (fun e => h (this.1 e))
theorem dg_odd {q : Int} (h0 : 0 ≤ q) : Int.tmod (rd (dg 65536 q) 0) 2 = q % 2 := by
  have g := (dg_dig one_lt_D q).getD D_pos 0
  have hv := V_mod (B := 65536) (m := 2) (by decide) (dg 65536 q)
  rw [dg_val one_lt_D h0] at hv
  have e : rd (dg 65536 q) 0 = (dg 65536 q).getD 0 0 := rd_nat _ 0
  rw [e, tmod_nn g.1, hv]
theorem whole13_ev {a : Int} (a0 : 0 ≤ a) (a1 : a < 18446744073709551616) (hf : fex a ≠ 2047) (mode : Int) :
    Ev (fun k => vernierlaw13_whole.f k a mode) (dg 65536 (wval a mode), wfl a) ∧ Nd (dg 65536 (wval a mode)) (wval a mode) 100 := by
  have mr := fman_range a
  have xr := fxp_range a
  have hs := rsplit_some a0 a1
  obtain ⟨e1, d1⟩ := word_ev (x := fman a) mr.1 (by omega)
  have hsE : Ev (fun _ => vernierref06_Split.f a) (fneg a, fman a, fxp a) := Ev.congr (fun _ => hs) (Ev.now _)
  unfold vernierlaw13_whole.f
  by_cases hx : 0 ≤ fxp a
  · obtain ⟨n, hn⟩ := Int.eq_ofNat_of_zero_le hx
    obtain ⟨e2, d2⟩ := d1.shl n (by omega) (by omega)
    have hw : wval a mode = 2 ^ n * fman a := by
      unfold wval
      rw [if_neg (by omega), hn, Int.toNat_natCast, Int.mul_comm]
    have hfl : wfl a = false := by
      unfold wfl
      exact decide_eq_false (fun h => by omega)
    rw [hw, hfl]
    refine ⟨?_, d2.mono (by omega)⟩
    refine Ev.bind hsE (Ev.congr (fun k => if_pos (by omega)) (Ev.bind e1 ?_))
    rw [hn]
    exact Ev.bind e2 (Ev.now _)
  · obtain ⟨n, hn⟩ : ∃ n : Nat, -fxp a = (n : Int) := ⟨(-fxp a).toNat, by omega⟩
    have hD := two_pow_pos n
    have hD2 : (2 : Int) ≤ 2 ^ n := by
      have := two_pow_mono (show 1 ≤ n by omega)
      omega
    have hw : wval a mode = wq (fneg a) (fman a) (2 ^ n) mode := by
      unfold wval
      rw [if_pos (by omega), hn, Int.toNat_natCast]
    have hfl : wfl a = decide (fman a % 2 ^ n ≠ 0) := by
      unfold wfl
      rw [hn, Int.toNat_natCast]
      exact decide_eq_decide.2 ⟨fun h => h.2, fun h => ⟨by omega, h⟩⟩
    have hwr := wq_range (fneg a) mode mr.1 mr.2 hD2
    rw [hw, hfl]
    obtain ⟨m, hm⟩ : ∃ m, fman a = m := ⟨_, rfl⟩
    rw [hm] at hwr mr e1 d1 ⊢
    have q0 : 0 ≤ m / 2 ^ n := Int.ediv_nonneg mr.1 (Int.le_of_lt hD)
    have r0 := Int.emod_nonneg m (show (2 : Int) ^ n ≠ 0 by omega)
    have r1 := Int.emod_lt_of_pos m hD
    have hdm := Int.emod_add_mul_ediv m (2 ^ n)
    obtain ⟨e2, d2⟩ := d1.shr n (by omega) (by omega)
    obtain ⟨e3, d3⟩ := d2.shl n (by omega) (by omega)
    obtain ⟨e4, d4⟩ := d1.sub 100 d3 (by omega) (by omega) (by omega)
    have er : (((m - 2 ^ n * (m / 2 ^ n)).natAbs : Nat) : Int) = m % 2 ^ n := by omega
    rw [er] at e4 d4
    obtain ⟨e5, d5⟩ := d4.shl 1 (by omega) (by omega)
    obtain ⟨e6, d6⟩ := (Nd.one (x := 1) (by decide) (by decide)).shl n (by omega) (by omega)
    rw [Int.mul_one] at e6 d6
    have e21 : (2 : Int) ^ 1 = 2 := by decide
    rw [e21] at e5 d5
    have e7 := d5.cmp d6 (by omega) (by omega)
    obtain ⟨e8, d8⟩ := d2.add 100 (Nd.one (x := 1) (by decide) (by decide)) (by omega) (by omega) (by omega)
    have hlen : decide (((dg 65536 (m % 2 ^ n)).length : Int) > 0) = decide (m % 2 ^ n ≠ 0) := decide_eq_decide.2 (by
      have := dg_len_pos r0
      omega)
    have hlen' : ((dg 65536 (m % 2 ^ n)).length : Int) > 0 ↔ m % 2 ^ n ≠ 0 := by
      have := dg_len_pos r0
      omega
    have hq' : ((dg 65536 (m / 2 ^ n)).length : Int) > 0 ↔ m / 2 ^ n ≠ 0 := by
      have := dg_len_pos q0
      omega
    have hodd := dg_odd q0
    refine ⟨?_, Nd.dg hwr.1 (by
      have c1 : (65536 : Int) ^ 4 ≤ 65536 ^ 100 := pow_le D_pos (by decide)
      have c2 : (65536 : Int) ^ 4 = 18446744073709551616 := by decide
      omega)⟩
    have eup : ∀ k : Nat, wq (fneg a) m (2 ^ n) mode = m / 2 ^ n + 1 → True := fun _ _ => trivial
    have yes : wup (fneg a) m (2 ^ n) mode = true → Ev (fun k => (vernierref01_Add.f k (dg 65536 (m / 2 ^ n)) [1]).bind fun t344 => some (t344, decide (m % 2 ^ n ≠ 0))) (dg 65536 (wq (fneg a) m (2 ^ n) mode), decide (m % 2 ^ n ≠ 0)) := by
      intro h
      unfold wq
      rw [if_pos h]
      exact Ev.bind e8 (Ev.now _)
    have no : wup (fneg a) m (2 ^ n) mode = false → Ev (fun k => some (dg 65536 (m / 2 ^ n), decide (m % 2 ^ n ≠ 0))) (dg 65536 (wq (fneg a) m (2 ^ n) mode), decide (m % 2 ^ n ≠ 0)) := by
      intro h
      unfold wq
      rw [h, if_neg (by decide)]
      exact Ev.now _
    refine Ev.bind hsE (Ev.congr (fun k => if_neg (by omega)) ?_)
    rw [hm]
    refine Ev.bind e1 ?_
    rw [w64 (x := -fxp a) (by omega) (by omega), hn]
    refine Ev.bind e2 (Ev.bind e3 (Ev.bind e4 (Ev.bind e5 (Ev.bind e6 (Ev.bind e7 ?_)))))
    rw [hlen]
    have hs3 := sgn_pos_iff (x := 2 * (m % 2 ^ n) - 2 ^ n)
    have hs4 := sgn_neg_iff (x := 2 * (m % 2 ^ n) - 2 ^ n)
    have hs5 : sgn (2 * (m % 2 ^ n) - 2 ^ n) = 0 ↔ 2 * (m % 2 ^ n) = 2 ^ n := by unfold sgn; split <;> (try split) <;> omega
    have hr5 := sgn_range (2 * (m % 2 ^ n) - 2 ^ n)
    generalize sgn (2 * (m % 2 ^ n) - 2 ^ n) = S at *
    have hU : wup (fneg a) m (2 ^ n) mode = rup (fneg a) (m / 2 ^ n) (decide (2 ^ n ≤ 2 * (m % 2 ^ n))) (decide (m % 2 ^ n ≠ 0 ∧ 2 * (m % 2 ^ n) ≠ 2 ^ n)) mode := rfl
    generalize wup (fneg a) m (2 ^ n) mode = U at *
    unfold rup at hU
    by_cases m1 : mode = 1
    · refine Ev.congr (fun k => if_pos m1) ?_
      rw [if_pos m1] at hU
      by_cases c : S ≥ 0
      · exact Ev.congr (fun k => if_pos c) (yes (by rw [hU]; exact decide_eq_true (by omega)))
      · exact Ev.congr (fun k => if_neg c) (no (by rw [hU]; exact decide_eq_false (by omega)))
    · refine Ev.congr (fun k => if_neg m1) ?_
      rw [if_neg m1] at hU
      by_cases m2 : mode = 2
      · rw [if_pos m2] at hU
        exact Ev.congr (fun k => if_pos m2) (no hU)
      · refine Ev.congr (fun k => if_neg m2) ?_
        rw [if_neg m2] at hU
        have hor : (decide (2 ^ n ≤ 2 * (m % 2 ^ n)) || decide (m % 2 ^ n ≠ 0 ∧ 2 * (m % 2 ^ n) ≠ 2 ^ n)) = decide (m % 2 ^ n ≠ 0) := by
          rw [Bool.eq_iff_iff]
          simp only [Bool.or_eq_true, decide_eq_true_eq]
          omega
        by_cases m3 : mode = 3
        · rw [if_pos m3, hor] at hU
          refine Ev.congr (fun k => if_pos m3) ?_
          by_cases c : m % 2 ^ n ≠ 0
          · refine Ev.congr (fun k => if_pos (hlen'.2 c)) ?_
            rw [decide_eq_true c, Bool.and_true] at hU
            by_cases hb : fneg a = true
            · exact Ev.congr (fun k => if_pos hb) (no (by rw [hU, hb]; rfl))
            · exact Ev.congr (fun k => if_neg hb) (yes (by rw [hU, Bool.eq_false_iff.2 hb]; rfl))
          · refine Ev.congr (fun k => if_neg (fun h => c (hlen'.1 h))) (no ?_)
            rw [hU, decide_eq_false c, Bool.and_false]
        · refine Ev.congr (fun k => if_neg m3) ?_
          rw [if_neg m3] at hU
          by_cases m4 : mode = 4
          · rw [if_pos m4, hor] at hU
            refine Ev.congr (fun k => if_pos m4) ?_
            by_cases c : m % 2 ^ n ≠ 0
            · refine Ev.congr (fun k => if_pos (hlen'.2 c)) ?_
              rw [decide_eq_true c, Bool.and_true] at hU
              by_cases hb : fneg a = true
              · exact Ev.congr (fun k => if_pos hb) (yes (by rw [hU, hb]))
              · exact Ev.congr (fun k => if_neg hb) (no (by rw [hU, Bool.eq_false_iff.2 hb]))
            · refine Ev.congr (fun k => if_neg (fun h => c (hlen'.1 h))) (no ?_)
              rw [hU, decide_eq_false c, Bool.and_false]
          · refine Ev.congr (fun k => if_neg m4) ?_
            rw [if_neg m4] at hU
            by_cases c : S > 0
            · refine Ev.congr (fun k => if_pos c) (yes ?_)
              rw [hU, decide_eq_true (show 2 ^ n ≤ 2 * (m % 2 ^ n) by omega), decide_eq_true (show m % 2 ^ n ≠ 0 ∧ 2 * (m % 2 ^ n) ≠ 2 ^ n by omega)]
              rfl
            · refine Ev.congr (fun k => if_neg c) ?_
              by_cases d : S = 0
              · refine Ev.congr (fun k => if_pos d) ?_
                have hd := hs5.1 d
                rw [decide_eq_true (show 2 ^ n ≤ 2 * (m % 2 ^ n) by omega), decide_eq_false (show ¬ (m % 2 ^ n ≠ 0 ∧ 2 * (m % 2 ^ n) ≠ 2 ^ n) by omega), Bool.false_or, Bool.true_and] at hU
                by_cases z : m / 2 ^ n ≠ 0
                · refine Ev.congr (fun k => (if_pos (hq'.2 z)).trans (if_pos (by have := hq'.2 z; omega))) ?_
                  rw [hodd]
                  by_cases od : m / 2 ^ n % 2 = 1
                  · exact Ev.congr (fun k => if_pos od) (yes (by rw [hU]; exact decide_eq_true od))
                  · exact Ev.congr (fun k => if_neg od) (no (by rw [hU]; exact decide_eq_false od))
                · refine Ev.congr (fun k => if_neg (fun h => z (hq'.1 h))) (no ?_)
                  rw [hU]
                  exact decide_eq_false (by omega)
              · refine Ev.congr (fun k => if_neg d) (no ?_)
                rw [hU, decide_eq_false (show ¬ (2 ^ n ≤ 2 * (m % 2 ^ n)) by omega)]
                rfl
end Go.Proofs.Ytfmdjhfnbiekaaa.PF
