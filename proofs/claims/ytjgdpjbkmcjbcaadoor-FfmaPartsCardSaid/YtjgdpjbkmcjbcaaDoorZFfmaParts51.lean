/- Parts of a proof. -/
import Derived.Test.YtjgdpjbkmcjbcaaDoorZFfmaParts50
section
namespace Go.Proofs.YtjgdpjbkmcjbcaaDoor.PG
open Go.RowKit Go.Proofs.YtjgdpjbkmcjbcaaDoorW.PrintWords Go.Proofs.YtjgdpjbkmcjbcaaDoorW.PrintLast Go.Proofs.YtjgdpjbkmcjbcaaDoorW.PrintMore Go.Proofs.YtjgdpjbkmcjbcaaDoor.Num Go.Proofs.YtjgdpjbkmcjbcaaDoor.Flt
set_option linter.unusedVariables false
set_option linter.unusedSimpArgs false
theorem top_bit {x : Nat} (h : x < 2 ^ 64) : x.testBit 63 = decide (2 ^ 63 ≤ x) := by
 rw [Nat.testBit_eq_decide_div_mod_eq]
 exact decide_eq_decide.2 (by omega)
theorem xor_neg {a b : Int} (a0 : 0 ≤ a) (a1 : a < 18446744073709551616) (b0 : 0 ≤ b) (b1 : b < 18446744073709551616) : Go.bits .and .u64 (Go.bits .xor .u64 a b) 9223372036854775808 = rzero (fneg a != fneg b) := by
 obtain ⟨n, rfl⟩ := Int.eq_ofNat_of_zero_le a0
 obtain ⟨m, rfl⟩ := Int.eq_ofNat_of_zero_le b0
 rw [bits_xor_u64_nat n m (by omega) (by omega)]
 have hx : n ^^^ m < 2 ^ 64 := Nat.xor_lt_two_pow (by omega) (by omega)
 rw [and_sign (by omega) (by omega)]
 have t := Nat.testBit_xor n m 63
 rw [top_bit hx, top_bit (by omega), top_bit (by omega)] at t
 unfold fneg rzero
 have e1 : decide (9223372036854775808 ≤ (n : Int)) = decide (2 ^ 63 ≤ n) := decide_eq_decide.2 (by omega)
 have e2 : decide (9223372036854775808 ≤ (m : Int)) = decide (2 ^ 63 ≤ m) := decide_eq_decide.2 (by omega)
 have e3 : (decide (2 ^ 63 ≤ n) != decide (2 ^ 63 ≤ m)) = decide (2 ^ 63 ≤ n ^^^ m) := t.symm
 rw [e1, e2, e3]
 by_cases c : 2 ^ 63 ≤ n ^^^ m
 ·
  rw [if_neg (by omega), decide_eq_true c, if_pos rfl]
 ·
  rw [if_pos (by omega), decide_eq_false c, if_neg (by decide)]
theorem rzero_bne (s : Bool) : (rzero s != 0) = s := by cases s <;> decide
theorem and_neg {c : Int} (c0 : 0 ≤ c) (c1 : c < 18446744073709551616) : Go.bits .and .u64 c 9223372036854775808 = rzero (fneg c) := by
 rw [and_sign c0 c1]
 unfold fneg rzero
 by_cases h : c < 9223372036854775808
 ·
  rw [if_pos h, decide_eq_false (by omega), if_neg (by decide)]
 ·
  rw [if_neg h, decide_eq_true (by omega), if_pos rfl]
def fmaS (a b c mode : Int) : Int × Int :=
 if fcls a = 3 ∨ fcls b = 3 then (9221120237041090560, 0)
 else if fcls a = 0 ∧ fcls b = 2 ∨ fcls a = 2 ∧ fcls b = 0 then (9221120237041090560, 1)
 else if fcls c = 3 then (9221120237041090560, 0)
 else if fcls a = 2 ∨ fcls b = 2 then (if fcls c = 2 ∧ c ≠ rinf (fneg a != fneg b) then (9221120237041090560, 1) else (rinf (fneg a != fneg b), 0))
 else if fcls c = 2 then (c, 0)
 else rsum (fneg a != fneg b) (fman a * fman b) (fxp a + fxp b) (fneg c) (fman c) (fxp c) mode
def mulS (a b mode : Int) : Int × Int :=
 if fcls a = 3 ∨ fcls b = 3 then (9221120237041090560, 0)
 else if fcls a = 0 ∧ fcls b = 2 ∨ fcls a = 2 ∧ fcls b = 0 then (9221120237041090560, 1)
 else if fcls a = 2 ∨ fcls b = 2 then (rinf (fneg a != fneg b), 0)
 else if fcls a = 0 ∨ fcls b = 0 then (rzero (fneg a != fneg b), 0)
 else rnd (fneg a != fneg b) (fman a * fman b) (fxp a + fxp b) mode
theorem sv_up (s : Bool) (v p : Int) : sv s (p * v) = sv s v * p := by
 rw [sv_mul, Int.mul_comm]
theorem rsum_val (neg other : Bool) (m p k q : Int) (hp : -100000 ≤ p) (hq : -100000 ≤ q) :
  vl (sv neg (up2 (p - mn p q) * m) + sv other (up2 (q - mn p q) * k)) (mn p q) = vl (sv neg m) p + vl (sv other k) q := by
 have hm := mn_le' p q
 rw [sv_up, sv_up, vl_add, vl_level _ _ _ hm.1 (by omega), vl_level _ _ _ hm.2.1 (by omega)]
theorem rsum_some (neg other : Bool) (m p k q mode : Int) (hp : -100000 ≤ p) (hq : -100000 ≤ q) {y e : Int} (hy : y ≠ 0) (he : -200000 ≤ e) (h : vl (sv neg m) p + vl (sv other k) q = vl y e) :
  rsum neg m p other k q mode = rnd (decide (y < 0)) (y.natAbs : Int) e mode := by
 have hv := rsum_val neg other m p k q hp hq
 have hm := mn_le' p q
 unfold rsum
 generalize sv neg (up2 (p - mn p q) * m) + sv other (up2 (q - mn p q) * k) = R at *
 rw [h] at hv
 have hR : R ≠ 0 := fun g => hy ((vl_zero_iff y e).1 (by rw [← hv, g, vl_zero]))
 have hn : decide (R < 0) = decide (y < 0) := decide_eq_decide.2 (by rw [← vl_neg R (mn p q), ← vl_neg y e, hv])
 rw [if_neg hR, hn]
 exact rnd_vl mode (by omega) (by omega) (by rw [vl_abs, vl_abs, hv]) (by omega) he
theorem rsum_none (neg other : Bool) (m p k q mode : Int) (hp : -100000 ≤ p) (hq : -100000 ≤ q) (h : vl (sv neg m) p + vl (sv other k) q = 0) :
  rsum neg m p other k q mode = (if neg = other then rzero neg else rzero (decide (mode = 4)), 0) := by
 have hv := rsum_val neg other m p k q hp hq
 rw [h] at hv
 unfold rsum
 rw [if_pos ((vl_zero_iff _ _).1 hv)]
def oddS (a b c : Int) : Int × Int × Bool :=
 if fcls a = 3 ∨ fcls b = 3 then (9221120237041090560, 0, true)
 else if fcls a = 0 ∧ fcls b = 2 ∨ fcls a = 2 ∧ fcls b = 0 then (9221120237041090560, 1, true)
 else if fcls c = 3 then (9221120237041090560, 0, true)
 else if fcls a = 2 ∨ fcls b = 2 then (if fcls c = 2 ∧ c ≠ rinf (fneg a != fneg b) then (9221120237041090560, 1, true) else (rinf (fneg a != fneg b), 0, true))
 else if fcls c = 2 then (c, 0, true) else (0, 0, false)
theorem fodd_ev {a b c : Int} (a0 : 0 ≤ a) (a1 : a < 18446744073709551616) (b0 : 0 ≤ b) (b1 : b < 18446744073709551616) (c0 : 0 ≤ c) (c1 : c < 18446744073709551616) : Ev (fun k => ffma_odd.f k a b c) (oddS a b c) := by
 have hneg := xor_neg a0 a1 b0 b1
 have ra := fcls_range a
 have rb := fcls_range b
 have rc := fcls_range c
 have einf := inf_some (fneg a != fneg b)
 unfold oddS
 generalize hs : (fneg a != fneg b) = s at *
 have j2 : ∀ t : Bool, Ev (fun k => ffma_odd.j2 k c (fcls c) s t) (if t = true then (if fcls c = 2 ∧ c ≠ rinf s then (9221120237041090560, 1, true) else (rinf s, 0, true)) else if fcls c = 2 then (c, 0, true) else (0, 0, false)) := by
  intro t
  refine Ev.step (f := fun _ => some (if t = true then (if fcls c = 2 ∧ c ≠ rinf s then (9221120237041090560, 1, true) else (rinf s, 0, true)) else if fcls c = 2 then (c, 0, true) else (0, 0, false))) (fun k => ?_) (Ev.now _)
  rw [ffma_odd.j2, einf]
  simp only [Option.bind_some]
  by_cases ct : t = true
  ·
   rw [if_pos ct, if_pos ct]
   by_cases cz : fcls c = 2
   ·
    rw [if_pos cz]
    by_cases ci : c = rinf s
    ·
     rw [if_pos ci, if_neg (fun h => h.2 ci)]
    ·
     rw [if_neg ci, if_pos ⟨cz, ci⟩]
   ·
    rw [if_neg cz, if_neg (fun h => cz h.1)]
  ·
   rw [if_neg ct, if_neg ct]
   by_cases cz : fcls c = 2
   ·
    rw [if_pos cz, if_pos cz]
   ·
    rw [if_neg cz, if_neg cz]
 have j1 : ∀ bad nan : Bool, Ev (fun k => ffma_odd.j1 k c (fcls a) (fcls b) (fcls c) bad s nan) (if nan = true then (9221120237041090560, 0, true) else if bad = true then (9221120237041090560, 1, true) else if fcls c = 3 then (9221120237041090560, 0, true) else
   if fcls a = 2 ∨ fcls b = 2 then (if fcls c = 2 ∧ c ≠ rinf s then (9221120237041090560, 1, true) else (rinf s, 0, true)) else if fcls c = 2 then (c, 0, true) else (0, 0, false)) := by
  intro bad nan
  cases nan
  ·
   rw [if_neg (by decide)]
   cases bad
   ·
    rw [if_neg (by decide)]
    by_cases cz : fcls c = 3
    ·
     rw [if_pos cz]
     exact Ev.step (f := fun _ => some (9221120237041090560, 0, true)) (fun k => by rw [ffma_odd.j1, if_neg (by decide), if_neg (by decide), if_pos cz]) (Ev.now _)
    ·
     rw [if_neg cz]
     by_cases ca : fcls a = 2
     ·
      have h := j2 true
      rw [if_pos rfl] at h
      rw [if_pos (.inl ca)]
      exact Ev.step (f := _) (fun k => by rw [ffma_odd.j1, if_neg (by decide), if_neg (by decide), if_neg cz, if_pos ca]) h
     ·
      by_cases cb : fcls b = 2
      ·
       have h := j2 true
       rw [if_pos rfl] at h
       rw [if_pos (.inr cb)]
       have e : (fcls b == 2) = true := beq_iff_eq.2 cb
       exact Ev.step (f := _) (fun k => by rw [ffma_odd.j1, if_neg (by decide), if_neg (by decide), if_neg cz, if_neg ca, e]) h
      ·
       have h := j2 false
       rw [if_neg (by decide)] at h
       rw [if_neg (fun g => g.elim ca cb)]
       have e : (fcls b == 2) = false := beq_eq_false_iff_ne.2 cb
       exact Ev.step (f := _) (fun k => by rw [ffma_odd.j1, if_neg (by decide), if_neg (by decide), if_neg cz, if_neg ca, e]) h
   ·
    rw [if_pos rfl]
    exact Ev.step (f := fun _ => some (9221120237041090560, 1, true)) (fun k => by rw [ffma_odd.j1, if_neg (by decide), if_pos rfl]) (Ev.now _)
  ·
   rw [if_pos rfl]
   exact Ev.step (f := fun _ => some (9221120237041090560, 0, true)) (fun k => by rw [ffma_odd.j1, if_pos rfl]) (Ev.now _)
 have j0 : ∀ bad : Bool, (bad = true ↔ fcls a = 0 ∧ fcls b = 2 ∨ fcls a = 2 ∧ fcls b = 0) → Ev (fun k => ffma_odd.j0 k a b c (fcls a) (fcls b) (fcls c) bad) (if fcls a = 3 ∨ fcls b = 3 then (9221120237041090560, 0, true)
   else if fcls a = 0 ∧ fcls b = 2 ∨ fcls a = 2 ∧ fcls b = 0 then (9221120237041090560, 1, true) else if fcls c = 3 then (9221120237041090560, 0, true) else
   if fcls a = 2 ∨ fcls b = 2 then (if fcls c = 2 ∧ c ≠ rinf s then (9221120237041090560, 1, true) else (rinf s, 0, true)) else if fcls c = 2 then (c, 0, true) else (0, 0, false)) := by
  intro bad hb
  have key : ∀ nan : Bool, (nan = true ↔ fcls a = 3 ∨ fcls b = 3) → Ev (fun k => ffma_odd.j1 k c (fcls a) (fcls b) (fcls c) bad s nan) (if fcls a = 3 ∨ fcls b = 3 then (9221120237041090560, 0, true)
   else if fcls a = 0 ∧ fcls b = 2 ∨ fcls a = 2 ∧ fcls b = 0 then (9221120237041090560, 1, true) else if fcls c = 3 then (9221120237041090560, 0, true) else
   if fcls a = 2 ∨ fcls b = 2 then (if fcls c = 2 ∧ c ≠ rinf s then (9221120237041090560, 1, true) else (rinf s, 0, true)) else if fcls c = 2 then (c, 0, true) else (0, 0, false)) := by
   intro nan hn
   have h := j1 bad nan
   simp only [hb, hn] at h
   exact h
  by_cases ca : fcls a = 3
  ·
   refine Ev.step (f := _) (fun k => by rw [ffma_odd.j0, hneg, rzero_bne, if_pos ca]) (key true ⟨fun _ => .inl ca, fun _ => rfl⟩)
  ·
   refine Ev.step (f := _) (fun k => by rw [ffma_odd.j0, hneg, rzero_bne, if_neg ca]) (key (fcls b == 3) ⟨fun h => .inr (beq_iff_eq.1 h), fun h => beq_iff_eq.2 (h.resolve_left ca)⟩)
 unfold ffma_odd.f
 refine Ev.bind (class_ev a0 a1) (Ev.bind (class_ev b0 b1) (Ev.bind (class_ev c0 c1) ?_))
 by_cases ca : fcls a = 0
 ·
  refine Ev.congr (fun k => if_pos ca) ?_
  by_cases cb : fcls b = 2
  ·
   exact Ev.congr (fun k => if_pos cb) (j0 true ⟨fun _ => .inl ⟨ca, cb⟩, fun _ => rfl⟩)
  ·
   exact Ev.congr (fun k => (if_neg cb).trans (if_neg (by omega))) (j0 false ⟨fun h => (by cases h), fun h => by omega⟩)
 ·
  refine Ev.congr (fun k => if_neg ca) ?_
  by_cases ca2 : fcls a = 2
  ·
   exact Ev.congr (fun k => if_pos ca2) (j0 (fcls b == 0) ⟨fun h => .inr ⟨ca2, beq_iff_eq.1 h⟩, fun h => beq_iff_eq.2 (by omega)⟩)
  ·
   exact Ev.congr (fun k => if_neg ca2) (j0 false ⟨fun h => (by cases h), fun h => by omega⟩)
theorem fexact_ev {a : Int} (a0 : 0 ≤ a) (a1 : a < 18446744073709551616) (hf : fex a ≠ 2047) : Ev (fun _ => ffma_exact.f a) (fneg a, [fman a], fxp a) ∧ Wh (fneg a) [fman a] (sv (fneg a) (fman a)) 1 := by
 have hm := fman_range a
 refine ⟨?_, Wh.of (Nm.one (by omega) (by omega) (by omega))⟩
 unfold ffma_exact.f
 exact Ev.bind (g := fun _ => parts_Split.f a) (Ev.congr (fun _ => split_some a0 a1 hf) (Ev.now _)) (Ev.now _)
theorem abs_shift_lt {y : Int} {a k m : Nat} (h : (y.natAbs : Int) < 2 ^ a) (hk : a + k ≤ m) : ((y * 2 ^ k).natAbs : Int) < 2 ^ m := by
 rw [abs_mul_pow]
 refine Int.lt_of_lt_of_le (Int.mul_lt_mul_of_pos_right h (two_pow_pos k)) ?_
 rw [← Int.pow_add]
 exact two_pow_mono hk
theorem abs_add_lt {x y : Int} {m : Nat} (hx : (x.natAbs : Int) < 2 ^ m) (hy : (y.natAbs : Int) < 2 ^ m) : ((x + y).natAbs : Int) < 2 ^ (m + 1) := by
 rw [Int.pow_succ]
 omega
theorem pow64 (n : Nat) : (18446744073709551616 : Int) ^ n = 2 ^ (64 * n) := by rw [show (18446744073709551616 : Int) = 2 ^ 64 by decide, ← Int.pow_mul]
theorem sv_mul_sv (s t : Bool) (m k : Int) : sv s m * sv t k = sv (s != t) (m * k) := by
 cases s <;> cases t <;> simp [sv, Int.neg_mul, Int.mul_neg]
theorem sv_abs_lt {s : Bool} {m p : Int} (h0 : 0 ≤ m) (h : m < p) : ((sv s m).natAbs : Int) < p := by
 unfold sv
 split <;> omega
theorem ffma_fin {a b c : Int} (a0 : 0 ≤ a) (a1 : a < 18446744073709551616) (b0 : 0 ≤ b) (b1 : b < 18446744073709551616) (c0 : 0 ≤ c) (c1 : c < 18446744073709551616) (fa : fex a ≠ 2047) (fb : fex b ≠ 2047) (fc : fex c ≠ 2047) (mode : Int) :
  Ev (fun k => (ffma_exact.f a).bind fun bt1073 => ((ffma_exact.f b).bind fun bt1078 => ((dyadic_Mul.f k bt1073.1 bt1073.2.1 bt1073.2.2 bt1078.1 bt1078.2.1 bt1078.2.2).bind fun bt1083 => ((ffma_exact.f c).bind fun bt1090 => ((dyadic_Add.f k bt1083.1 bt1083.2.1 bt1083.2.2.1 bt1090.1 bt1090.2.1 bt1090.2.2).bind fun bt1095 => ((nat_Bits.f k bt1095.2.1).bind fun t1102 => (if t1102 = 0 then ((ffma_nought.f (Go.bits .and .u64 (Go.bits .xor .u64 a b) 9223372036854775808) (Go.bits .and .u64 c 9223372036854775808) mode).bind fun t1103 => (some (t1103, 0))) else ((parts_Wide.f k bt1095.1 bt1095.2.1 bt1095.2.2.1 mode).bind fun bt1104 => (some (bt1104.1, bt1104.2.1)))))))))) (rsum (fneg a != fneg b) (fman a * fman b) (fxp a + fxp b) (fneg c) (fman c) (fxp c) mode) := by
 obtain ⟨ea, wa⟩ := fexact_ev a0 a1 fa
 obtain ⟨eb, wb⟩ := fexact_ev b0 b1 fb
 obtain ⟨ec, wc⟩ := fexact_ev c0 c1 fc
 have xa := fxp_fin (fcls_fin.2 fa)
 have xb := fxp_fin (fcls_fin.2 fb)
 have xc := fxp_fin (fcls_fin.2 fc)
 have ya := (fxp_range a).1
 have yb := (fxp_range b).1
 have yc := (fxp_range c).1
 have ma := fman_range a
 have mb := fman_range b
 have mc := fman_range c
 rw [xor_neg a0 a1 b0 b1, and_neg c0 c1]
 have em := dmul_ev (wa.mono (by omega)) (wb.mono (by omega)) (by omega) (by omega) (by omega) (by omega) (e1 := fxp a) (e2 := fxp b)
 rw [sv_mul_sv] at em
 have hz : ((sv (fneg a != fneg b) (fman a * fman b)).natAbs : Int) < 18446744073709551616 ^ 2 := by
  have h1 : fman a * fman b < 9007199254740992 * 9007199254740992 := by
   have h1 : fman a * fman b ≤ 9007199254740991 * 9007199254740991 := Int.mul_le_mul (by omega) (by omega) (by omega) (by omega)
   omega
  exact sv_abs_lt (Int.mul_nonneg ma.1 mb.1) (Int.lt_of_lt_of_le h1 (by decide))
 generalize hneg : (fneg a != fneg b) = s at *
 generalize hprod : fman a * fman b = P at *
 obtain ⟨y, e, t, hd, wy, e0, e1, hy⟩ := dt_ok (x := fxp a + fxp b) hz (by omega) (by omega) (by omega)
 have hv := dt_any_vl (by omega) hy
 have he : -2148 ≤ e ∧ e ≤ 2100 := by rcases hy with ⟨_, _, h⟩ | ⟨_, _, _, h, h', _⟩ <;> omega
 rw [hd] at em
 have es := dadd_ev (wy.mono (by omega)) (wc.mono (by omega)) e0 e1 (e2 := fxp c) (by omega) (by omega)
 have hm := mn_le' e (fxp c)
 have hvs := vl_sum y (sv (fneg c) (fman c)) e (fxp c) (by omega) (by omega)
 have hS : ((y * up2 (e - mn e (fxp c)) + sv (fneg c) (fman c) * up2 (fxp c - mn e (fxp c))).natAbs : Int) < 18446744073709551616 ^ 64 := by
  obtain ⟨k1, hk1⟩ : ∃ k : Nat, e - mn e (fxp c) = k := ⟨(e - mn e (fxp c)).toNat, by omega⟩
  obtain ⟨k2, hk2⟩ : ∃ k : Nat, fxp c - mn e (fxp c) = k := ⟨(fxp c - mn e (fxp c)).toNat, by omega⟩
  rw [hk1, hk2, up2_nat, up2_nat, pow64]
  have l1 := wy.lt
  have l2 := wc.lt
  rw [pow64] at l1 l2
  exact Int.lt_of_lt_of_le (abs_add_lt (m := 4000) (abs_shift_lt l1 (by omega)) (abs_shift_lt l2 (by omega))) (two_pow_mono (by decide))
 generalize hSe : y * up2 (e - mn e (fxp c)) + sv (fneg c) (fman c) * up2 (fxp c - mn e (fxp c)) = S at *
 obtain ⟨y2, e2, t2, hd2, wy2, f0, f1, hy2⟩ := dt_ok (x := mn e (fxp c)) hS (by omega) (by omega) (by omega)
 have hv2 := dt_any_vl (by omega) hy2
 rw [hd2] at es
 have hT : vl (sv s P) (fxp a + fxp b) + vl (sv (fneg c) (fman c)) (fxp c) = vl y2 e2 := by rw [hv2, hvs, hv]
 have ebits := wy2.nm.bits (by omega)
 refine Ev.bind ea (Ev.bind eb (Ev.bind em (Ev.bind ec (Ev.bind es (Ev.bind ebits ?_)))))
 by_cases cy : y2 = 0
 ·
  have h0 : bitsOf (y2.natAbs : Int) = 0 := by rw [cy]; rfl
  rw [rsum_none _ _ _ _ _ _ _ (by omega) (by omega) (by rw [hT, cy, vl_zero])]
  refine Ev.congr (fun k => if_pos h0) ?_
  have em4 : (mode == 4) = decide (mode = 4) := by rw [Bool.eq_iff_iff]; simp
  by_cases d : s = fneg c
  ·
   rw [if_pos d]
   unfold ffma_nought.f
   exact Ev.congr (fun k => by rw [if_pos (by rw [d])]; rfl) (Ev.now _)
  ·
   rw [if_neg d]
   unfold ffma_nought.f
   have hne : rzero s ≠ rzero (fneg c) := by
    intro h
    apply d
    revert h
    cases s <;> cases fneg c <;> simp [rzero]
   exact Ev.congr (fun k => by rw [if_neg hne, zero_some, em4]; rfl) (Ev.now _)
 ·
  have h0 : bitsOf (y2.natAbs : Int) ≠ 0 := by
   have := bitsOf_pos (v := (y2.natAbs : Int)) (by omega)
   omega
  rw [rsum_some _ _ _ _ _ _ _ (by omega) (by omega) cy (by omega) hT]
  refine Ev.congr (fun k => if_neg h0) ?_
  exact Ev.bind (wide_ev (wy2.nm.mono (by omega)) (by omega) (wz y2).1 e2 mode (by omega) (by omega)) (Ev.now _)
theorem ffma_ev {a b c : Int} (a0 : 0 ≤ a) (a1 : a < 18446744073709551616) (b0 : 0 ≤ b) (b1 : b < 18446744073709551616) (c0 : 0 ≤ c) (c1 : c < 18446744073709551616) (mode : Int) : Ev (fun k => ffma_Fma.f k a b c mode) (fmaS a b c mode) := by
 have ho := fodd_ev a0 a1 b0 b1 c0 c1
 have ra := fcls_range a
 have rb := fcls_range b
 have rc := fcls_range c
 unfold ffma_Fma.f
 unfold oddS at ho
 unfold fmaS
 by_cases h1 : fcls a = 3 ∨ fcls b = 3
 ·
  rw [if_pos h1] at ho ⊢
  exact Ev.bind ho (Ev.congr (fun k => if_pos rfl) (Ev.now _))
 rw [if_neg h1] at ho ⊢
 by_cases h2 : fcls a = 0 ∧ fcls b = 2 ∨ fcls a = 2 ∧ fcls b = 0
 ·
  rw [if_pos h2] at ho ⊢
  exact Ev.bind ho (Ev.congr (fun k => if_pos rfl) (Ev.now _))
 rw [if_neg h2] at ho ⊢
 by_cases h3 : fcls c = 3
 ·
  rw [if_pos h3] at ho ⊢
  exact Ev.bind ho (Ev.congr (fun k => if_pos rfl) (Ev.now _))
 rw [if_neg h3] at ho ⊢
 by_cases h4 : fcls a = 2 ∨ fcls b = 2
 ·
  rw [if_pos h4] at ho ⊢
  by_cases h5 : fcls c = 2 ∧ c ≠ rinf (fneg a != fneg b)
  ·
   rw [if_pos h5] at ho ⊢
   exact Ev.bind ho (Ev.congr (fun k => if_pos rfl) (Ev.now _))
  ·
   rw [if_neg h5] at ho ⊢
   exact Ev.bind ho (Ev.congr (fun k => if_pos rfl) (Ev.now _))
 rw [if_neg h4] at ho ⊢
 by_cases h6 : fcls c = 2
 ·
  rw [if_pos h6] at ho ⊢
  exact Ev.bind ho (Ev.congr (fun k => if_pos rfl) (Ev.now _))
 rw [if_neg h6] at ho ⊢
 refine Ev.bind ho (Ev.congr (fun k => if_neg (by decide)) ?_)
 exact ffma_fin a0 a1 b0 b1 c0 c1 (fcls_fin.1 (by omega)) (fcls_fin.1 (by omega)) (fcls_fin.1 (by omega)) mode
theorem rneg_eq (a b : Int) : (decide (a ≥ 9223372036854775808) != decide (b ≥ 9223372036854775808)) = (fneg a != fneg b) := rfl
theorem rmul_ev6 {a b : Int} (a0 : 0 ≤ a) (a1 : a < 18446744073709551616) (b0 : 0 ≤ b) (b1 : b < 18446744073709551616) (mode : Int) : Ev (fun k => vernierref06_Mul.f k a b mode) (mulS a b mode) := by
 have ra := fcls_range a
 have rb := fcls_range b
 have einf := rinf_some (fneg a != fneg b)
 have ezer := rz_some (fneg a != fneg b)
 have xa := fxp_range a
 have xb := fxp_range b
 have ma := fman_range a
 have mb := fman_range b
 have sa : Ev (fun _ => vernierref06_Split.f a) (fneg a, fman a, fxp a) := Ev.congr (fun _ => rsplit_some a0 a1) (Ev.now _)
 have sb : Ev (fun _ => vernierref06_Split.f b) (fneg b, fman b, fxp b) := Ev.congr (fun _ => rsplit_some b0 b1) (Ev.now _)
 obtain ⟨ea, da⟩ := word_ev (x := fman a) (by omega) (by omega)
 obtain ⟨eb, db⟩ := word_ev (x := fman b) (by omega) (by omega)
 obtain ⟨ep, dp⟩ := da.mul db (by omega)
 have hfin : ∀ z : Int, 0 ≤ z → z < 18446744073709551616 → fcls z ≠ 3 → fcls z ≠ 2 → fcls z ≠ 0 → 0 < fman z := by
  intro z z0 z1 h3 h2 h0
  have hm := fman_range z
  unfold fcls at h3 h2 h0
  unfold fman at hm ⊢
  have := ffr_range z
  split at h2
  ·
   split at h2
   ·
    exact absurd rfl h2
   ·
    rename_i g1 g2
    rw [if_pos g1, if_neg g2] at h3
    exact absurd rfl h3
  ·
   rename_i g1
   rw [if_neg g1] at h0
   split at h0
   ·
    exact absurd rfl h0
   ·
    split at hm <;> split <;> omega
 unfold vernierref06_Mul.f mulS
 rw [rneg_eq]
 generalize hs : (fneg a != fneg b) = s at *
 have einfE : Ev (fun _ => vernierref06_Inf.f s) (rinf s) := Ev.congr (fun _ => einf) (Ev.now _)
 have ezE : Ev (fun _ => vernierref06_Zero.f s) (rzero s) := Ev.congr (fun _ => ezer) (Ev.now _)
 have oneE : Ev (fun _ => vernierref06_one.f) [1] := Ev.now _
 have j2 : fcls a ≠ 3 → fcls b ≠ 3 → ∀ t : Bool, (t = true ↔ fcls a = 2 ∨ fcls b = 2) → Ev (fun k => vernierref06_Mul.j2 k a b mode (fcls a) (fcls b) s t) (if fcls a = 2 ∨ fcls b = 2 then (rinf s, 0) else if fcls a = 0 ∨ fcls b = 0 then (rzero s, 0) else rnd s (fman a * fman b) (fxp a + fxp b) mode) := by
  intro n1 n2 t ht
  by_cases ct : fcls a = 2 ∨ fcls b = 2
  ·
   rw [if_pos ct]
   exact Ev.step (f := _) (fun k => by rw [vernierref06_Mul.j2, if_pos (ht.2 ct)]) (Ev.bind einfE (Ev.now _))
  ·
   rw [if_neg ct]
   have ht' : ¬ t = true := fun h => ct (ht.1 h)
   by_cases ca : fcls a = 0
   ·
    rw [if_pos (.inl ca)]
    exact Ev.step (f := _) (fun k => by rw [vernierref06_Mul.j2, if_neg ht', if_pos ca]) (Ev.bind ezE (Ev.now _))
   ·
    by_cases cb : fcls b = 0
    ·
     rw [if_pos (.inr cb)]
     exact Ev.step (f := _) (fun k => by rw [vernierref06_Mul.j2, if_neg ht', if_neg ca, if_pos cb]) (Ev.bind ezE (Ev.now _))
    ·
     rw [if_neg (fun h => h.elim ca cb)]
     have hma := hfin a a0 a1 n1 (fun h => ct (.inl h)) ca
     have hmb := hfin b b0 b1 n2 (fun h => ct (.inr h)) cb
     have er := rround_ev dp (Int.mul_pos hma hmb) (by omega) s (fxp a + fxp b) mode (by omega) (by omega)
     refine Ev.step (f := _) (fun k => by rw [vernierref06_Mul.j2, if_neg ht', if_neg ca, if_neg cb]) ?_
     refine Ev.bind sa (Ev.bind sb (Ev.bind ea (Ev.bind eb (Ev.bind ep (Ev.bind oneE ?_)))))
     rw [w64 (x := fxp a + fxp b) (by omega) (by omega)]
     exact Ev.bind er (Ev.now _)
 have j1 : fcls a ≠ 3 → fcls b ≠ 3 → ∀ bad : Bool, (bad = true ↔ fcls a = 0 ∧ fcls b = 2 ∨ fcls a = 2 ∧ fcls b = 0) → Ev (fun k => vernierref06_Mul.j1 k a b mode (fcls a) (fcls b) s bad) (if fcls a = 0 ∧ fcls b = 2 ∨ fcls a = 2 ∧ fcls b = 0 then (9221120237041090560, 1)
   else if fcls a = 2 ∨ fcls b = 2 then (rinf s, 0) else if fcls a = 0 ∨ fcls b = 0 then (rzero s, 0) else rnd s (fman a * fman b) (fxp a + fxp b) mode) := by
  intro n1 n2 bad hb
  by_cases cb : fcls a = 0 ∧ fcls b = 2 ∨ fcls a = 2 ∧ fcls b = 0
  ·
   rw [if_pos cb]
   exact Ev.step (f := fun _ => some (9221120237041090560, 1)) (fun k => by rw [vernierref06_Mul.j1, if_pos (hb.2 cb)]) (Ev.now _)
  ·
   rw [if_neg cb]
   have hb' : ¬ bad = true := fun h => cb (hb.1 h)
   by_cases ca : fcls a = 2
   ·
    exact Ev.step (f := _) (fun k => by rw [vernierref06_Mul.j1, if_neg hb', if_pos ca]) (j2 n1 n2 true ⟨fun _ => .inl ca, fun _ => rfl⟩)
   ·
    exact Ev.step (f := _) (fun k => by rw [vernierref06_Mul.j1, if_neg hb', if_neg ca]) (j2 n1 n2 (fcls b == 2) ⟨fun h => .inr (beq_iff_eq.1 h), fun h => beq_iff_eq.2 (h.resolve_left ca)⟩)
 have j0 : ∀ nan : Bool, (nan = true ↔ fcls a = 3 ∨ fcls b = 3) → Ev (fun k => vernierref06_Mul.j0 k a b mode (fcls a) (fcls b) s nan) (if fcls a = 3 ∨ fcls b = 3 then (9221120237041090560, 0) else if fcls a = 0 ∧ fcls b = 2 ∨ fcls a = 2 ∧ fcls b = 0 then (9221120237041090560, 1)
   else if fcls a = 2 ∨ fcls b = 2 then (rinf s, 0) else if fcls a = 0 ∨ fcls b = 0 then (rzero s, 0) else rnd s (fman a * fman b) (fxp a + fxp b) mode) := by
  intro nan hn
  by_cases cn : fcls a = 3 ∨ fcls b = 3
  ·
   rw [if_pos cn]
   exact Ev.step (f := fun _ => some (9221120237041090560, 0)) (fun k => by rw [vernierref06_Mul.j0, if_pos (hn.2 cn)]) (Ev.now _)
  ·
   rw [if_neg cn]
   have hn' : ¬ nan = true := fun h => cn (hn.1 h)
   have n1 : fcls a ≠ 3 := fun h => cn (.inl h)
   have n2 : fcls b ≠ 3 := fun h => cn (.inr h)
   by_cases ca : fcls a = 2
   ·
    by_cases cb : fcls b = 0
    ·
     exact Ev.step (f := _) (fun k => by rw [vernierref06_Mul.j0, if_neg hn', if_pos ca, if_pos cb]) (j1 n1 n2 true ⟨fun _ => .inr ⟨ca, cb⟩, fun _ => rfl⟩)
    ·
     exact Ev.step (f := _) (fun k => by rw [vernierref06_Mul.j0, if_neg hn', if_pos ca, if_neg cb, if_neg (by omega)]) (j1 n1 n2 false ⟨fun h => (by cases h), fun h => by omega⟩)
   ·
    by_cases ca0 : fcls a = 0
    ·
     exact Ev.step (f := _) (fun k => by rw [vernierref06_Mul.j0, if_neg hn', if_neg ca, if_pos ca0]) (j1 n1 n2 (fcls b == 2) ⟨fun h => .inl ⟨ca0, beq_iff_eq.1 h⟩, fun h => beq_iff_eq.2 (by omega)⟩)
    ·
     exact Ev.step (f := _) (fun k => by rw [vernierref06_Mul.j0, if_neg hn', if_neg ca, if_neg ca0]) (j1 n1 n2 false ⟨fun h => (by cases h), fun h => by omega⟩)
 refine Ev.bind (rclass_ev a0 a1) (Ev.bind (rclass_ev b0 b1) ?_)
 by_cases ca : fcls a = 3
 ·
  exact Ev.congr (fun k => if_pos ca) (j0 true ⟨fun _ => .inl ca, fun _ => rfl⟩)
 ·
  exact Ev.congr (fun k => if_neg ca) (j0 (fcls b == 3) ⟨fun h => .inr (beq_iff_eq.1 h), fun h => beq_iff_eq.2 (h.resolve_left ca)⟩)
theorem alive11_ev : Ev (fun k => vernierlaw11_alive.f k) true := by
 have e := ffma_ev (a := 4611686018427387904) (b := 4613937818241073152) (c := 4616189618054758400) (by decide) (by decide) (by decide) (by decide) (by decide) (by decide) 0
 have hs : fmaS 4611686018427387904 4613937818241073152 4616189618054758400 0 = (4621819117588971520, 0) := by decide +kernel
 rw [hs] at e
 unfold vernierlaw11_alive.f
 exact Ev.bind e (Ev.congr (fun k => if_pos rfl) (Ev.now _))
end Go.Proofs.YtjgdpjbkmcjbcaaDoor.PG
end
section
namespace Go.Proofs.YtjgdpjbkmcjbcaaDoor.Pure
open Go.RowKit Go.Proofs.YtjgdpjbkmcjbcaaDoor.PG Go.Proofs.YtjgdpjbkmcjbcaaDoorW.PrintWords Go.Proofs.YtjgdpjbkmcjbcaaDoorW.PrintLast Go.Proofs.YtjgdpjbkmcjbcaaDoor.Num Go.Proofs.YtjgdpjbkmcjbcaaDoor.Flt
set_option linter.unusedVariables false
theorem fman_zero {z : Int} (h3 : fcls z ≠ 3) (h2 : fcls z ≠ 2) : fcls z = 0 ↔ fman z = 0 := by
 have hm := ffr_range z
 unfold fcls at h3 h2 ⊢
 unfold fman
 by_cases c1 : fex z = 2047
 ·
  rw [if_pos c1] at h3 h2
  by_cases c2 : ffr z = 0
  ·
   rw [if_pos c2] at h2
   exact absurd rfl h2
  ·
   rw [if_neg c2] at h3
   exact absurd rfl h3
 ·
  rw [if_neg c1]
  by_cases c2 : fex z = 0
  ·
   by_cases c3 : ffr z = 0
   ·
    rw [if_pos ⟨c2, c3⟩, if_pos c2]
    exact ⟨fun _ => c3, fun _ => rfl⟩
   ·
    rw [if_neg (fun h => c3 h.2), if_pos c2]
    exact ⟨fun h => by omega, fun h => absurd h c3⟩
  ·
   rw [if_neg (fun h => c2 h.1), if_neg c2]
   exact ⟨fun h => by omega, fun h => by omega⟩
theorem rzero_up (s : Bool) : IntKind.u64.wrap (rzero s * 2) = 0 := by
 rw [IntKind.wrap_u64]
 cases s <;> decide
theorem fma_zero (a b mode : Int) : fmaS a b 0 mode = mulS a b mode ∨ (∃ s t, fmaS a b 0 mode = (rzero s, 0) ∧ mulS a b mode = (rzero t, 0)) := by
 have hc : fcls 0 = 0 := by decide
 have hn : fneg 0 = false := by decide
 have hm0 : fman 0 = 0 := by decide
 have hx : fxp 0 = -1074 := by decide
 have xa := fxp_range a
 have xb := fxp_range b
 have ma := fman_range a
 have mb := fman_range b
 unfold fmaS mulS
 rw [hc, hn, hm0, hx]
 by_cases h1 : fcls a = 3 ∨ fcls b = 3
 ·
  rw [if_pos h1, if_pos h1]; exact .inl rfl
 rw [if_neg h1, if_neg h1]
 by_cases h2 : fcls a = 0 ∧ fcls b = 2 ∨ fcls a = 2 ∧ fcls b = 0
 ·
  rw [if_pos h2, if_pos h2]; exact .inl rfl
 rw [if_neg h2, if_neg h2, if_neg (by decide)]
 by_cases h4 : fcls a = 2 ∨ fcls b = 2
 ·
  rw [if_pos h4, if_pos h4, if_neg (fun h => absurd h.1 (by decide))]; exact .inl rfl
 rw [if_neg h4, if_neg h4, if_neg (by decide)]
 have za := fman_zero (z := a) (fun h => h1 (.inl h)) (fun h => h4 (.inl h))
 have zb := fman_zero (z := b) (fun h => h1 (.inr h)) (fun h => h4 (.inr h))
 have sv0 : sv false 0 = 0 := rfl
 by_cases h0 : fcls a = 0 ∨ fcls b = 0
 ·
  rw [if_pos h0]
  have hp : fman a * fman b = 0 := by
   rcases h0 with h | h
   ·
    rw [za.1 h, Int.zero_mul]
   ·
    rw [zb.1 h, Int.mul_zero]
  rw [hp, rsum_none _ _ _ _ _ _ _ (by omega) (by omega) (by cases (fneg a != fneg b) <;> simp [sv, vl])]
  right
  refine ⟨if (fneg a != fneg b) = false then (fneg a != fneg b) else decide (mode = 4), (fneg a != fneg b), ?_, rfl⟩
  split <;> rfl
 ·
  rw [if_neg h0]
  left
  have pa : 0 < fman a := by
   have : fman a ≠ 0 := fun h => h0 (.inl (za.2 h))
   omega
  have pb : 0 < fman b := by
   have : fman b ≠ 0 := fun h => h0 (.inr (zb.2 h))
   omega
  have pp := Int.mul_pos pa pb
  obtain ⟨q1, q2, q3⟩ := sv_parts (s := (fneg a != fneg b)) pp
  have h := rsum_some (fneg a != fneg b) false (fman a * fman b) (fxp a + fxp b) 0 (-1074) mode (by omega) (by omega) q1 (show -200000 ≤ fxp a + fxp b by omega) (by rw [sv0, vl_zero]; omega)
  rw [q2, q3] at h
  exact h
theorem fma_one {a b : Int} (a0 : 0 ≤ a) (a1 : a < 18446744073709551616) (mode : Int) : fmaS a 4607182418800017408 b mode = addS a b mode := by
 have hc : fcls 4607182418800017408 = 1 := by decide
 have hn : fneg 4607182418800017408 = false := by decide
 have hm1 : fman 4607182418800017408 = 4503599627370496 := by decide
 have hx : fxp 4607182418800017408 = -52 := by decide
 have xa := fxp_range a
 have xb := fxp_range b
 have hxf : (fneg a != false) = fneg a := by cases fneg a <;> rfl
 unfold fmaS addS
 rw [hc, hn, hm1, hx, hxf]
 have einf : fcls a = 2 → a = rinf (fneg a) := by
  intro h
  unfold fcls at h
  have hr := ffr_range a
  split at h
  ·
   rename_i g
   split at h
   ·
    rename_i g2
    unfold rinf rzero fneg
    unfold fex at g
    unfold ffr at g2
    by_cases c : 9223372036854775808 ≤ a
    ·
     rw [decide_eq_true c, if_pos rfl]
     omega
    ·
     rw [decide_eq_false c, if_neg (by decide)]
     omega
   ·
    omega
  ·
   split at h <;> omega
 by_cases h1 : fcls a = 3
 ·
  rw [if_pos (.inl h1), if_pos (.inl h1)]
 by_cases h2 : fcls b = 3
 ·
  rw [if_neg (by omega), if_neg (by omega), if_pos h2, if_pos (.inr h2)]
 rw [if_neg (by omega), if_neg (by omega), if_neg h2, if_neg (show ¬ (fcls a = 3 ∨ fcls b = 3) by omega)]
 by_cases h4 : fcls a = 2
 ·
  rw [if_pos (.inl h4)]
  have e := einf h4
  rw [← e]
  by_cases h5 : fcls b = 2 ∧ b ≠ a
  ·
   rw [if_pos h5, if_pos ⟨h4, h5.1, fun h => h5.2 h.symm⟩]
  ·
   rw [if_neg h5, if_neg (fun h => h5 ⟨h.2.1, fun g => h.2.2 g.symm⟩), if_pos h4]
 ·
  by_cases h5 : fcls b = 2
  ·
   rw [if_neg (by omega), if_pos h5, if_neg (fun h => h4 h.1), if_neg h4, if_pos h5]
  ·
   rw [if_neg (by omega), if_neg h5, if_neg (fun h => h4 h.1), if_neg h4, if_neg h5]
   have hv : vl (sv (fneg a) (fman a * 4503599627370496)) (fxp a + -52) = vl (sv (fneg a) (fman a)) (fxp a) := by
    have e := vl_shift (sv (fneg a) (fman a)) (fxp a) 52 (by omega)
    rw [sv_mul, show (2 : Int) ^ 52 = 4503599627370496 by decide] at e
    exact e
   by_cases hT : vl (sv (fneg a) (fman a)) (fxp a) + vl (sv (fneg b) (fman b)) (fxp b) = 0
   ·
    rw [rsum_none _ _ _ _ _ _ _ (by omega) (by omega) (by rw [hv]; exact hT), rsum_none _ _ _ _ _ _ _ (by omega) (by omega) hT]
   ·
    have hs := rsum_val (fneg a) (fneg b) (fman a) (fxp a) (fman b) (fxp b) (by omega) (by omega)
    have hm := mn_le' (fxp a) (fxp b)
    generalize sv (fneg a) (up2 (fxp a - mn (fxp a) (fxp b)) * fman a) + sv (fneg b) (up2 (fxp b - mn (fxp a) (fxp b)) * fman b) = R at hs
    have hR : R ≠ 0 := fun g => hT (by rw [← hs, g, vl_zero])
    rw [rsum_some _ _ _ _ _ _ _ (by omega) (by omega) hR (e := mn (fxp a) (fxp b)) (by omega) (by rw [hv, hs]), rsum_some _ _ _ _ _ _ _ (by omega) (by omega) hR (e := mn (fxp a) (fxp b)) (by omega) hs.symm]
theorem FfmaParts (a0 a1 a2 : Int) (w0 : (Lit.int .u64 a0).wf = true) (w1 : (Lit.int .u64 a1).wf = true) (w2 : (Lit.int .i64 a2).wf = true) : ∃ k, vernierlaw11_FfmaParts.f k a0 a1 a2 = some true := by
 obtain ⟨h0, h0'⟩ := u64_of_wf w0
 obtain ⟨h1, h1'⟩ := u64_of_wf w1
 refine Ev.rounds ?_
 unfold vernierlaw11_FfmaParts.f
 refine Ev.bind alive11_ev (Ev.congr (fun k => if_pos rfl) ?_)
 refine Ev.bind (ffma_ev h0 h0' h1 h1' (c := 0) (by decide) (by decide) a2) (Ev.bind (rmul_ev6 h0 h0' h1 h1' a2) (Ev.bind (ffma_ev h0 h0' (b := 4607182418800017408) (by decide) (by decide) h1 h1' a2) (Ev.bind (radd_ev6 h0 h0' h1 h1' a2) ?_)))
 rw [fma_one h0 h0' a2]
 rcases fma_zero a0 a1 a2 with h | ⟨s, t, e1, e2⟩
 ·
  rw [h]
  exact Ev.congr (fun k => (if_pos rfl).trans ((if_pos rfl).trans (if_pos rfl))) (Ev.step (f := fun _ => some true) (fun k => by rw [beq_self_eq_true]) (Ev.now _))
 ·
  rw [e1, e2]
  have fin : Ev (fun _ => (some ((addS a0 a1 a2).2 == (addS a0 a1 a2).2) : Option Bool)) true := Ev.step (f := fun _ => some true) (fun k => by rw [beq_self_eq_true]) (Ev.now _)
  by_cases c : rzero s = rzero t
  ·
   exact Ev.congr (fun k => (if_pos c).trans ((if_pos rfl).trans (if_pos rfl))) fin
  ·
   exact Ev.congr (fun k => (if_neg c).trans ((if_pos (rzero_up s)).trans ((if_pos (rzero_up t)).trans ((if_pos rfl).trans (if_pos rfl))))) fin
end Go.Proofs.YtjgdpjbkmcjbcaaDoor.Pure
end
