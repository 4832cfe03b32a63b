/- What sums of binary64 numbers compute, the program's and the reference's: one function of the bits. -/
import Derived.Test.YtjgdpjbkmcjbcaaDoorZFconvFrom40
import Derived.Test.YtjgdpjbkmcjbcaaDoorZFconvFrom48
namespace Go.Proofs.YtjgdpjbkmcjbcaaDoor.PG
open Go.RowKit Go.Proofs.YtjgdpjbkmcjbcaaDoorW.PrintWords Go.Proofs.YtjgdpjbkmcjbcaaDoorW.PrintLast Go.Proofs.YtjgdpjbkmcjbcaaDoorW.PrintMore Go.Proofs.YtjgdpjbkmcjbcaaDoor.Num Go.Proofs.YtjgdpjbkmcjbcaaDoor.Flt
set_option linter.unusedVariables false
set_option linter.unusedSimpArgs false
def rsum (neg : Bool) (m p : Int) (other : Bool) (k q mode : Int) : Int × Int :=
 if sv neg (up2 (p - mn p q) * m) + sv other (up2 (q - mn p q) * k) = 0 then (if neg = other then rzero neg else rzero (decide (mode = 4)), 0)
 else rnd (decide (sv neg (up2 (p - mn p q) * m) + sv other (up2 (q - mn p q) * k) < 0)) ((sv neg (up2 (p - mn p q) * m) + sv other (up2 (q - mn p q) * k)).natAbs : Int) (mn p q) mode
def addS (a b mode : Int) : Int × Int :=
 if fcls a = 3 ∨ fcls b = 3 then (9221120237041090560, 0) else if fcls a = 2 ∧ fcls b = 2 ∧ a ≠ b then (9221120237041090560, 1) else if fcls a = 2 then (a, 0) else if fcls b = 2 then (b, 0)
 else rsum (fneg a) (fman a) (fxp a) (fneg b) (fman b) (fxp b) mode
theorem mn_comm (a b : Int) : mn a b = mn b a := by unfold mn; split <;> split <;> omega
theorem mn_le (a b : Int) : mn a b ≤ a ∧ mn a b ≤ b ∧ (mn a b = a ∨ mn a b = b) := by unfold mn; split <;> omega
theorem rsum_comm (neg : Bool) (m p : Int) (other : Bool) (k q mode : Int) (h : sv neg (up2 (p - mn p q) * m) + sv other (up2 (q - mn p q) * k) ≠ 0) : rsum neg m p other k q mode = rsum other k q neg m p mode := by
 have e : sv other (up2 (q - mn q p) * k) + sv neg (up2 (p - mn q p) * m) = sv neg (up2 (p - mn p q) * m) + sv other (up2 (q - mn p q) * k) := by rw [mn_comm q p]; omega
 unfold rsum
 rw [e, if_neg h, if_neg h, mn_comm q p]
theorem sv_tt (v : Int) : sv true v = -v := rfl
theorem sv_ff (v : Int) : sv false v = v := rfl
theorem word_ev {x : Int} (h0 : 0 ≤ x) (h1 : x < 18446744073709551616) : Ev (fun k => vernierref01_Word.f k x) (Num.dg 65536 x) ∧ Nd (Num.dg 65536 x) x 4 := by
 obtain ⟨e, n⟩ := (Nm.one (n := 1) h0 h1 (by omega)).of (by omega)
 refine ⟨?_, n⟩
 unfold vernierref01_Word.f
 exact Ev.bind e (Ev.now _)
theorem odd_ev (a b : Int) (a0 : 0 ≤ a) (a1 : a < 18446744073709551616) (b0 : 0 ≤ b) (b1 : b < 18446744073709551616) : Ev (fun k => fadd_odd.f k a b)
  (if fcls a = 3 ∨ fcls b = 3 then (9221120237041090560, 0, true) else if fcls a = 2 ∧ fcls b = 2 ∧ a ≠ b then (9221120237041090560, 1, true) else if fcls a = 2 then (a, 0, true) else if fcls b = 2 then (b, 0, true) else (0, 0, false)) := by
 unfold fadd_odd.f
 refine Ev.bind (class_ev a0 a1) (Ev.bind (class_ev b0 b1) ?_)
 have jn : ∀ c : Bool, (c = true ↔ fcls a = 3 ∨ fcls b = 3) → Ev (fun k => fadd_odd.j0 k a b (fcls a) (fcls b) c) (if fcls a = 3 ∨ fcls b = 3 then (9221120237041090560, 0, true) else if fcls a = 2 ∧ fcls b = 2 ∧ a ≠ b then (9221120237041090560, 1, true) else if fcls a = 2 then (a, 0, true) else if fcls b = 2 then (b, 0, true) else (0, 0, false)) := by
  intro c hc
  cases c
  ·
   rw [if_neg (fun h => Bool.false_ne_true (hc.2 h))]
   have j1 : ∀ d : Bool, (d = true ↔ fcls a = 2 ∧ fcls b = 2 ∧ a ≠ b) → Ev (fun k => fadd_odd.j1 k a b (fcls a) (fcls b) d) (if fcls a = 2 ∧ fcls b = 2 ∧ a ≠ b then (9221120237041090560, 1, true) else if fcls a = 2 then (a, 0, true) else if fcls b = 2 then (b, 0, true) else (0, 0, false)) := by
    intro d hd
    cases d
    ·
     rw [if_neg (fun h => Bool.false_ne_true (hd.2 h))]
     refine Ev.step (f := fun _ => some (if fcls a = 2 then (a, 0, true) else if fcls b = 2 then (b, 0, true) else (0, 0, false))) (fun k => ?_) (Ev.now _)
     simp only [fadd_odd.j1]
     rw [if_neg (by decide)]
     by_cases c2 : fcls a = 2
     ·
      rw [if_pos c2, if_pos c2]
     ·
      rw [if_neg c2, if_neg c2]
      by_cases c3 : fcls b = 2
      ·
       rw [if_pos c3, if_pos c3]
      ·
       rw [if_neg c3, if_neg c3]
    ·
     rw [if_pos (hd.1 rfl)]
     refine Ev.step (f := fun _ => some (9221120237041090560, 1, true)) (fun k => ?_) (Ev.now _)
     simp only [fadd_odd.j1]
     rw [if_pos trivial]
   by_cases c2 : fcls a = 2
   ·
    by_cases c3 : fcls b = 2
    ·
     refine Ev.step (f := fun k => fadd_odd.j1 k a b (fcls a) (fcls b) (a != b)) (fun k => ?_) (j1 _ ?_)
     ·
      simp only [fadd_odd.j0]
      rw [if_neg (by decide), if_pos c2, if_pos c3]
     ·
      simp [c2, c3]
    ·
     refine Ev.step (f := fun k => fadd_odd.j1 k a b (fcls a) (fcls b) false) (fun k => ?_) (j1 _ ?_)
     ·
      simp only [fadd_odd.j0]
      rw [if_neg (by decide), if_pos c2, if_neg c3]
     ·
      simp [c3]
   ·
    refine Ev.step (f := fun k => fadd_odd.j1 k a b (fcls a) (fcls b) false) (fun k => ?_) (j1 _ ?_)
    ·
     simp only [fadd_odd.j0]
     rw [if_neg (by decide), if_neg c2]
    ·
     simp [c2]
  ·
   rw [if_pos (hc.1 rfl)]
   refine Ev.step (f := fun _ => some (9221120237041090560, 0, true)) (fun k => ?_) (Ev.now _)
   simp only [fadd_odd.j0]
   rw [if_pos trivial]
 by_cases c1 : fcls a = 3
 ·
  exact Ev.congr (fun k => if_pos c1) (jn true (by simp [c1]))
 ·
  refine Ev.congr (fun k => if_neg c1) (jn _ ?_)
  simp [c1]
theorem lift_some {m : Int} (h0 : 0 ≤ m) (h1 : m < 18446744073709551616) (n : Nat) (hn : n ≤ 64) : fadd_lift.f m (n : Int) = some (m * 2 ^ n / 18446744073709551616, m * 2 ^ n % 18446744073709551616) := by
 unfold fadd_lift.f
 by_cases c : n = 0
 ·
  subst c
  rw [if_pos (by omega), Int.pow_zero, Int.mul_one, Int.ediv_eq_zero_of_lt h0 h1, Int.emod_eq_of_lt h0 h1]
 ·
  rw [if_neg (by omega), w64 (by omega) (by omega), if_pos (by omega), if_pos (by omega), show (64 : Int) - (n : Int) = ((64 - n : Nat) : Int) by omega, shr_u64 (by omega), shl_u64 hn]
  have e : m / 2 ^ (64 - n) = m * 2 ^ n / 18446744073709551616 := by
   have hB := two64 (s := n) hn
   rw [← hB, Int.mul_comm m, Int.mul_ediv_mul_of_pos _ _ (two_pow_pos n)]
  rw [e]
theorem join_some {V small : Int} (minus more : Bool) (h0 : 0 ≤ V) (h1 : V < 18446744073709551616 * 18446744073709551616) (s0 : 0 ≤ small) (s1 : small < 18446744073709551616) {V' : Int} (hV : V' = if minus = true then V - small - (if more = true then 1 else 0) else V + small) (v0 : 0 ≤ V') (v1 : V' < 18446744073709551616 * 18446744073709551616) :
  fadd_join.f (V / 18446744073709551616) (V % 18446744073709551616) small minus more = some (V' / 18446744073709551616, V' % 18446744073709551616) := by
 have q0 : 0 ≤ V / 18446744073709551616 := by omega
 have q1 : V / 18446744073709551616 < 18446744073709551616 := by omega
 have m0 : 0 ≤ V % 18446744073709551616 := by omega
 have m1 : V % 18446744073709551616 < 18446744073709551616 := by omega
 unfold fadd_join.f
 cases minus
 ·
  rw [if_neg (by decide)]
  rw [if_neg (by decide)] at hV
  unfold bits_Add64.f
  rw [if_pos ⟨m0, s0, by omega, by omega⟩]
  simp only [Option.bind_some]
  rw [u64w (by omega) (by omega)]
  congr 2
  ·
   omega
  ·
   omega
 ·
  rw [if_pos rfl]
  rw [if_pos rfl] at hV
  cases more
  ·
   rw [if_neg (by decide)]
   rw [if_neg (by decide)] at hV
   unfold bits_Sub64.f
   rw [if_pos ⟨m0, m1, s0, s1, by omega, by omega⟩]
   simp only [Option.bind_some]
   by_cases c : V % 18446744073709551616 < small + 0
   ·
    rw [if_pos c, u64w (by omega) (by omega)]
    congr 2
    ·
     omega
    ·
     omega
   ·
    rw [if_neg c, u64w (by omega) (by omega)]
    congr 2
    ·
     omega
    ·
     omega
  ·
   rw [if_pos rfl]
   rw [if_pos rfl] at hV
   unfold bits_Sub64.f
   rw [if_pos ⟨m0, m1, s0, s1, by omega, by omega⟩]
   simp only [Option.bind_some]
   by_cases c : V % 18446744073709551616 < small + 1
   ·
    rw [if_pos c, u64w (by omega) (by omega)]
    congr 2
    ·
     omega
    ·
     omega
   ·
    rw [if_neg c, u64w (by omega) (by omega)]
    congr 2
    ·
     omega
    ·
     omega
theorem sum_sign {neg other : Bool} {M K : Int} (hM : 0 ≤ M) (hK : 0 ≤ K) (hle : K ≤ M) (hne : sv neg M + sv other K ≠ 0) :
  ((sv neg M + sv other K).natAbs : Int) = (if (neg != other) = true then M - K else M + K) ∧ decide (sv neg M + sv other K < 0) = neg := by
 cases neg <;> cases other <;> simp only [sv_tt, sv_ff] at hne ⊢
 ·
  exact ⟨by rw [if_neg (by decide)]; omega, decide_eq_false (by omega)⟩
 ·
  exact ⟨by rw [if_pos (by decide)]; omega, decide_eq_false (by omega)⟩
 ·
  exact ⟨by rw [if_pos (by decide)]; omega, decide_eq_true (by omega)⟩
 ·
  exact ⟨by rw [if_neg (by decide)]; omega, decide_eq_true (by omega)⟩
theorem fsum_ev {a b : Int} (a0 : 0 ≤ a) (a1 : a < 18446744073709551616) (b0 : 0 ≤ b) (b1 : b < 18446744073709551616) (ha : fex a ≠ 2047) (hb : fex b ≠ 2047) (hle : b % 9223372036854775808 ≤ a % 9223372036854775808) (mode : Int)
  (hne : sv (fneg a) (up2 (fxp a - mn (fxp a) (fxp b)) * fman a) + sv (fneg b) (up2 (fxp b - mn (fxp a) (fxp b)) * fman b) ≠ 0) : Ev (fun k => fadd_sum.f k a b mode) (rsum (fneg a) (fman a) (fxp a) (fneg b) (fman b) (fxp b) mode) := by
 have ra := fex_range a
 have rb := fex_range b
 have fa := ffr_range a
 have fb := ffr_range b
 have ea : a % 9223372036854775808 = fex a * 4503599627370496 + ffr a := by unfold fex ffr; omega
 have eb : b % 9223372036854775808 = fex b * 4503599627370496 + ffr b := by unfold fex ffr; omega
 have hx : fxp b ≤ fxp a := by unfold fxp; split <;> split <;> omega
 have hmn : mn (fxp a) (fxp b) = fxp b := by unfold mn; split <;> omega
 have hma := fman_range a
 have hmb := fman_range b
 have hxa : fxp a ≤ 971 := by unfold fxp; split <;> omega
 have hxb : -1074 ≤ fxp b := by unfold fxp; split <;> omega
 have hnorm : fxp b < fxp a → 4503599627370496 ≤ fman a := by intro h; unfold fxp at h; unfold fman; split at h <;> split at h <;> split <;> omega
 have hsame : fxp b = fxp a → fman b ≤ fman a := by intro h; unfold fxp at h; unfold fman; split at h <;> split at h <;> (try split) <;> (try split) <;> omega
 unfold rsum
 rw [if_neg hne]
 rw [hmn, show fxp b - fxp b = 0 by omega, up2_neg (a := 0) (by omega), Int.one_mul] at hne ⊢
 have s1 := split_some a0 a1 ha
 have s2 := split_some b0 b1 hb
 obtain ⟨d, hd⟩ : ∃ d : Nat, fxp a - fxp b = d := ⟨(fxp a - fxp b).toNat, by omega⟩
 have wd : wrap64 (fxp a - fxp b) = (d : Int) := by rw [w64 (by omega) (by omega), hd]
 have hd2 : d ≤ 2045 := by omega
 rw [hd, up2_nat] at hne ⊢
 generalize fneg a = neg at *
 generalize fneg b = other at *
 generalize fman a = m at *
 generalize fman b = k at *
 generalize fxp a = x at *
 generalize fxp b = y at *
 have hP := two_pow_pos d
 have hKM : k ≤ 2 ^ d * m := by
  by_cases c : d = 0
  ·
   subst c
   rw [Int.pow_zero, Int.one_mul]
   exact hsame (by omega)
  ·
   have h2 : (2 : Int) ^ 1 ≤ 2 ^ d := two_pow_mono (by omega)
   have hm2 := hnorm (by omega)
   have : (2 : Int) ^ 1 * m ≤ 2 ^ d * m := Int.mul_le_mul_of_nonneg_right h2 (by omega)
   omega
 have hM0 : 0 ≤ 2 ^ d * m := Int.mul_nonneg (by omega) hma.1
 obtain ⟨g1, g2⟩ := sum_sign (neg := neg) (other := other) hM0 hmb.1 hKM hne
 have hN : 0 < (if (neg != other) = true then 2 ^ d * m - k else 2 ^ d * m + k) := by rw [← g1]; omega
 rw [g1, g2]
 unfold fadd_sum.f
 rw [s1, s2]
 simp only [Option.bind_some]
 rw [wd]
 have hw62 : wrap64 (x - 62) = x - 62 := w64 (by omega) (by omega)
 by_cases c60 : d ≤ 60
 ·
  refine Ev.congr (fun k => if_pos (by omega)) ?_
  rw [lift_some hma.1 (by omega) d (by omega)]
  simp only [Option.bind_some]
  have hb1 : 2 ^ d * m < 1152921504606846976 * 9007199254740992 := by
   have h60 : (2 : Int) ^ d ≤ 2 ^ 60 := two_pow_mono c60
   have e60 : (2 : Int) ^ 60 = 1152921504606846976 := by decide
   calc (2 : Int) ^ d * m ≤ 2 ^ 60 * m := Int.mul_le_mul_of_nonneg_right h60 hma.1
    _ < 2 ^ 60 * 9007199254740992 := Int.mul_lt_mul_of_pos_left hma.2 (by decide)
    _ = 1152921504606846976 * 9007199254740992 := by rw [e60]
  rw [Int.mul_comm m]
  generalize (2 : Int) ^ d * m = M at *
  generalize hN' : (if (neg != other) = true then M - k else M + k) = N' at *
  have hN2 : N' < 18446744073709551616 * 18446744073709551616 := by rw [← hN']; split <;> omega
  have hj := join_some (V := M) (small := k) (neg != other) false hM0 (by omega) hmb.1 (by omega) (V' := N') (by rw [← hN']; split <;> simp) (by omega) hN2
  rw [hj]
  simp only [Option.bind_some]
  have hr := round_plain neg (hi := N' / 18446744073709551616) (lo := N' % 18446744073709551616) y mode (by omega) (by omega) (by omega) (by omega) (by omega) (by omega) (by omega)
  rw [show N' / 18446744073709551616 * 18446744073709551616 + N' % 18446744073709551616 = N' by omega] at hr
  exact Ev.bind hr (Ev.now _)
 ·
  refine Ev.congr (fun k => if_neg (by omega)) ?_
  have hm2 := hnorm (by omega)
  rw [show (62 : Int) = ((62 : Nat) : Int) by rfl, lift_some hma.1 (by omega) 62 (by omega)]
  simp only [Option.bind_some]
  rw [show ((62 : Nat) : Int) = 62 by rfl, w64 (x := (d : Int) - 62) (by omega) (by omega), hw62]
  have e62 : (2 : Int) ^ 62 = 4611686018427387904 := by decide
  rw [e62]
  by_cases cs : d ≤ 62
  ·
   have hs : mn ((d : Int) - 62) 116 = (d : Int) - 62 := by unfold mn; rw [if_neg (by omega)]
   rw [hs]
   refine Ev.congr (fun k => (if_pos (by omega)).trans (if_pos (by rw [w64 (by omega) (by omega)]; omega))) ?_
   rw [w64 (by omega) (by omega), show -((d : Int) - 62) = ((62 - d : Nat) : Int) by omega, shl_u64 (by omega)]
   have hj2 : (2 : Int) ^ (62 - d) ≤ 2 := by
    have := two_pow_mono (show 62 - d ≤ 1 by omega)
    have e : (2 : Int) ^ 1 = 2 := by decide
    omega
   have hj1 := two_pow_pos (62 - d)
   have hk0 : 0 ≤ k * 2 ^ (62 - d) := Int.mul_nonneg hmb.1 (by omega)
   have hk2 : k * 2 ^ (62 - d) ≤ k * 2 := Int.mul_le_mul_of_nonneg_left hj2 hmb.1
   rw [Int.emod_eq_of_lt hk0 (by omega)]
   have hsh := rnd_shift neg (W := if (neg != other) = true then 2 ^ d * m - k else 2 ^ d * m + k) hN y (62 - d) mode
   have ew : (if (neg != other) = true then 2 ^ d * m - k else 2 ^ d * m + k) * 2 ^ (62 - d) = if (neg != other) = true then m * 4611686018427387904 - k * 2 ^ (62 - d) else m * 4611686018427387904 + k * 2 ^ (62 - d) := by
    have e1 : (2 : Int) ^ d * 2 ^ (62 - d) = 4611686018427387904 := by rw [← Int.pow_add, show d + (62 - d) = 62 by omega, e62]
    split
    ·
     rw [Int.sub_mul, show 2 ^ d * m * 2 ^ (62 - d) = m * (2 ^ d * 2 ^ (62 - d)) by grind, e1]
    ·
     rw [Int.add_mul, show 2 ^ d * m * 2 ^ (62 - d) = m * (2 ^ d * 2 ^ (62 - d)) by grind, e1]
   rw [ew] at hsh
   rw [← hsh]
   generalize k * 2 ^ (62 - d) = sm at *
   generalize hN' : (if (neg != other) = true then m * 4611686018427387904 - sm else m * 4611686018427387904 + sm) = N' at *
   have hN1 : 0 < N' := by rw [← hN']; split <;> omega
   have hN2 : N' < 18446744073709551616 * 18446744073709551616 := by rw [← hN']; split <;> omega
   have hj := join_some (V := m * 4611686018427387904) (small := sm) (neg != other) false (by omega) (by omega) hk0 (by omega) (V' := N') (by rw [← hN']; split <;> simp) (by omega) hN2
   rw [hj]
   simp only [Option.bind_some]
   have hr := round_plain neg (hi := N' / 18446744073709551616) (lo := N' % 18446744073709551616) (x - 62) mode (by omega) (by omega) (by omega) (by omega) (by omega) (by omega) (by omega)
   rw [show N' / 18446744073709551616 * 18446744073709551616 + N' % 18446744073709551616 = N' by omega] at hr
   rw [show y - ((62 - d : Nat) : Int) = x - 62 by omega]
   exact Ev.bind hr (Ev.now _)
  ·
   obtain ⟨t, ht⟩ : ∃ t : Nat, d = 62 + t := ⟨d - 62, by omega⟩
   have hT := two_pow_pos t
   have kd := Int.emod_add_mul_ediv k (2 ^ t)
   have km0 := Int.emod_nonneg k (show (2 : Int) ^ t ≠ 0 by omega)
   have km1 := Int.emod_lt_of_pos k hT
   have kq0 : 0 ≤ k / 2 ^ t := Int.ediv_nonneg hmb.1 (by omega)
   have kq1 : k / 2 ^ t ≤ k := Int.ediv_le_self _ hmb.1
   have eN : (if (neg != other) = true then 2 ^ d * m - k else 2 ^ d * m + k) = (if (neg != other) = true then 2 ^ t * (m * 4611686018427387904) - k else 2 ^ t * (m * 4611686018427387904) + k) := by
    have e1 : (2 : Int) ^ d * m = 2 ^ t * (m * 4611686018427387904) := by rw [ht, Int.pow_add, e62]; grind
    rw [e1]
   rw [eN] at hN ⊢
   have key : ∀ (sm : Int) (mo : Bool), sm = k / 2 ^ t → mo = decide (k % 2 ^ t ≠ 0) → Ev (fun i => (fadd_join.f (m * 4611686018427387904 / 18446744073709551616) (m * 4611686018427387904 % 18446744073709551616) sm (neg != other) mo).bind fun bt528 => ((parts_Round.f i neg bt528.1 bt528.2 (x - 62) mo mode).bind fun bt530 => (some (bt530.1, bt530.2))))
     (rnd neg (if (neg != other) = true then 2 ^ t * (m * 4611686018427387904) - k else 2 ^ t * (m * 4611686018427387904) + k) y mode) := by
    intro sm mo hsm hmo
    generalize hV : m * 4611686018427387904 = V at *
    generalize hNN : (if (neg != other) = true then 2 ^ t * V - k else 2 ^ t * V + k) = NN at *
    have hdiv : NN / 2 ^ t = (if (neg != other) = true then V - sm - (if mo = true then 1 else 0) else V + sm) ∧ decide (NN % 2 ^ t ≠ 0) = mo := by
     rw [← hNN]
     cases hno : (neg != other)
     ·
      simp only [Bool.false_eq_true, if_false]
      rw [hsm, hmo, show 2 ^ t * V + k = k + 2 ^ t * V by omega, Int.add_mul_ediv_left _ _ (by omega), Int.add_mul_emod_self_left]
      exact ⟨by omega, rfl⟩
     ·
      simp only [if_true]
      rw [hsm, hmo]
      by_cases cz : k % 2 ^ t = 0
      ·
       have ez : 2 ^ t * V - k = 2 ^ t * (V - k / 2 ^ t) := by
        rw [cz] at kd
        rw [Int.mul_sub]
        omega
       rw [ez, Int.mul_ediv_cancel_left _ (by omega), Int.mul_emod_right]
       simp [cz]
      ·
       have ez : 2 ^ t * V - k = (2 ^ t - k % 2 ^ t) + 2 ^ t * (V - k / 2 ^ t - 1) := by
        rw [Int.mul_sub, Int.mul_sub]
        omega
       rw [ez, Int.add_mul_ediv_left _ _ (by omega), Int.add_mul_emod_self_left, Int.ediv_eq_zero_of_lt (a := 2 ^ t - k % 2 ^ t) (by omega) (by omega), Int.emod_eq_of_lt (a := 2 ^ t - k % 2 ^ t) (by omega) (by omega), decide_eq_true cz]
       refine ⟨by simp, decide_eq_true (by omega)⟩
    have hVlo : 4503599627370496 * 4611686018427387904 ≤ V := by omega
    have hVhi : V < 9007199254740992 * 4611686018427387904 := by omega
    have hW1 : 18014398509481984 ≤ NN / 2 ^ t := by rw [hdiv.1]; split <;> (try split) <;> omega
    have hW2 : NN / 2 ^ t < 18446744073709551616 * 18446744073709551616 := by rw [hdiv.1]; split <;> (try split) <;> omega
    have hj := join_some (V := V) (small := sm) (neg != other) mo (by omega) (by omega) (by omega) (by omega) (V' := NN / 2 ^ t) hdiv.1 (by omega) hW2
    rw [hj]
    simp only [Option.bind_some]
    have hbits : 55 ≤ bitsOf (NN / 2 ^ t) := by
     have := bitsOf_ge (v := NN / 2 ^ t) (n := 54) (by
      have e54 : (2 : Int) ^ 54 = 18014398509481984 := by decide
      omega)
     omega
    have hr := round_ev neg (N := NN) (x := y) (hi := NN / 2 ^ t / 18446744073709551616) (lo := NN / 2 ^ t % 18446744073709551616) (x - 62) t mo mode (by omega) (by omega) (by omega) (by omega) hN (by omega) (by omega) (by omega) hdiv.2.symm (fun _ => .inl hbits) (by omega) (by omega)
    exact Ev.bind hr (Ev.now _)
   by_cases c64 : t < 64
   ·
    have hs : mn ((d : Int) - 62) 116 = (t : Int) := by unfold mn; rw [if_neg (by omega)]; omega
    rw [hs]
    refine Ev.congr (fun k => (if_neg (by omega)).trans ((if_pos (by omega)).trans ((if_pos (by omega)).trans (if_pos (by rw [w64 (by omega) (by omega)]; omega))))) ?_
    rw [w64 (by omega) (by omega), show (64 : Int) - (t : Int) = ((64 - t : Nat) : Int) by omega, shl_u64 (by omega), shr_u64 (by omega)]
    refine key _ _ rfl ?_
    have hB := two64 (s := t) (by omega)
    rw [mod_shift (P := 2 ^ (64 - t)) (Q := 2 ^ t) (two_pow_pos _) hT (by rw [Int.mul_comm]; exact hB) hmb.1, Bool.eq_iff_iff, bne_iff_ne, decide_eq_true_eq]
    have := two_pow_pos (64 - t)
    constructor
    ·
     intro h hz
     rw [hz, Int.mul_zero] at h
     exact h rfl
    ·
     intro h hz
     rcases Int.mul_eq_zero.1 hz with h' | h'
     ·
      omega
     ·
      exact h h'
   ·
    have hs : 64 ≤ mn ((d : Int) - 62) 116 := by unfold mn; split <;> omega
    refine Ev.congr (fun k => (if_neg (by omega)).trans (if_neg (by omega))) ?_
    have hk2 : k < 2 ^ t := by
     have h64 : (2 : Int) ^ 64 ≤ 2 ^ t := two_pow_mono (by omega)
     have e64 : (2 : Int) ^ 64 = 18446744073709551616 := by decide
     omega
    refine key 0 (k != 0) (Int.ediv_eq_zero_of_lt hmb.1 hk2).symm ?_
    rw [Int.emod_eq_of_lt hmb.1 hk2, Bool.eq_iff_iff, bne_iff_ne, decide_eq_true_eq]
theorem fadd_ev {a b : Int} (a0 : 0 ≤ a) (a1 : a < 18446744073709551616) (b0 : 0 ≤ b) (b1 : b < 18446744073709551616) (mode : Int) : Ev (fun k => fadd_Add.f k a b mode) (addS a b mode) := by
 have hodd := odd_ev a b a0 a1 b0 b1
 have ca := fcls_range a
 have cb := fcls_range b
 unfold fadd_Add.f addS
 by_cases c3 : fcls a = 3 ∨ fcls b = 3
 ·
  rw [if_pos c3] at hodd ⊢
  exact Ev.bind hodd (Ev.congr (fun k => if_pos rfl) (Ev.now _))
 rw [if_neg c3] at hodd ⊢
 by_cases c2 : fcls a = 2 ∧ fcls b = 2 ∧ a ≠ b
 ·
  rw [if_pos c2] at hodd ⊢
  exact Ev.bind hodd (Ev.congr (fun k => if_pos rfl) (Ev.now _))
 rw [if_neg c2] at hodd ⊢
 by_cases c4 : fcls a = 2
 ·
  rw [if_pos c4] at hodd ⊢
  exact Ev.bind hodd (Ev.congr (fun k => if_pos rfl) (Ev.now _))
 rw [if_neg c4] at hodd ⊢
 by_cases c5 : fcls b = 2
 ·
  rw [if_pos c5] at hodd ⊢
  exact Ev.bind hodd (Ev.congr (fun k => if_pos rfl) (Ev.now _))
 rw [if_neg c5] at hodd ⊢
 refine Ev.bind hodd (Ev.congr (fun k => if_neg (by decide)) ?_)
 have fa : fex a ≠ 2047 := fcls_fin.1 (by omega)
 have fb : fex b ≠ 2047 := fcls_fin.1 (by omega)
 rw [andNot_sign a0 a1, andNot_sign b0 b1]
 have ea : a % 9223372036854775808 = fex a * 4503599627370496 + ffr a := by unfold fex ffr; omega
 have eb : b % 9223372036854775808 = fex b * 4503599627370496 + ffr b := by unfold fex ffr; omega
 have ra := fex_range a
 have rb := fex_range b
 have ga := ffr_range a
 have gb := ffr_range b
 have hz : ∀ z : Int, z % 9223372036854775808 = 0 → 0 ≤ z → z < 18446744073709551616 → fman z = 0 := by
  intro z hz h0 h1
  unfold fman
  have : fex z = 0 := by unfold fex; omega
  rw [if_pos this]
  unfold ffr
  omega
 have hmp : ∀ z w : Int, z % 9223372036854775808 = w % 9223372036854775808 → 0 ≤ z → z < 18446744073709551616 → 0 ≤ w → w < 18446744073709551616 → fman z = fman w ∧ fxp z = fxp w := by
  intro z w h h0 h1 h2 h3
  have e1 : fex z = fex w := by unfold fex; omega
  have e2 : ffr z = ffr w := by unfold ffr; omega
  unfold fman fxp
  rw [e1, e2]
  exact ⟨rfl, rfl⟩
 have hng : ∀ z : Int, 0 ≤ z → z < 18446744073709551616 → Go.bits .and .u64 z 9223372036854775808 = rzero (fneg z) := by
  intro z h0 h1
  rw [and_sign h0 h1]
  unfold fneg rzero
  by_cases c : z < 9223372036854775808
  ·
   rw [if_pos c, decide_eq_false (by omega)]; rfl
  ·
   rw [if_neg c, decide_eq_true (by omega)]; rfl
 have hnought : sv (fneg a) (up2 (fxp a - mn (fxp a) (fxp b)) * fman a) + sv (fneg b) (up2 (fxp b - mn (fxp a) (fxp b)) * fman b) = 0 → (a % 9223372036854775808 = b % 9223372036854775808 ∧ a ≠ b) ∨ (a % 9223372036854775808 = 0 ∧ b % 9223372036854775808 = 0) →
   Ev (fun k => fadd_Add.j0 k a b mode (a % 9223372036854775808) (b % 9223372036854775808) true) (rsum (fneg a) (fman a) (fxp a) (fneg b) (fman b) (fxp b) mode) := by
  intro h0 hc
  unfold rsum
  rw [if_pos h0]
  refine Ev.step (f := fun _ => some (if fneg a = fneg b then rzero (fneg a) else rzero (decide (mode = 4)), 0)) (fun k => ?_) (Ev.now _)
  simp only [fadd_Add.j0]
  rw [if_pos trivial]
  unfold fadd_nought.f
  rw [hng a a0 a1, hng b b0 b1]
  have em : (mode == 4) = decide (mode = 4) := by rw [Bool.eq_iff_iff]; simp
  by_cases d : fneg a = fneg b
  ·
   rw [if_pos (by rw [d]), if_pos d]
   rfl
  ·
   rw [if_neg (fun h => d ?_), if_neg d, zero_some, em]
   ·
    rfl
   ·
    revert h
    cases fneg a <;> cases fneg b <;> simp [rzero]
 have hgo : sv (fneg a) (up2 (fxp a - mn (fxp a) (fxp b)) * fman a) + sv (fneg b) (up2 (fxp b - mn (fxp a) (fxp b)) * fman b) ≠ 0 → Ev (fun k => fadd_Add.j0 k a b mode (a % 9223372036854775808) (b % 9223372036854775808) false) (rsum (fneg a) (fman a) (fxp a) (fneg b) (fman b) (fxp b) mode) := by
  intro hne
  by_cases hlt : a % 9223372036854775808 < b % 9223372036854775808
  ·
   have hne' : sv (fneg b) (up2 (fxp b - mn (fxp b) (fxp a)) * fman b) + sv (fneg a) (up2 (fxp a - mn (fxp b) (fxp a)) * fman a) ≠ 0 := by rw [mn_comm (fxp b)]; omega
   have := fsum_ev b0 b1 a0 a1 fb fa (by omega) mode hne'
   rw [rsum_comm _ _ _ _ _ _ _ hne]
   refine Ev.step (f := fun k => (fadd_sum.f k b a mode).bind fun t => some (t.1, t.2)) (fun k => ?_) (Ev.bind this (Ev.now _))
   simp only [fadd_Add.j0]
   rw [if_neg (by decide), if_pos hlt]
  ·
   have := fsum_ev a0 a1 b0 b1 fa fb (by omega) mode hne
   refine Ev.step (f := fun k => (fadd_sum.f k a b mode).bind fun t => some (t.1, t.2)) (fun k => ?_) (Ev.bind this (Ev.now _))
   simp only [fadd_Add.j0]
   rw [if_neg (by decide), if_neg hlt]
 have hval : sv (fneg a) (up2 (fxp a - mn (fxp a) (fxp b)) * fman a) + sv (fneg b) (up2 (fxp b - mn (fxp a) (fxp b)) * fman b) = 0 → a % 9223372036854775808 = b % 9223372036854775808 ∧ (a ≠ b ∨ a % 9223372036854775808 = 0) := by
  intro h
  have pa := up2_pos (fxp a - mn (fxp a) (fxp b))
  have pb := up2_pos (fxp b - mn (fxp a) (fxp b))
  have ma := fman_range a
  have mb := fman_range b
  have qa : 0 ≤ up2 (fxp a - mn (fxp a) (fxp b)) * fman a := Int.mul_nonneg (by omega) ma.1
  have qb : 0 ≤ up2 (fxp b - mn (fxp a) (fxp b)) * fman b := Int.mul_nonneg (by omega) mb.1
  have heq : up2 (fxp a - mn (fxp a) (fxp b)) * fman a = up2 (fxp b - mn (fxp a) (fxp b)) * fman b := by
   revert h
   cases fneg a <;> cases fneg b <;> simp only [sv_tt, sv_ff] <;> omega
  have hab : a % 9223372036854775808 = b % 9223372036854775808 := by
   have hm := mn_le (fxp a) (fxp b)
   by_cases cx : fxp a = fxp b
   ·
    rw [cx] at heq
    have hmm : fman a = fman b := Int.eq_of_mul_eq_mul_left (Int.ne_of_gt (up2_pos _)) heq
    rw [ea, eb]
    unfold fxp at cx
    unfold fman at hmm
    split at cx <;> split at cx <;> (try split at hmm) <;> (try split at hmm) <;> omega
   ·
    exfalso
    by_cases cl : fxp a < fxp b
    ·
     have hmn : mn (fxp a) (fxp b) = fxp a := by omega
     have h2 : up2 1 ≤ up2 (fxp b - mn (fxp a) (fxp b)) := up2_mono (by omega)
     rw [up2_one] at h2
     have nb : 4503599627370496 ≤ fman b := by unfold fxp at cl; unfold fman; split at cl <;> split at cl <;> split <;> omega
     rw [hmn, show fxp a - fxp a = 0 by omega, up2_neg (a := 0) (by omega), Int.one_mul] at heq
     rw [hmn] at h2
     have : 2 * fman b ≤ up2 (fxp b - fxp a) * fman b := Int.mul_le_mul_of_nonneg_right h2 (by omega)
     omega
    ·
     have hmn : mn (fxp a) (fxp b) = fxp b := by omega
     have h2 : up2 1 ≤ up2 (fxp a - mn (fxp a) (fxp b)) := up2_mono (by omega)
     rw [up2_one] at h2
     have na : 4503599627370496 ≤ fman a := by unfold fxp at cl cx; unfold fman; split at cl <;> split at cl <;> split <;> omega
     rw [hmn, show fxp b - fxp b = 0 by omega, up2_neg (a := 0) (by omega), Int.one_mul] at heq
     rw [hmn] at h2
     have : 2 * fman a ≤ up2 (fxp a - fxp b) * fman a := Int.mul_le_mul_of_nonneg_right h2 (by omega)
     omega
  refine ⟨hab, ?_⟩
  by_cases ce : a = b
  ·
   right
   have hs : fneg a = fneg b := by rw [ce]
   have h0 : up2 (fxp a - mn (fxp a) (fxp b)) * fman a = 0 := by
    rw [hs, ← heq] at h
    revert h
    cases fneg b <;> simp only [sv_tt, sv_ff] <;> omega
   rcases Int.mul_eq_zero.1 h0 with h' | h'
   ·
    omega
   ·
    rw [ea]
    unfold fman at h'
    split at h' <;> omega
  ·
   exact .inl ce
 by_cases hpq : a % 9223372036854775808 = b % 9223372036854775808
 ·
  refine Ev.congr (fun k => if_pos hpq) ?_
  obtain ⟨hm, hx⟩ := hmp a b hpq a0 a1 b0 b1
  by_cases hab : a = b
  ·
   refine Ev.congr (fun k => if_pos hab) ?_
   by_cases h0 : a % 9223372036854775808 = 0
   ·
    refine Ev.congr (fun k => if_pos h0) ?_
    have ez : (b % 9223372036854775808 == 0) = true := by rw [beq_iff_eq]; omega
    rw [ez]
    refine hnought ?_ (.inr ⟨h0, by omega⟩)
    rw [hz a h0 a0 a1, hz b (by omega) b0 b1]
    simp [sv]
   ·
    refine Ev.congr (fun k => if_neg h0) (hgo (fun h => ?_))
    have := (hval h).2
    omega
  ·
   refine Ev.congr (fun k => if_neg hab) ?_
   refine hnought ?_ (.inl ⟨hpq, hab⟩)
   have hs : fneg a ≠ fneg b := by
    intro h
    unfold fneg at h
    have := decide_eq_decide.1 h
    omega
   rw [hm, hx]
   revert hs
   cases fneg a <;> cases fneg b <;> simp [sv] <;> omega
 ·
  refine Ev.congr (fun k => if_neg hpq) ?_
  by_cases h0 : a % 9223372036854775808 = 0
  ·
   refine Ev.congr (fun k => if_pos h0) ?_
   have ez : (b % 9223372036854775808 == 0) = false := by rw [beq_eq_false_iff_ne]; omega
   rw [ez]
   exact hgo (fun h => hpq (hval h).1)
  ·
   exact Ev.congr (fun k => if_neg h0) (hgo (fun h => hpq (hval h).1))
theorem fsub_ev {a b : Int} (a0 : 0 ≤ a) (a1 : a < 18446744073709551616) (b0 : 0 ≤ b) (b1 : b < 18446744073709551616) (mode : Int) :
  Ev (fun k => fadd_Sub.f k a b mode) (if fcls b = 3 then (9221120237041090560, 0) else addS a (if b < 9223372036854775808 then b + 9223372036854775808 else b - 9223372036854775808) mode) := by
 unfold fadd_Sub.f
 refine Ev.bind (class_ev b0 b1) ?_
 by_cases c : fcls b = 3
 ·
  rw [if_pos c]
  exact Ev.congr (fun k => if_pos c) (Ev.now _)
 ·
  rw [if_neg c]
  refine Ev.congr (fun k => if_neg c) ?_
  rw [xor_sign b0 b1]
  refine Ev.bind (fadd_ev a0 a1 ?_ ?_ mode) (Ev.now _)
  ·
   split <;> omega
  ·
   split <;> omega
end Go.Proofs.YtjgdpjbkmcjbcaaDoor.PG
