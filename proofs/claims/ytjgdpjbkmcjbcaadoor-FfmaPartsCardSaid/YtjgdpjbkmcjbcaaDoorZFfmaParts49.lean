/- Parts of a proof. -/
import Derived.Test.YtjgdpjbkmcjbcaaDoorZFfmaParts48
import Derived.Laws.Bits64
section
namespace Go.Proofs.YtjgdpjbkmcjbcaaDoor.Flt
open Go.Proofs.YtjgdpjbkmcjbcaaDoor.Num
set_option linter.unusedVariables false
set_option linter.unusedSimpArgs false
def up2 (a : Int) : Int := 2 ^ a.toNat
theorem up2_pos (a : Int) : 0 < up2 a := two_pow_pos _
theorem up2_nat (n : Nat) : up2 (n : Int) = 2 ^ n := by unfold up2; rw [Int.toNat_natCast]
theorem up2_neg {a : Int} (h : a ≤ 0) : up2 a = 1 := by unfold up2; rw [show a.toNat = 0 by omega]; rfl
theorem up2_add {a b : Int} (ha : 0 ≤ a) (hb : 0 ≤ b) : up2 (a + b) = up2 a * up2 b := by
 unfold up2
 rw [show (a + b).toNat = a.toNat + b.toNat by omega, Int.pow_add]
theorem up2_mono {a b : Int} (h : a ≤ b) : up2 a ≤ up2 b := two_pow_mono (by omega)
theorem up2_one : up2 1 = 2 := rfl
theorem up2_succ {a : Int} (ha : 0 ≤ a) : up2 (a + 1) = 2 * up2 a := by rw [up2_add ha (by omega), up2_one, Int.mul_comm]
def qhs (A D : Int) : Int × Bool × Bool := (A / D, decide (D ≤ 2 * (A % D)), decide (A % D ≠ 0 ∧ 2 * (A % D) ≠ D))
theorem qhs_scale {A D c : Int} (hc : 0 < c) : qhs (c * A) (c * D) = qhs A D := by
 unfold qhs
 rw [Int.mul_ediv_mul_of_pos _ _ hc, Int.mul_emod_mul_of_pos _ _ hc]
 have e : 2 * (c * (A % D)) = c * (2 * (A % D)) := by grind
 rw [e]
 congr 1
 congr 1
 ·
  exact decide_eq_decide.2 ⟨fun h => Int.le_of_mul_le_mul_left h hc, fun h => Int.mul_le_mul_of_nonneg_left h (by omega)⟩
 ·
  refine decide_eq_decide.2 ⟨fun ⟨h1, h2⟩ => ⟨fun h => h1 (by rw [h, Int.mul_zero]), fun h => h2 (by rw [h])⟩, fun ⟨h1, h2⟩ => ⟨fun h => h1 ?_, fun h => h2 ?_⟩⟩
  ·
   rcases Int.mul_eq_zero.1 h with h | h
   ·
    omega
   ·
    exact h
  ·
   exact Int.eq_of_mul_eq_mul_left (by omega) h
theorem qhs_one (A : Int) : qhs A 1 = (A, false, false) := by
 unfold qhs
 rw [Int.ediv_one, Int.emod_one]
 rfl
def qx (N x e : Int) : Int × Bool × Bool := qhs (N * up2 (x - e)) (up2 (e - x))
theorem qx_shift (N x e : Int) (k : Nat) : qx (N * 2 ^ k) (x - k) e = qx N x e := by
 unfold qx
 by_cases h : e ≤ x - k
 ·
  have e1 : up2 (x - k - e) * 2 ^ k = up2 (x - e) := by
   have := up2_add (a := x - k - e) (b := (k : Int)) (by omega) (by omega)
   rw [up2_nat] at this
   rw [← this]; congr 1; omega
  rw [up2_neg (a := e - (x - k)) (by omega), up2_neg (a := e - x) (by omega), ← e1]
  congr 1
  grind
 ·
  by_cases h2 : e ≤ x
  ·
   have e1 : up2 (x - e) * up2 (e - (x - k)) = 2 ^ k := by
    have := up2_add (a := x - e) (b := e - (x - k)) (by omega) (by omega)
    rw [← this, ← up2_nat]; congr 1; omega
   rw [up2_neg (a := x - k - e) (by omega), up2_neg (a := e - x) (by omega), ← e1]
   have := qhs_scale (A := N * up2 (x - e)) (D := 1) (up2_pos (e - (x - k)))
   rw [← this]
   congr 1
   ·
    grind
   ·
    grind
  ·
   have e1 : up2 (e - (x - k)) = up2 (e - x) * 2 ^ k := by
    have := up2_add (a := e - x) (b := (k : Int)) (by omega) (by omega)
    rw [up2_nat] at this
    rw [← this]; congr 1; omega
   rw [up2_neg (a := x - k - e) (by omega), up2_neg (a := x - e) (by omega), e1]
   have := qhs_scale (A := N * 1) (D := up2 (e - x)) (two_pow_pos k)
   rw [← this]
   congr 1
   ·
    grind
   ·
    grind
theorem qhs_sticky {W K t D : Int} (hK : 0 < K) (h0 : 0 ≤ t) (ht : t < K) (hD : 0 < D) (he : t ≠ 0 → D % 2 = 0) :
  qhs (K * W + t) (K * D) = ((qhs W D).1, (qhs W D).2.1, (qhs W D).2.2 || decide (t ≠ 0)) := by
 by_cases hz : t = 0
 ·
  subst hz
  rw [Int.add_zero, qhs_scale hK]
  simp
 ·
  have hev := he hz
  have hm0 := Int.emod_nonneg W (show D ≠ 0 by omega)
  have hm1 := Int.emod_lt_of_pos W hD
  have hdm := Int.emod_add_mul_ediv W D
  generalize hr : W % D = r at *
  generalize hq : W / D = q at *
  have hlt : K * r + t < K * D := by
   have : K * r ≤ K * (D - 1) := Int.mul_le_mul_of_nonneg_left (by omega) (by omega)
   rw [Int.mul_sub] at this
   omega
  have hnn : 0 ≤ K * r := Int.mul_nonneg (by omega) hm0
  have e : K * W + t = (K * r + t) + (K * D) * q := by rw [← hdm]; grind
  have ed : (K * W + t) / (K * D) = q := by
   rw [e, Int.add_mul_ediv_left _ _ (by have := Int.mul_pos hK hD; omega), Int.ediv_eq_zero_of_lt (by omega) hlt, Int.zero_add]
  have em : (K * W + t) % (K * D) = K * r + t := by
   rw [e, Int.add_mul_emod_self_left, Int.emod_eq_of_lt (by omega) hlt]
  unfold qhs
  rw [ed, em, hr, hq]
  obtain ⟨d2, hd2⟩ : ∃ d2, D = 2 * d2 := ⟨D / 2, by omega⟩
  subst hd2
  congr 1
  congr 1
  ·
   refine decide_eq_decide.2 ⟨fun h => ?_, fun h => ?_⟩
   ·
    by_cases hc : d2 ≤ r
    ·
     omega
    ·
     have : K * r ≤ K * (d2 - 1) := Int.mul_le_mul_of_nonneg_left (by omega) (by omega)
     rw [Int.mul_sub] at this
     have e2 : K * (2 * d2) = 2 * (K * d2) := by grind
     omega
   ·
    have : K * d2 ≤ K * r := Int.mul_le_mul_of_nonneg_left (by omega) (by omega)
    have e2 : K * (2 * d2) = 2 * (K * d2) := by grind
    omega
  ·
   rw [decide_eq_true hz, Bool.or_true, decide_eq_true_eq]
   refine ⟨by omega, fun h => ?_⟩
   have e2 : K * (2 * d2) = 2 * (K * d2) := by grind
   rw [e2] at h
   have h3 : K * (d2 - r) = t := by rw [Int.mul_sub]; omega
   by_cases hc : d2 - r ≤ 0
   ·
    have : K * (d2 - r) ≤ K * 0 := Int.mul_le_mul_of_nonneg_left hc (by omega)
    omega
   ·
    have : K * 1 ≤ K * (d2 - r) := Int.mul_le_mul_of_nonneg_left (by omega) (by omega)
    omega
theorem qx_sticky {N : Int} (hN : 0 ≤ N) (x e : Int) (k : Nat) (he : N % 2 ^ k ≠ 0 → x + k < e) :
  qx N x e = ((qx (N / 2 ^ k) (x + k) e).1, (qx (N / 2 ^ k) (x + k) e).2.1, (qx (N / 2 ^ k) (x + k) e).2.2 || decide (N % 2 ^ k ≠ 0)) := by
 have hK := two_pow_pos k
 have hdm := Int.emod_add_mul_ediv N (2 ^ k)
 have h0 := Int.emod_nonneg N (show (2 : Int) ^ k ≠ 0 by omega)
 have h1 := Int.emod_lt_of_pos N hK
 by_cases hz : N % 2 ^ k = 0
 ·
  have hs := qx_shift (N / 2 ^ k) (x + k) e k
  rw [show x + (k : Int) - k = x by omega] at hs
  have e1 : N / 2 ^ k * 2 ^ k = N := by rw [hz] at hdm; rw [Int.mul_comm]; omega
  rw [e1] at hs
  rw [hs]
  simp [hz]
 ·
  have hlt := he hz
  unfold qx
  rw [up2_neg (a := x - e) (by omega), up2_neg (a := x + k - e) (by omega)]
  have e1 : up2 (e - x) = 2 ^ k * up2 (e - (x + k)) := by
   have := up2_add (a := (k : Int)) (b := e - (x + k)) (by omega) (by omega)
   rw [up2_nat] at this
   rw [← this]; congr 1; omega
  have hs := qhs_sticky (W := N / 2 ^ k) (K := 2 ^ k) (t := N % 2 ^ k) (D := up2 (e - (x + k))) hK h0 h1 (up2_pos _) (fun _ => by
   rw [show e - (x + k) = (e - (x + k) - 1) + 1 by omega, up2_succ (by omega)]
   omega)
  rw [show (2 : Int) ^ k * (N / 2 ^ k) + N % 2 ^ k = N by omega] at hs
  rw [e1, Int.mul_one, Int.mul_one, hs]
theorem bitsOf_mul_pow {W : Int} (hW : 0 < W) (k : Nat) : bitsOf (W * 2 ^ k) = bitsOf W + k := by
 obtain ⟨_, h1, h2, h3⟩ := bitsOf_spec (v := W) (by omega)
 have hp := bitsOf_pos hW
 refine (bitsOf_eq ⟨Int.mul_nonneg (by omega) (Int.le_of_lt (two_pow_pos k)), by omega, ?_, .inr ?_⟩).symm
 ·
  rw [show (bitsOf W + k).toNat = (bitsOf W).toNat + k by omega, Int.pow_add]
  exact Int.mul_lt_mul_of_pos_right h2 (two_pow_pos k)
 ·
  rw [show (bitsOf W + k).toNat - 1 = ((bitsOf W).toNat - 1) + k by omega, Int.pow_add]
  exact Int.mul_le_mul_of_nonneg_right (h3.resolve_left (by omega)) (Int.le_of_lt (two_pow_pos k))
theorem bitsOf_cut {N : Int} (k : Nat) (h : 0 < N / 2 ^ k) : bitsOf N = bitsOf (N / 2 ^ k) + k := by
 have hK := two_pow_pos k
 have hdm := Int.emod_add_mul_ediv N (2 ^ k)
 have h0 := Int.emod_nonneg N (show (2 : Int) ^ k ≠ 0 by omega)
 have h1 := Int.emod_lt_of_pos N hK
 obtain ⟨g0, g1, g2, g3⟩ := bitsOf_spec (v := N / 2 ^ k) (by omega)
 have hp := bitsOf_pos h
 generalize N / 2 ^ k = W at *
 generalize N % 2 ^ k = t at *
 have hWK : 0 ≤ 2 ^ k * W := Int.mul_nonneg (by omega) g0
 refine (bitsOf_eq ⟨by omega, by omega, ?_, .inr ?_⟩).symm
 ·
  rw [show (bitsOf W + k).toNat = (bitsOf W).toNat + k by omega, Int.pow_add]
  have : 2 ^ k * (W + 1) ≤ 2 ^ k * 2 ^ (bitsOf W).toNat := Int.mul_le_mul_of_nonneg_left (by omega) (by omega)
  rw [Int.mul_add, Int.mul_one, Int.mul_comm (2 ^ k) (2 ^ _)] at this
  omega
 ·
  rw [show (bitsOf W + k).toNat - 1 = k + ((bitsOf W).toNat - 1) by omega, Int.pow_add]
  have : 2 ^ k * 2 ^ ((bitsOf W).toNat - 1) ≤ 2 ^ k * W := Int.mul_le_mul_of_nonneg_left (g3.resolve_left (by omega)) (by omega)
  omega
theorem bitsOf_low {v : Int} (h : 0 < v) : 2 ^ ((bitsOf v).toNat - 1) ≤ v := by
 obtain ⟨_, _, _, h3⟩ := bitsOf_spec (v := v) (by omega)
 exact h3.resolve_left (by have := bitsOf_pos h; omega)
def rup (neg : Bool) (q : Int) (h s : Bool) (mode : Int) : Bool :=
 if mode = 1 then h else if mode = 2 then false else if mode = 3 then !neg && (h || s) else if mode = 4 then neg && (h || s) else h && (s || decide (q % 2 = 1))
def rzero (neg : Bool) : Int := if neg = true then 9223372036854775808 else 0
def rinf (neg : Bool) : Int := rzero neg + 9218868437227405312
def rover (neg : Bool) (mode : Int) : Int × Int :=
 if mode = 2 ∨ (mode = 3 ∧ neg = true) ∨ (mode = 4 ∧ neg = false) then (rinf neg - 1, 20) else (rinf neg, 20)
def rput (neg : Bool) (q e : Int) : Int := if q < 4503599627370496 then rzero neg + q else rzero neg + (e + 1075) * 4503599627370496 + (q - 4503599627370496)
def rfin (neg : Bool) (e : Int) (p : Int × Bool × Bool) (tiny : Bool) (mode : Int) : Int × Int :=
 let u := rup neg p.1 p.2.1 p.2.2 mode
 let q := if u = true then p.1 + 1 else p.1
 let fl := if p.2.1 = true ∨ p.2.2 = true then (if tiny = true then 24 else 16) else 0
 let q2 := if 9007199254740992 ≤ q then q / 2 else q
 let e2 := if 9007199254740992 ≤ q then e + 1 else e
 if 4503599627370496 ≤ q2 ∧ 971 < e2 then rover neg mode else (rput neg q2 e2, fl)
def rexp (n x : Int) : Int := if n + x - 53 < -1074 then -1074 else n + x - 53
def rnd (neg : Bool) (N x mode : Int) : Int × Int :=
 rfin neg (rexp (bitsOf N) x) (qx N x (rexp (bitsOf N) x)) (decide (bitsOf N + x - 1 < -1022)) mode
theorem rexp_ge (n x : Int) : -1074 ≤ rexp n x ∧ n + x - 53 ≤ rexp n x ∧ (rexp n x = -1074 ∨ rexp n x = n + x - 53) := by unfold rexp; split <;> omega
theorem rnd_sticky (neg : Bool) {N : Int} (hN : 0 < N) (x : Int) (k : Nat) (mode : Int) (hW : 0 < N / 2 ^ k) (hm : N % 2 ^ k ≠ 0 → 55 ≤ bitsOf (N / 2 ^ k) ∨ x + k ≤ -1080) :
  rnd neg N x mode = rfin neg (rexp (bitsOf (N / 2 ^ k)) (x + k)) ((qx (N / 2 ^ k) (x + k) (rexp (bitsOf (N / 2 ^ k)) (x + k))).1, (qx (N / 2 ^ k) (x + k) (rexp (bitsOf (N / 2 ^ k)) (x + k))).2.1, (qx (N / 2 ^ k) (x + k) (rexp (bitsOf (N / 2 ^ k)) (x + k))).2.2 || decide (N % 2 ^ k ≠ 0))
   (decide (bitsOf (N / 2 ^ k) + (x + k) - 1 < -1022)) mode := by
 have hb := bitsOf_cut k hW
 have he : bitsOf N + x = bitsOf (N / 2 ^ k) + (x + k) := by omega
 have hx : rexp (bitsOf N) x = rexp (bitsOf (N / 2 ^ k)) (x + k) := by unfold rexp; rw [he]
 unfold rnd
 rw [hx, he, qx_sticky (by omega) x _ k (fun h => by have := rexp_ge (bitsOf (N / 2 ^ k)) (x + k); have := hm h; omega)]
theorem rnd_shift (neg : Bool) {W : Int} (hW : 0 < W) (x : Int) (k : Nat) (mode : Int) : rnd neg (W * 2 ^ k) (x - k) mode = rnd neg W x mode := by
 have hb := bitsOf_mul_pow hW k
 have he : bitsOf (W * 2 ^ k) + (x - k) = bitsOf W + x := by omega
 have hx : rexp (bitsOf (W * 2 ^ k)) (x - k) = rexp (bitsOf W) x := by unfold rexp; rw [he]
 unfold rnd
 rw [hx, he, qx_shift]
theorem ad_lt {N x e m : Int} (hN : 0 ≤ N) (hm : 0 ≤ m) (he : bitsOf N + x - m ≤ e) : N * up2 (x - e) < up2 m * up2 (e - x) := by
 have hA := up2_pos (x - e)
 have h2 := bitsOf_lt_pow hN
 have hb := bitsOf_nonneg N
 have hN2 : N < up2 (bitsOf N) := h2
 have h3 : N * up2 (x - e) < up2 (bitsOf N) * up2 (x - e) := Int.mul_lt_mul_of_pos_right hN2 hA
 by_cases hc : e ≤ x
 ·
  rw [← up2_add hb (by omega)] at h3
  rw [up2_neg (a := e - x) (by omega), Int.mul_one]
  exact Int.lt_of_lt_of_le h3 (up2_mono (by omega))
 ·
  rw [up2_neg (a := x - e) (by omega), Int.mul_one] at h3 ⊢
  rw [Int.mul_one] at h3
  rw [← up2_add (by omega) (by omega)]
  exact Int.lt_of_lt_of_le h3 (up2_mono (by omega))
theorem ad_ge {N x e m : Int} (hN : 0 < N) (hm : 0 ≤ m) (he : e ≤ bitsOf N + x - 1 - m) : up2 m * up2 (e - x) ≤ N * up2 (x - e) := by
 have hA := up2_pos (x - e)
 have hb := bitsOf_pos hN
 have hl := bitsOf_low hN
 have hN2 : up2 (bitsOf N - 1) ≤ N := by unfold up2; rw [show (bitsOf N - 1).toNat = (bitsOf N).toNat - 1 by omega]; exact hl
 have h3 : up2 (bitsOf N - 1) * up2 (x - e) ≤ N * up2 (x - e) := Int.mul_le_mul_of_nonneg_right hN2 (by omega)
 by_cases hc : e ≤ x
 ·
  rw [← up2_add (by omega) (by omega)] at h3
  rw [up2_neg (a := e - x) (by omega), Int.mul_one]
  exact Int.le_trans (up2_mono (by omega)) h3
 ·
  rw [up2_neg (a := x - e) (by omega), Int.mul_one, Int.mul_one] at h3
  rw [up2_neg (a := x - e) (by omega), Int.mul_one, ← up2_add (by omega) (by omega)]
  exact Int.le_trans (up2_mono (by omega)) h3
theorem qx_nonneg {N x e : Int} (hN : 0 ≤ N) : 0 ≤ (qx N x e).1 := by
 have hD := up2_pos (e - x)
 have hA := up2_pos (x - e)
 exact Int.ediv_nonneg (Int.mul_nonneg hN (by omega)) (by omega)
theorem qx_lt {N x e : Int} (hN : 0 ≤ N) (he : bitsOf N + x - 53 ≤ e) : 0 ≤ (qx N x e).1 ∧ (qx N x e).1 < 9007199254740992 :=
 ⟨qx_nonneg hN, Int.ediv_lt_of_lt_mul (up2_pos _) (ad_lt hN (m := 53) (by omega) he)⟩
theorem qx_ge {N x : Int} (hN : 0 < N) : 4503599627370496 ≤ (qx N x (bitsOf N + x - 53)).1 :=
 Int.le_ediv_of_mul_le (up2_pos _) (ad_ge hN (m := 52) (by omega) (by omega))
theorem rnd_tiny (neg : Bool) {N x : Int} (hN : 0 < N) (h : bitsOf N + x ≤ -1080) (mode : Int) : rnd neg N x mode = rfin neg (-1074) (0, false, true) true mode := by
 have hb := bitsOf_pos hN
 have he : rexp (bitsOf N) x = -1074 := by unfold rexp; rw [if_pos (by omega)]
 have h2 : N < up2 (bitsOf N) := bitsOf_lt_pow (by omega)
 have h3 : up2 (bitsOf N + 1) ≤ up2 (-1074 - x) := up2_mono (by omega)
 rw [up2_succ (by omega)] at h3
 have hq : qx N x (-1074) = (0, false, true) := by
  unfold qx qhs
  rw [up2_neg (a := x - -1074) (by omega), Int.mul_one, Int.ediv_eq_zero_of_lt (by omega) (by omega), Int.emod_eq_of_lt (by omega) (by omega)]
  congr 1
  congr 1
  ·
   exact decide_eq_false (by omega)
  ·
   exact decide_eq_true (by omega)
 unfold rnd
 rw [he, hq, decide_eq_true (by omega)]
theorem rnd_great (neg : Bool) {N x : Int} (hN : 0 < N) (h : 1026 ≤ bitsOf N + x) (mode : Int) : rnd neg N x mode = rover neg mode := by
 have he : rexp (bitsOf N) x = bitsOf N + x - 53 := by unfold rexp; rw [if_neg (by omega)]
 have h1 := qx_ge (x := x) hN
 unfold rnd rfin
 rw [he]
 generalize qx N x (bitsOf N + x - 53) = p at *
 have hq : 4503599627370496 ≤ (if rup neg p.1 p.2.1 p.2.2 mode = true then p.1 + 1 else p.1) := by split <;> omega
 simp only
 generalize (if rup neg p.1 p.2.1 p.2.2 mode = true then p.1 + 1 else p.1) = q at *
 refine if_pos ?_
 split <;> omega
end Go.Proofs.YtjgdpjbkmcjbcaaDoor.Flt
end
section
namespace Go.Proofs.YtjgdpjbkmcjbcaaDoor.PG
open Go.RowKit Go.Proofs.YtjgdpjbkmcjbcaaDoorW.PrintWords Go.Proofs.YtjgdpjbkmcjbcaaDoorW.PrintLast Go.Proofs.YtjgdpjbkmcjbcaaDoorW.PrintMore Go.Proofs.YtjgdpjbkmcjbcaaDoor.Num Go.Proofs.YtjgdpjbkmcjbcaaDoor.Flt
set_option linter.unusedVariables false
set_option linter.unusedSimpArgs false
def t2F : Nat → Int → Nat
 | 0, _ => 0
 | f + 1, v => if v % 2 = 0 then t2F f (v / 2) + 1 else 0
def t2 (v : Int) : Nat := t2F v.toNat v
def od (v : Int) : Int := v / 2 ^ t2 v
theorem t2F_spec : ∀ (f : Nat) (v : Int), 0 < v → v.toNat ≤ f → ∃ m, 0 ≤ m ∧ Odd2 v (t2F f v) m
 | 0, v, h0, h1 => by omega
 | f + 1, v, h0, h1 => by
  unfold t2F
  by_cases h : v % 2 = 0
  ·
   rw [if_pos h]
   obtain ⟨m, hm, ho⟩ := t2F_spec f (v / 2) (by omega) (by omega)
   refine ⟨m, hm, ?_⟩
   unfold Odd2 at ho ⊢
   rw [Int.pow_succ, Int.mul_assoc, Int.mul_left_comm, ← ho]
   omega
  ·
   rw [if_neg h]
   refine ⟨v / 2, by omega, ?_⟩
   unfold Odd2
   rw [Int.pow_zero, Int.one_mul]
   omega
theorem t2_odd {v : Int} (h : 0 < v) : ∃ m, 0 ≤ m ∧ Odd2 v (t2 v) m := t2F_spec _ v h (Nat.le_refl _)
theorem t2_eq {v m : Int} {t : Nat} (hm : 0 ≤ m) (h : Odd2 v t m) : t2 v = t := by
 obtain ⟨m', _, h'⟩ := t2_odd (odd2_pos h hm)
 exact (h'.uniq h).1
theorem od_eq {v m : Int} {t : Nat} (hm : 0 ≤ m) (h : Odd2 v t m) : od v = 2 * m + 1 := by
 unfold od
 rw [t2_eq hm h]
 exact odd2_div h
theorem od_val {v : Int} (h : 0 < v) : v = od v * 2 ^ t2 v ∧ 0 < od v ∧ od v ≤ v := by
 obtain ⟨m, hm, ho⟩ := t2_odd h
 have e := od_eq hm ho
 refine ⟨?_, by omega, ?_⟩
 ·
  rw [e]
  unfold Odd2 at ho
  rw [Int.mul_comm]
  exact ho
 ·
  unfold od
  exact Int.ediv_le_self _ (by omega)
theorem abs_mul_pow (z : Int) (k : Nat) : (((z * 2 ^ k).natAbs : Nat) : Int) = (z.natAbs : Int) * 2 ^ k := by
 rw [Int.natAbs_mul, Int.natCast_mul, Int.natAbs_of_nonneg (Int.le_of_lt (two_pow_pos k))]
def oz (z : Int) : Int := sv (decide (z < 0)) (od (z.natAbs : Int))
def dt (z x : Int) : Bool × List Int × Int × Int :=
 if z = 0 then (false, [], 0, 0) else dtold (decide (z < 0)) (dg 18446744073709551616 (od (z.natAbs : Int))) (wrap64 (x + t2 (z.natAbs : Int)))
theorem told_wh {s : Bool} {l : List Int} {z : Int} {n : Nat} (h : Wh s l z n) (hn : n ≤ 10000000) (x : Int) : Ev (fun k => dyadic_told.f k s l x) (dt z x) := by
 unfold dt
 by_cases hz : z = 0
 ·
  rw [if_pos hz]
  have := h.nm
  rw [hz] at this
  exact dtold0_ev this hn x
 ·
  rw [if_neg hz]
  obtain ⟨m, hm, ho⟩ := t2_odd (v := (z.natAbs : Int)) (by omega)
  have e := dtold_ev (s := s) h.nm hn ho hm x
  have hs : decide (z < 0) = s := by
   have hv := h.val
   cases s
   ·
    simp only [sv, Bool.false_eq_true, if_false] at hv
    exact decide_eq_false (by omega)
   ·
    simp only [sv, if_true] at hv
    exact decide_eq_true (by omega)
  rw [hs, od_eq hm ho]
  exact e
theorem mul_neg_iff' {z P : Int} (hp : 0 < P) : z * P < 0 ↔ z < 0 := by
 constructor
 ·
  intro h
  by_cases c : z < 0
  ·
   exact c
  ·
   have := Int.mul_nonneg (show 0 ≤ z by omega) (Int.le_of_lt hp)
   omega
 ·
  exact fun h => Int.mul_neg_of_neg_of_pos h hp
theorem oz_abs {z : Int} (hz : z ≠ 0) : ((oz z).natAbs : Int) = od (z.natAbs : Int) ∧ decide (oz z < 0) = decide (z < 0) ∧ oz z ≠ 0 := by
 have h := od_val (v := (z.natAbs : Int)) (by omega)
 unfold oz sv
 by_cases c : z < 0
 ·
  rw [decide_eq_true c, if_pos rfl]
  exact ⟨by omega, by rw [decide_eq_true (by omega)], by omega⟩
 ·
  rw [decide_eq_false c, if_neg (by decide)]
  exact ⟨by omega, by rw [decide_eq_false (by omega)], by omega⟩
theorem oz_val {z : Int} (hz : z ≠ 0) : z = oz z * 2 ^ t2 (z.natAbs : Int) := by
 have h := od_val (v := (z.natAbs : Int)) (by omega)
 have hp := two_pow_pos (t2 (z.natAbs : Int))
 generalize (2 : Int) ^ t2 (z.natAbs : Int) = P at *
 unfold oz sv
 by_cases c : z < 0
 ·
  rw [decide_eq_true c, if_pos rfl, Int.neg_mul, ← h.1]
  omega
 ·
  rw [decide_eq_false c, if_neg (by decide), ← h.1]
  omega
theorem dt_wz {z : Int} (hz : z ≠ 0) (x : Int) : dt z x = if dmay (wz (oz z)).2 (wrap64 (x + t2 (z.natAbs : Int))) then ((wz (oz z)).1, (wz (oz z)).2, wrap64 (x + t2 (z.natAbs : Int)), 0) else (false, [], 0, 4) := by
 obtain ⟨h1, h2, _⟩ := oz_abs hz
 unfold dt dtold wz
 rw [if_neg hz, h1, h2]
theorem t2_lt {v : Int} {n : Nat} (h0 : 0 < v) (h : v < 18446744073709551616 ^ n) : t2 v < 64 * n := by
 have hv := od_val h0
 have e1 : (18446744073709551616 : Int) ^ n = 2 ^ (64 * n) := by rw [show (18446744073709551616 : Int) = 2 ^ 64 by decide, ← Int.pow_mul]
 have hle : (2 : Int) ^ t2 v ≤ v := by
  have hp := two_pow_pos (t2 v)
  have := Int.mul_le_mul_of_nonneg_right (show (1 : Int) ≤ od v by omega) (Int.le_of_lt hp)
  rw [Int.one_mul, ← hv.1] at this
  exact this
 rw [e1] at h
 exact two_pow_lt_iff.1 (Int.lt_of_le_of_lt hle h)
theorem dt_ok {z x : Int} {n : Nat} (hz : (z.natAbs : Int) < 18446744073709551616 ^ n) (hn : n ≤ 1024) (hx0 : -16384 ≤ x) (hx1 : x + 64 * n ≤ 16384) :
  ∃ (y e : Int) (t : Nat), dt z x = ((wz y).1, (wz y).2, e, 0) ∧ Wh (wz y).1 (wz y).2 y n ∧ -16384 ≤ e ∧ e ≤ 16384 ∧ (z = 0 ∧ y = 0 ∧ e = 0 ∨ y ≠ 0 ∧ z ≠ 0 ∧ z = y * 2 ^ t ∧ e = x + t ∧ t < 64 * n ∧ y = oz z) := by
 by_cases h0 : z = 0
 ·
  refine ⟨0, 0, 0, ?_, Wh.made (by rw [h0] at hz; exact hz), by omega, by omega, .inl ⟨h0, rfl, rfl⟩⟩
  rw [h0]
  rfl
 ·
  obtain ⟨h1, h2, h3⟩ := oz_abs h0
  have hv := od_val (v := (z.natAbs : Int)) (by omega)
  have ht := t2_lt (by omega) hz
  have hw := Wh.made (z := oz z) (n := n) (by rw [h1]; omega)
  have hl := hw.nm.len
  refine ⟨oz z, x + t2 (z.natAbs : Int), t2 (z.natAbs : Int), ?_, hw, by omega, by omega, .inr ⟨h3, h0, oz_val h0, rfl, ht, rfl⟩⟩
  rw [dt_wz h0, w64 (by omega) (by omega), if_pos]
  unfold dmay
  omega
def vl (z x : Int) : Int := z * up2 (x + 200000)
theorem vl_zero (x : Int) : vl 0 x = 0 := Int.zero_mul _
theorem vl_shift (z x : Int) (k : Nat) (h : -200000 ≤ x - k) : vl (z * 2 ^ k) (x - k) = vl z x := by
 unfold vl
 rw [show x + 200000 = (x - k + 200000) + (k : Int) by omega, up2_add (a := x - k + 200000) (by omega) (by omega), up2_nat]
 grind
theorem vl_up (z x : Int) (t : Nat) (h : -200000 ≤ x) : vl (z * 2 ^ t) x = vl z (x + t) := by
 have := vl_shift z (x + t) t (by omega)
 rwa [show x + (t : Int) - t = x by omega] at this
theorem vl_inj {z y x : Int} (h : vl z x = vl y x) : z = y := by
 unfold vl at h
 have := up2_pos (x + 200000)
 exact Int.eq_of_mul_eq_mul_right (by omega) h
theorem vl_add (z y x : Int) : vl (z + y) x = vl z x + vl y x := Int.add_mul _ _ _
theorem vl_level (z x m : Int) (hm : m ≤ x) (h : -200000 ≤ m) : vl (z * up2 (x - m)) m = vl z x := by
 obtain ⟨k, hk⟩ : ∃ k : Nat, x - m = k := ⟨(x - m).toNat, by omega⟩
 rw [hk, up2_nat]
 have := vl_up z m k h
 rwa [show m + (k : Int) = x by omega] at this
theorem rnd_vl {neg : Bool} {N M x w : Int} (mode : Int) (hN : 0 < N) (hM : 0 < M) (h : vl N x = vl M w) (hx : -200000 ≤ x) (hw : -200000 ≤ w) : rnd neg N x mode = rnd neg M w mode := by
 have key : ∀ (z y x w : Int), 0 < y → x ≤ w → -200000 ≤ x → vl z x = vl y w → rnd neg z x mode = rnd neg y w mode := by
  intro z y x w hy hxw hx h
  obtain ⟨k, hk⟩ : ∃ k : Nat, w - x = k := ⟨(w - x).toNat, by omega⟩
  have e := vl_shift y w k (by omega)
  rw [show w - (k : Int) = x by omega] at e
  have hz : z = y * 2 ^ k := vl_inj (h.trans e.symm)
  have := rnd_shift neg hy w k mode
  rw [hz, show x = w - k by omega]
  exact this
 rcases Int.le_total x w with c | c
 ·
  exact key N M x w hM c hx h
 ·
  exact (key M N w x hN c hw h.symm).symm
theorem rdT0 (a b : S36) : rd_T36 [a, b] 0 = a := rfl
theorem rdT1 (a b : S36) : rd_T36 [a, b] 1 = b := rfl
theorem lenT (a b : S36) : (([a, b] : List S36).length : Int) = 2 := rfl
theorem w01 : wrap64 (0 + 1) = 1 := w64 (by decide) (by decide)
theorem w12 : wrap64 (1 + 1) = 2 := w64 (by decide) (by decide)
theorem checked_ok {s1 s2 : Bool} {l1 l2 : List Int} {e1 e2 : Int} (h1 : dmay l1 e1) (h2 : dmay l2 e2) : Ev (fun k => dyadic_checked.f k [(⟨s1, l1, e1⟩ : S36), (⟨s2, l2, e2⟩ : S36)]) 0 := by
 unfold dyadic_checked.f
 rw [lenT]
 refine Ev.step (f := fun k => dyadic_checked.l0 k [(⟨s1, l1, e1⟩ : S36), (⟨s2, l2, e2⟩ : S36)] 2 1) (fun k => ?_) (Ev.step (f := fun k => dyadic_checked.l0 k [(⟨s1, l1, e1⟩ : S36), (⟨s2, l2, e2⟩ : S36)] 2 2) (fun k => ?_) (Ev.step (f := fun _ => some 0) (fun k => ?_) (Ev.now _)))
 ·
  rw [dyadic_checked.l0, lenT, if_pos (by decide), if_pos (by decide), if_pos (by decide), rdT0, check_ok h1, Option.bind_some, if_pos rfl, w01]
 ·
  rw [dyadic_checked.l0, lenT, if_pos (by decide), if_pos (by decide), if_pos (by decide), rdT1, check_ok h2, Option.bind_some, if_pos rfl, w12]
 ·
  rw [dyadic_checked.l0, if_neg (by decide)]
theorem mn_le' (a b : Int) : mn a b ≤ a ∧ mn a b ≤ b ∧ (mn a b = a ∨ mn a b = b) := by unfold mn; split <;> omega
theorem Wh.may {s l z e} (h : Wh s l z 1024) (h0 : -16384 ≤ e) (h1 : e ≤ 16384) : dmay l e := ⟨h0, h1, h.nm.len⟩
theorem sv_mul (s : Bool) (v p : Int) : sv s v * p = sv s (v * p) := by
 cases s
 ·
  rfl
 ·
  exact Int.neg_mul _ _
theorem Wh.shl {s l z n} (h : Wh s l z n) (k : Nat) (hn : n ≤ 1000000) (hk : k ≤ 65536) : ∃ l', Ev (fun i => natdiv_Shl.f i l (k : Int)) (l', 0) ∧ Wh s l' (z * 2 ^ k) (1025 + n) := by
 obtain ⟨e, n'⟩ := h.nm.Shl k (by omega) hk
 refine ⟨_, e, ?_⟩
 have hw := Wh.of (s := s) n'
 have hv : sv s (2 ^ k * (z.natAbs : Int)) = z * 2 ^ k := by
  rw [Int.mul_comm, ← sv_mul, ← h.val]
 rw [hv] at hw
 exact hw.mono (by omega)
theorem level_ev {s1 s2 : Bool} {l1 l2 : List Int} {z1 z2 e1 e2 : Int} (h1 : Wh s1 l1 z1 1024) (h2 : Wh s2 l2 z2 1024) (a0 : -16384 ≤ e1) (a1 : e1 ≤ 16384) (b0 : -16384 ≤ e2) (b1 : e2 ≤ 16384) :
  ∃ m1 m2, Ev (fun k => dyadic_level.f k s1 l1 e1 s2 l2 e2) (s1, m1, s2, m2, mn e1 e2) ∧ Wh s1 m1 (z1 * up2 (e1 - mn e1 e2)) 2049 ∧ Wh s2 m2 (z2 * up2 (e2 - mn e1 e2)) 2049 := by
 have hm := mn_le' e1 e2
 obtain ⟨j1, hj1⟩ : ∃ k : Nat, e1 - mn e1 e2 = k := ⟨(e1 - mn e1 e2).toNat, by omega⟩
 obtain ⟨j2, hj2⟩ : ∃ k : Nat, e2 - mn e1 e2 = k := ⟨(e2 - mn e1 e2).toNat, by omega⟩
 obtain ⟨m1, x1, w1⟩ := h1.shl j1 (by omega) (by omega)
 obtain ⟨m2, x2, w2⟩ := h2.shl j2 (by omega) (by omega)
 refine ⟨m1, m2, ?_, by rw [hj1, up2_nat]; exact w1, by rw [hj2, up2_nat]; exact w2⟩
 unfold dyadic_level.f
 rw [w64 (x := e1 - mn e1 e2) (by omega) (by omega), w64 (x := e2 - mn e1 e2) (by omega) (by omega), hj1, hj2]
 exact Ev.bind (g := fun _ => dyadic_signed.f s1 l1 e1) (a := (s1, l1)) (Ev.now _) (Ev.bind (g := fun _ => dyadic_signed.f s2 l2 e2) (a := (s2, l2)) (Ev.now _) (Ev.bind x1 (Ev.bind x2 (Ev.now _))))
theorem dadd_ev {s1 s2 : Bool} {l1 l2 : List Int} {z1 z2 e1 e2 : Int} (h1 : Wh s1 l1 z1 1024) (h2 : Wh s2 l2 z2 1024) (a0 : -16384 ≤ e1) (a1 : e1 ≤ 16384) (b0 : -16384 ≤ e2) (b1 : e2 ≤ 16384) :
  Ev (fun k => dyadic_Add.f k s1 l1 e1 s2 l2 e2) (dt (z1 * up2 (e1 - mn e1 e2) + z2 * up2 (e2 - mn e1 e2)) (mn e1 e2)) := by
 obtain ⟨m1, m2, x, w1, w2⟩ := level_ev h1 h2 a0 a1 b0 b1
 obtain ⟨x2, w3⟩ := w1.add 2049 w2 (by omega) (by omega) (by omega)
 unfold dyadic_Add.f
 exact Ev.bind (checked_ok (h1.may a0 a1) (h2.may b0 b1)) (Ev.congr (fun k => if_pos rfl) (Ev.bind x (Ev.bind x2 (Ev.bind (told_wh w3 (by omega) _) (Ev.now _)))))
theorem dmul_ev {s1 s2 : Bool} {l1 l2 : List Int} {z1 z2 e1 e2 : Int} (h1 : Wh s1 l1 z1 1024) (h2 : Wh s2 l2 z2 1024) (a0 : -16384 ≤ e1) (a1 : e1 ≤ 16384) (b0 : -16384 ≤ e2) (b1 : e2 ≤ 16384) :
  Ev (fun k => dyadic_Mul.f k s1 l1 e1 s2 l2 e2) (dt (z1 * z2) (e1 + e2)) := by
 obtain ⟨x2, w3⟩ := h1.mul h2 (by omega)
 have ht := told_wh w3 (by omega) (e1 + e2)
 unfold dyadic_Mul.f
 rw [w64 (x := e1 + e2) (by omega) (by omega)]
 refine Ev.bind (checked_ok (h1.may a0 a1) (h2.may b0 b1)) (Ev.congr (fun k => if_pos rfl) ?_)
 exact Ev.bind (g := fun _ => dyadic_signed.f s1 l1 e1) (a := (s1, l1)) (Ev.now _) (Ev.bind (g := fun _ => dyadic_signed.f s2 l2 e2) (a := (s2, l2)) (Ev.now _) (Ev.bind x2 (Ev.bind ht (Ev.now _))))
theorem vl_sum (z1 z2 e1 e2 : Int) (a0 : -16384 ≤ e1) (b0 : -16384 ≤ e2) : vl (z1 * up2 (e1 - mn e1 e2) + z2 * up2 (e2 - mn e1 e2)) (mn e1 e2) = vl z1 e1 + vl z2 e2 := by
 have hm := mn_le' e1 e2
 rw [vl_add, vl_level _ _ _ hm.1 (by omega), vl_level _ _ _ hm.2.1 (by omega)]
theorem dt_any_vl {z x y e : Int} {t n : Nat} (hx : -200000 ≤ x) (h : z = 0 ∧ y = 0 ∧ e = 0 ∨ y ≠ 0 ∧ z ≠ 0 ∧ z = y * 2 ^ t ∧ e = x + t ∧ t < 64 * n ∧ y = oz z) : vl y e = vl z x := by
 rcases h with ⟨rfl, rfl, rfl⟩ | ⟨_, _, h1, h2, _⟩
 ·
  rw [vl_zero, vl_zero]
 ·
  rw [h1, h2, vl_up _ _ _ hx]
theorem sv_parts {s : Bool} {w : Int} (hw : 0 < w) : sv s w ≠ 0 ∧ decide (sv s w < 0) = s ∧ ((sv s w).natAbs : Int) = w := by
 unfold sv
 cases s
 ·
  simp only [Bool.false_eq_true, if_false]
  exact ⟨by omega, decide_eq_false (by omega), by omega⟩
 ·
  simp only [if_true]
  exact ⟨by omega, decide_eq_true (by omega), by omega⟩
theorem vl_abs (z x : Int) : vl (z.natAbs : Int) x = ((vl z x).natAbs : Int) := by
 unfold vl
 rw [Int.natAbs_mul, Int.natCast_mul, Int.natAbs_of_nonneg (Int.le_of_lt (up2_pos _))]
theorem vl_neg (z x : Int) : vl z x < 0 ↔ z < 0 := mul_neg_iff' (up2_pos _)
theorem vl_zero_iff (z x : Int) : vl z x = 0 ↔ z = 0 := by
 have h := vl_neg z x
 have g := vl_neg (-z) x
 have e : vl (-z) x = -vl z x := Int.neg_mul _ _
 omega
end Go.Proofs.YtjgdpjbkmcjbcaaDoor.PG
end
section
namespace Go.Proofs.YtjgdpjbkmcjbcaaDoor.PG
open Go.RowKit Go.Proofs.YtjgdpjbkmcjbcaaDoorW.PrintWords Go.Proofs.YtjgdpjbkmcjbcaaDoorW.PrintLast Go.Proofs.YtjgdpjbkmcjbcaaDoorW.PrintMore Go.Proofs.YtjgdpjbkmcjbcaaDoor.Num Go.Proofs.YtjgdpjbkmcjbcaaDoor.Flt
set_option linter.unusedVariables false
set_option linter.unusedSimpArgs false
theorem and_mask {x m : Int} (i : Nat) (hm : (2 : Int) ^ i - 1 = m) (hi : i ≤ 64) (h0 : 0 ≤ x) (h1 : x < 18446744073709551616) : Go.bits .and .u64 x m = x % 2 ^ i := by
 rw [← hm]
 exact bits_mask .u64 64 (by decide) wraps_u64 i hi x h0 h1
theorem and_one {x : Int} (h0 : 0 ≤ x) (h1 : x < 18446744073709551616) : Go.bits .and .u64 x 1 = x % 2 := and_mask 1 (by decide) (by decide) h0 h1
theorem and_frac {x : Int} (h0 : 0 ≤ x) (h1 : x < 18446744073709551616) : Go.bits .and .u64 x 4503599627370495 = x % 4503599627370496 := and_mask 52 (by decide) (by decide) h0 h1
theorem and_exp {x : Int} (h0 : 0 ≤ x) (h1 : x < 18446744073709551616) : Go.bits .and .u64 x 2047 = x % 2048 := and_mask 11 (by decide) (by decide) h0 h1
theorem and_nat (n : Nat) (hn : n < 2 ^ 64) : n &&& 2 ^ 63 = if n < 2 ^ 63 then 0 else 2 ^ 63 := by
 refine Nat.eq_of_testBit_eq fun i => ?_
 rw [Nat.testBit_and, Nat.testBit_two_pow]
 by_cases hi : i = 63
 ·
  subst hi
  rw [decide_eq_true rfl, Bool.and_true, Nat.testBit_eq_decide_div_mod_eq]
  by_cases h : n < 2 ^ 63
  ·
   rw [if_pos h]
   have : n / 2 ^ 63 % 2 = 0 := by omega
   rw [this]
   rfl
  ·
   rw [if_neg h]
   have : n / 2 ^ 63 % 2 = 1 := by omega
   rw [this]
   decide
 ·
  rw [decide_eq_false (fun h => hi h.symm), Bool.and_false]
  split
  ·
   simp
  ·
   rw [Nat.testBit_two_pow, decide_eq_false (fun h => hi h.symm)]
theorem and_sign {x : Int} (h0 : 0 ≤ x) (h1 : x < 18446744073709551616) : Go.bits .and .u64 x 9223372036854775808 = if x < 9223372036854775808 then 0 else 9223372036854775808 := by
 obtain ⟨n, rfl⟩ := Int.eq_ofNat_of_zero_le h0
 have e := bits_and_u64_nat n (2 ^ 63) (by omega) (by decide)
 rw [show (((2 ^ 63 : Nat)) : Int) = 9223372036854775808 by decide] at e
 rw [e, and_nat n (by omega)]
 by_cases h : n < 9223372036854775808
 ·
  rw [if_pos (by omega), if_pos (by omega)]; rfl
 ·
  rw [if_neg (by omega), if_neg (by omega)]; rfl
theorem or_top {z x : Int} (hz : z = 0 ∨ z = 9223372036854775808) (h0 : 0 ≤ x) (h1 : x < 9223372036854775808) : Go.bits .or .u64 z x = z + x := by
 have e63 : (2 : Int) ^ 63 = 9223372036854775808 := by decide
 refine or_high (s := 63) (by omega) (by omega) ?_ h0 (by omega) (by omega)
 rcases hz with rfl | rfl <;> decide
def fex (a : Int) : Int := a / 4503599627370496 % 2048
def ffr (a : Int) : Int := a % 4503599627370496
def fcls (a : Int) : Int := if fex a = 2047 then (if ffr a = 0 then 2 else 3) else if fex a = 0 ∧ ffr a = 0 then 0 else 1
def fneg (a : Int) : Bool := decide (9223372036854775808 ≤ a)
def fman (a : Int) : Int := if fex a = 0 then ffr a else ffr a + 4503599627370496
def fxp (a : Int) : Int := if fex a = 0 then -1074 else fex a - 1075
theorem fex_range (a : Int) : 0 ≤ fex a ∧ fex a ≤ 2047 := by unfold fex; omega
theorem ffr_range (a : Int) : 0 ≤ ffr a ∧ ffr a < 4503599627370496 := by unfold ffr; omega
theorem fman_range (a : Int) : 0 ≤ fman a ∧ fman a < 9007199254740992 := by have := ffr_range a; unfold fman; split <;> omega
theorem fxp_range (a : Int) : -1074 ≤ fxp a ∧ fxp a ≤ 972 := by have := fex_range a; unfold fxp; split <;> omega
theorem fxp_fin {a : Int} (h : fcls a ≤ 1) : fxp a ≤ 971 := by
 have := fex_range a
 unfold fcls at h
 unfold fxp
 split at h <;> split <;> (try split at h) <;> omega
theorem fcls_range (a : Int) : 0 ≤ fcls a ∧ fcls a ≤ 3 := by unfold fcls; split <;> split <;> omega
theorem fcls_fin {a : Int} : fcls a ≤ 1 ↔ fex a ≠ 2047 := by unfold fcls; split <;> split <;> omega
theorem class_ev {a : Int} (h0 : 0 ≤ a) (h1 : a < 18446744073709551616) : Ev (fun k => parts_Class.f k a) (fcls a) := by
 have e1 : Go.bits .and .u64 (a / 4503599627370496) 2047 = fex a := and_exp (by omega) (by omega)
 have e2 : Go.bits .and .u64 a 4503599627370495 = ffr a := and_frac h0 h1
 unfold parts_Class.f
 rw [e1, e2]
 unfold fcls
 by_cases c1 : fex a = 2047
 ·
  rw [if_pos c1]
  refine Ev.congr (fun k => if_pos c1) ?_
  by_cases c2 : ffr a = 0
  ·
   rw [if_pos c2]
   refine Ev.step (f := fun _ => some 2) (fun k => ?_) (Ev.now _)
   simp only [parts_Class.j0]
   rw [if_neg (by simp [c2]), if_pos c1]
  ·
   rw [if_neg c2]
   refine Ev.step (f := fun _ => some 3) (fun k => ?_) (Ev.now _)
   simp only [parts_Class.j0]
   rw [if_pos (by simp [c2])]
 ·
  rw [if_neg c1]
  refine Ev.congr (fun k => if_neg c1) ?_
  refine Ev.step (f := fun _ => some (if fex a = 0 ∧ ffr a = 0 then 0 else 1)) (fun k => ?_) (Ev.now _)
  simp only [parts_Class.j0]
  rw [if_neg (by decide), if_neg c1]
  by_cases c3 : fex a = 0
  ·
   by_cases c4 : ffr a = 0
   ·
    rw [if_pos c3, if_pos c4, if_pos ⟨c3, c4⟩]
   ·
    rw [if_pos c3, if_neg c4, if_neg (fun h => c4 h.2)]
  ·
   rw [if_neg c3, if_neg (fun h => c3 h.1)]
theorem split_some {a : Int} (h0 : 0 ≤ a) (h1 : a < 18446744073709551616) (hc : fex a ≠ 2047) : parts_Split.f a = some (fneg a, fman a, fxp a, 0) := by
 have e1 : Go.bits .and .u64 (a / 4503599627370496) 2047 = fex a := and_exp (by omega) (by omega)
 have e2 : Go.bits .and .u64 a 4503599627370495 = ffr a := and_frac h0 h1
 have r1 := fex_range a
 have r2 := ffr_range a
 have e3 : (Go.bits .and .u64 a 9223372036854775808 != 0) = fneg a := by
  rw [and_sign h0 h1]
  unfold fneg
  by_cases c : a < 9223372036854775808
  ·
   rw [if_pos c, decide_eq_false (by omega)]; rfl
  ·
   rw [if_neg c, decide_eq_true (by omega)]; rfl
 unfold parts_Split.f
 rw [e1, e2, e3, w64 (by omega) (by omega), if_neg hc]
 unfold fman fxp
 by_cases c : fex a = 0
 ·
  rw [if_pos c, if_pos c, if_pos c]
 ·
  have e4 : Go.bits .or .u64 (ffr a) 4503599627370496 = ffr a + 4503599627370496 := by
   refine or_low (s := 52) (by omega) (by omega) (by decide) r2.1 ?_ (by omega)
   have : (2 : Int) ^ 52 = 4503599627370496 := by decide
   omega
  rw [if_neg c, if_neg c, if_neg c, e4, w64 (by omega) (by omega)]
theorem len_some {hi lo : Int} (h0 : 0 ≤ hi) (h1 : hi < 18446744073709551616) (l0 : 0 ≤ lo) (l1 : lo < 18446744073709551616) : parts_wide_len.f hi lo = some (bitsOf (hi * 18446744073709551616 + lo)) := by
 unfold parts_wide_len.f
 by_cases c : hi = 0
 ·
  subst c
  rw [if_pos rfl, len64_some l0 l1]
  simp
 ·
  rw [if_neg c, len64_some h0 h1]
  have e64 : (2 : Int) ^ 64 = 18446744073709551616 := by decide
  have hb := bitsOf_le h0 (n := 64) (by omega)
  have hn := bitsOf_nonneg hi
  simp only [Option.bind_some]
  rw [w64 (by omega) (by omega)]
  congr 1
  have e : (hi * 18446744073709551616 + lo) / 2 ^ 64 = hi := by
   have : (2 : Int) ^ 64 = 18446744073709551616 := by decide
   rw [this]
   omega
  have := bitsOf_cut (N := hi * 18446744073709551616 + lo) 64 (by rw [e]; omega)
  rw [e] at this
  omega
theorem two_div {W : Int} (m n : Nat) : W / 2 ^ m / 2 ^ n = W / 2 ^ (m + n) := by
 rw [ediv_two (two_pow_pos m), Int.pow_add]
theorem shr_some {hi lo : Int} (h0 : 0 ≤ hi) (h1 : hi < 18446744073709551616) (l0 : 0 ≤ lo) (l1 : lo < 18446744073709551616) (n : Nat) (hn : n < 4611686018427387904) :
  parts_wide_shr.f hi lo (n : Int) = some ((hi * 18446744073709551616 + lo) / 2 ^ n / 18446744073709551616, (hi * 18446744073709551616 + lo) / 2 ^ n % 18446744073709551616) := by
 have e64 : (2 : Int) ^ 64 = 18446744073709551616 := by decide
 unfold parts_wide_shr.f
 by_cases c1 : 128 ≤ n
 ·
  rw [if_pos (by omega)]
  have hz : (hi * 18446744073709551616 + lo) / 2 ^ n = 0 := by
   refine Int.ediv_eq_zero_of_lt (by omega) ?_
   have : (2 : Int) ^ 128 ≤ 2 ^ n := two_pow_mono c1
   have e128 : (2 : Int) ^ 128 = 18446744073709551616 * 18446744073709551616 := by decide
   omega
  rw [hz]
  rfl
 rw [if_neg (by omega)]
 by_cases c2 : 64 ≤ n
 ·
  rw [if_pos (by omega), w64 (by omega) (by omega), if_pos (by omega)]
  have es : (n : Int) - 64 = ((n - 64 : Nat) : Int) := by omega
  rw [es, shr_u64 (by omega)]
  have ez : (hi * 18446744073709551616 + lo) / 2 ^ n = hi / 2 ^ (n - 64) := by
   rw [show n = 64 + (n - 64) by omega, ← two_div, e64, show (hi * 18446744073709551616 + lo) / 18446744073709551616 = hi by omega, show 64 + (n - 64) - 64 = n - 64 by omega]
  rw [ez]
  have q0 : 0 ≤ hi / 2 ^ (n - 64) := Int.ediv_nonneg h0 (Int.le_of_lt (two_pow_pos _))
  have q1 : hi / 2 ^ (n - 64) ≤ hi := Int.ediv_le_self _ h0
  rw [Int.ediv_eq_zero_of_lt q0 (by omega), Int.emod_eq_of_lt q0 (by omega)]
 rw [if_neg (by omega)]
 by_cases c3 : n = 0
 ·
  subst c3
  rw [if_pos (by omega), Int.pow_zero, Int.ediv_one]
  have z1 : (hi * 18446744073709551616 + lo) / 18446744073709551616 = hi := by omega
  have z2 : (hi * 18446744073709551616 + lo) % 18446744073709551616 = lo := by omega
  rw [z1, z2]
 ·
  rw [if_neg (by omega), if_pos (by omega), w64 (by omega) (by omega), if_pos (by omega), shr_u64 (by omega), shr_u64 (by omega)]
  have es : (64 : Int) - (n : Int) = ((64 - n : Nat) : Int) := by omega
  rw [es, shl_u64 (by omega)]
  have hP := two_pow_pos n
  have hQ := two_pow_pos (64 - n)
  have hB := two64 (s := n) (by omega)
  have lq0 : 0 ≤ lo / 2 ^ n := Int.ediv_nonneg l0 (by omega)
  have lq1 : lo / 2 ^ n < 2 ^ (64 - n) := Int.ediv_lt_of_lt_mul hP (by rw [Int.mul_comm, hB]; exact l1)
  have m := mod_shift (P := 2 ^ (64 - n)) (Q := 2 ^ n) hQ hP (by rw [Int.mul_comm]; exact hB) h0
  have mm0 := Int.emod_nonneg hi (show (2 : Int) ^ n ≠ 0 by omega)
  have mm1 := Int.emod_lt_of_pos hi hP
  have hd := Int.emod_add_mul_ediv hi (2 ^ n)
  rw [m]
  have t0 : 0 ≤ (2 : Int) ^ (64 - n) * (hi % 2 ^ n) := Int.mul_nonneg (by omega) mm0
  have t1 : (2 : Int) ^ (64 - n) * (hi % 2 ^ n) ≤ 2 ^ (64 - n) * (2 ^ n - 1) := Int.mul_le_mul_of_nonneg_left (by omega) (by omega)
  have t2 : (2 : Int) ^ (64 - n) * (2 ^ n - 1) = 18446744073709551616 - 2 ^ (64 - n) := by rw [Int.mul_sub, Int.mul_comm, hB, Int.mul_one]
  have eo : Go.bits .or .u64 (lo / 2 ^ n) (2 ^ (64 - n) * (hi % 2 ^ n)) = lo / 2 ^ n + 2 ^ (64 - n) * (hi % 2 ^ n) :=
   or_low t0 (by omega) (Int.mul_emod_right _ _) lq0 lq1 (by omega)
  have ew : (hi * 18446744073709551616 + lo) / 2 ^ n = hi * 2 ^ (64 - n) + lo / 2 ^ n := by
   rw [← hB, show hi * (2 ^ n * 2 ^ (64 - n)) + lo = lo + 2 ^ n * (hi * 2 ^ (64 - n)) by grind, Int.add_mul_ediv_left _ _ (by omega)]
   omega
  have ex : hi * 2 ^ (64 - n) + lo / 2 ^ n = (lo / 2 ^ n + 2 ^ (64 - n) * (hi % 2 ^ n)) + 18446744073709551616 * (hi / 2 ^ n) := by
   rw [← hB]
   generalize (2 : Int) ^ n = P at *
   generalize (2 : Int) ^ (64 - n) = Q at *
   have : Q * (hi % P + P * (hi / P)) = Q * hi := by rw [hd]
   grind
  have s0 : 0 ≤ lo / 2 ^ n + 2 ^ (64 - n) * (hi % 2 ^ n) := by omega
  have s1 : lo / 2 ^ n + 2 ^ (64 - n) * (hi % 2 ^ n) < 18446744073709551616 := by omega
  rw [eo, ew, ex, Int.add_mul_ediv_left _ _ (by decide), Int.ediv_eq_zero_of_lt s0 s1, Int.zero_add, Int.add_mul_emod_self_left, Int.emod_eq_of_lt s0 s1]
theorem mod_two_pow_succ (W : Int) (i : Nat) : W % 2 ^ (i + 1) = W % 2 ^ i + 2 ^ i * (W / 2 ^ i % 2) := by
 have hP := two_pow_pos i
 have h1 := Int.emod_add_mul_ediv W (2 ^ i)
 have h2 := Int.emod_add_mul_ediv (W / 2 ^ i) 2
 have m0 := Int.emod_nonneg W (show (2 : Int) ^ i ≠ 0 by omega)
 have m1 := Int.emod_lt_of_pos W hP
 have b0 := Int.emod_nonneg (W / 2 ^ i) (show (2 : Int) ≠ 0 by omega)
 have b1 := Int.emod_lt_of_pos (W / 2 ^ i) (show (0 : Int) < 2 by omega)
 generalize W / 2 ^ i % 2 = b at *
 generalize W / 2 ^ i / 2 = c at *
 generalize W / 2 ^ i = d at *
 generalize W % 2 ^ i = r at *
 rw [Int.pow_succ]
 have e : W = (r + 2 ^ i * b) + 2 ^ i * 2 * c := by rw [← h1, ← h2]; grind
 have hb : b = 0 ∨ b = 1 := by omega
 rw [e, Int.add_mul_emod_self_left, Int.emod_eq_of_lt]
 ·
  rcases hb with rfl | rfl <;> omega
 ·
  rcases hb with rfl | rfl <;> omega
theorem qhs_bits (W : Int) (n : Nat) : qhs W (2 ^ (n + 1)) = (W / 2 ^ (n + 1), decide (W / 2 ^ n % 2 = 1), decide (W % 2 ^ n ≠ 0)) := by
 have hP := two_pow_pos n
 have m0 := Int.emod_nonneg W (show (2 : Int) ^ n ≠ 0 by omega)
 have m1 := Int.emod_lt_of_pos W hP
 have hb : W / 2 ^ n % 2 = 0 ∨ W / 2 ^ n % 2 = 1 := by omega
 unfold qhs
 rw [mod_two_pow_succ, Int.pow_succ]
 generalize W % 2 ^ n = r at *
 generalize W / 2 ^ n % 2 = b at *
 generalize (2 : Int) ^ n = P at *
 congr 1
 congr 1
 ·
  refine decide_eq_decide.2 ?_
  rcases hb with rfl | rfl <;> simp <;> omega
 ·
  refine decide_eq_decide.2 ?_
  rcases hb with rfl | rfl <;> simp <;> omega
theorem cut_loop {hi lo : Int} (h0 : 0 ≤ hi) (h1 : hi < 18446744073709551616) (l0 : 0 ≤ lo) (l1 : lo < 18446744073709551616) (q : Int) (h : Bool) (M : Nat) (hM : M ≤ 128) : ∀ (d i : Nat), M = i + d → (hi * 18446744073709551616 + lo) % 2 ^ i = 0 →
  Ev (fun k => parts_wide_cut.l0 k q h (M : Int) (i : Int) hi lo) (q, h, decide ((hi * 18446744073709551616 + lo) % 2 ^ M ≠ 0))
 | 0, i, hi', hz => by
  obtain rfl : M = i := by omega
  refine Ev.step (f := fun _ => some _) (fun k => ?_) (Ev.now _)
  simp only [parts_wide_cut.l0]
  rw [if_neg (by omega), decide_eq_false (by simp [hz])]
 | d + 1, i, hi', hz => by
  have es := shr_some h0 h1 l0 l1 i (by omega)
  have a0 : 0 ≤ (hi * 18446744073709551616 + lo) / 2 ^ i := Int.ediv_nonneg (by omega) (Int.le_of_lt (two_pow_pos _))
  have em : Go.bits .and .u64 ((hi * 18446744073709551616 + lo) / 2 ^ i % 18446744073709551616) 1 = (hi * 18446744073709551616 + lo) / 2 ^ i % 2 := by
   rw [and_one (by omega) (by omega)]
   omega
  have hs := mod_two_pow_succ (hi * 18446744073709551616 + lo) i
  by_cases hb : (hi * 18446744073709551616 + lo) / 2 ^ i % 2 = 1
  ·
   have hn : (hi * 18446744073709551616 + lo) % 2 ^ M ≠ 0 := by
    intro hc
    have hd : (hi * 18446744073709551616 + lo) % 2 ^ (i + 1) = 0 := by
     have := Int.emod_emod_of_dvd (hi * 18446744073709551616 + lo) (show (2 : Int) ^ (i + 1) ∣ 2 ^ M from ⟨2 ^ (M - (i + 1)), by rw [← Int.pow_add]; congr 1; omega⟩)
     rw [hc] at this
     rw [← this]
     rfl
    have := two_pow_pos i
    rw [hs, hz, hb] at hd
    omega
   refine Ev.step (f := fun _ => some (q, h, true)) (fun k => ?_) (by rw [decide_eq_true hn]; exact Ev.now _)
   simp only [parts_wide_cut.l0]
   rw [if_pos (by omega), es]
   simp only [Option.bind_some]
   rw [em, if_pos hb]
  ·
   have hb' : (hi * 18446744073709551616 + lo) / 2 ^ i % 2 = 0 := by omega
   refine Ev.step (f := fun k => parts_wide_cut.l0 k q h (M : Int) ((i + 1 : Nat) : Int) hi lo) (fun k => ?_) (cut_loop h0 h1 l0 l1 q h M hM d (i + 1) (by omega) (by rw [hs, hz, hb']; simp))
   simp only [parts_wide_cut.l0]
   rw [if_pos (by omega), es]
   simp only [Option.bind_some]
   rw [em, if_neg hb, w64 (by omega) (by omega)]
   rfl
theorem mod_small {W : Int} (h0 : 0 ≤ W) {m n : Nat} (h : W < 2 ^ m) (hmn : m ≤ n) : W % 2 ^ n = W := Int.emod_eq_of_lt h0 (Int.lt_of_lt_of_le h (two_pow_mono hmn))
theorem cut_pos {hi lo : Int} (h0 : 0 ≤ hi) (h1 : hi < 18446744073709551616) (l0 : 0 ≤ lo) (l1 : lo < 18446744073709551616) (n : Nat) (hn : n < 1073741824) :
  Ev (fun k => parts_wide_cut.f k hi lo ((n + 1 : Nat) : Int)) ((hi * 18446744073709551616 + lo) / 2 ^ (n + 1) % 18446744073709551616, decide ((hi * 18446744073709551616 + lo) / 2 ^ n % 2 = 1), decide ((hi * 18446744073709551616 + lo) % 2 ^ n ≠ 0)) := by
 have e1 := shr_some h0 h1 l0 l1 (n + 1) (by omega)
 have e2 := shr_some h0 h1 l0 l1 n (by omega)
 have ew : wrap64 (((n + 1 : Nat) : Int) - 1) = (n : Int) := by rw [w64 (by omega) (by omega)]; omega
 have a0 : 0 ≤ (hi * 18446744073709551616 + lo) / 2 ^ n := Int.ediv_nonneg (by omega) (Int.le_of_lt (two_pow_pos _))
 have em : (Go.bits .and .u64 ((hi * 18446744073709551616 + lo) / 2 ^ n % 18446744073709551616) 1 == 1) = decide ((hi * 18446744073709551616 + lo) / 2 ^ n % 2 = 1) := by
  rw [and_one (by omega) (by omega)]
  rw [Bool.eq_iff_iff, beq_iff_eq, decide_eq_true_eq]
  omega
 unfold parts_wide_cut.f
 refine Ev.congr (fun k => if_neg (by omega)) ?_
 rw [ew, e1, e2]
 simp only [Option.bind_some]
 rw [em]
 by_cases c : 128 < n
 ·
  refine Ev.congr (fun k => if_pos (by omega)) ?_
  have := cut_loop h0 h1 l0 l1 ((hi * 18446744073709551616 + lo) / 2 ^ (n + 1) % 18446744073709551616) (decide ((hi * 18446744073709551616 + lo) / 2 ^ n % 2 = 1)) 128 (by omega) 128 0 (by omega) (by simp [Int.emod_one])
  have e128 : (2 : Int) ^ 128 = 18446744073709551616 * 18446744073709551616 := by decide
  have hlt : hi * 18446744073709551616 + lo < 2 ^ 128 := by rw [e128]; omega
  rw [mod_small (m := 128) (by omega) hlt (by omega)] at this
  rw [mod_small (m := 128) (by omega) hlt (by omega)]
  exact this
 ·
  refine Ev.congr (fun k => if_neg (by omega)) ?_
  exact cut_loop h0 h1 l0 l1 _ _ n (by omega) n 0 (by omega) (by simp [Int.emod_one])
theorem cut_zero {hi lo : Int} (n : Nat) (hn : n ≤ 64) : Ev (fun k => parts_wide_cut.f k hi lo (-(n : Int))) (lo * 2 ^ n % 18446744073709551616, false, false) := by
 unfold parts_wide_cut.f
 rw [w64 (by omega) (by omega), show -(-(n : Int)) = (n : Int) by omega, shl_u64 hn]
 exact Ev.congr (fun k => (if_pos (by omega)).trans (if_pos (by omega))) (Ev.now _)
theorem cut_qx {hi lo : Int} (h0 : 0 ≤ hi) (h1 : hi < 18446744073709551616) (l0 : 0 ≤ lo) (l1 : lo < 18446744073709551616) (x e : Int) (he : bitsOf (hi * 18446744073709551616 + lo) + x - 53 ≤ e) (hW : 0 < hi * 18446744073709551616 + lo) (hx : -100000 ≤ x) (hx' : x ≤ 100000) (he' : -100000 ≤ e) (he'' : e ≤ 200000) :
  Ev (fun k => parts_wide_cut.f k hi lo (e - x)) (qx (hi * 18446744073709551616 + lo) x e) := by
 have hlt := qx_lt (N := hi * 18446744073709551616 + lo) (x := x) (by omega) he
 by_cases c : e ≤ x
 ·
  have hb := bitsOf_pos hW
  obtain ⟨n, hn⟩ : ∃ n : Nat, x - e = n := ⟨(x - e).toNat, by omega⟩
  have hn2 : n ≤ 53 := by omega
  have hl := bitsOf_lt_pow (v := hi * 18446744073709551616 + lo) (by omega)
  have h53 : (2 : Int) ^ (bitsOf (hi * 18446744073709551616 + lo)).toNat ≤ 2 ^ 53 := two_pow_mono (by omega)
  have e53 : (2 : Int) ^ 53 = 9007199254740992 := by decide
  have hi0 : hi = 0 := by omega
  subst hi0
  simp only [Int.zero_mul, Int.zero_add] at *
  have hq : qx lo x e = (lo * 2 ^ n, false, false) := by
   unfold qx
   rw [up2_neg (a := e - x) (by omega), hn, up2_nat, qhs_one]
  rw [hq] at hlt ⊢
  have := cut_zero (hi := 0) (lo := lo) n (by omega)
  rw [show e - x = -(n : Int) by omega]
  rw [Int.emod_eq_of_lt hlt.1 (by have := hlt.2; simp only at this; omega)] at this
  exact this
 ·
  obtain ⟨n, hn⟩ : ∃ n : Nat, e - x = ((n + 1 : Nat) : Int) := ⟨(e - x - 1).toNat, by omega⟩
  have hq : qx (hi * 18446744073709551616 + lo) x e = ((hi * 18446744073709551616 + lo) / 2 ^ (n + 1), decide ((hi * 18446744073709551616 + lo) / 2 ^ n % 2 = 1), decide ((hi * 18446744073709551616 + lo) % 2 ^ n ≠ 0)) := by
   unfold qx
   rw [up2_neg (a := x - e) (by omega), Int.mul_one, hn, up2_nat, qhs_bits]
  rw [hq] at hlt ⊢
  have := cut_pos h0 h1 l0 l1 n (by omega)
  rw [Int.emod_eq_of_lt hlt.1 (by have := hlt.2; simp only at this; omega)] at this
  rw [hn]
  exact this
theorem up_some (neg : Bool) (q : Int) (h s : Bool) (mode : Int) (h0 : 0 ≤ q) (h1 : q < 18446744073709551616) : parts_up.f neg q h s mode = some (rup neg q h s mode) := by
 have e : (Go.bits .and .u64 q 1 == 1) = decide (q % 2 = 1) := by rw [and_one h0 h1]; rw [Bool.eq_iff_iff]; simp
 unfold parts_up.f rup
 rw [e]
 by_cases m1 : mode = 1
 ·
  rw [if_pos m1, if_pos m1]
 ·
  rw [if_neg m1, if_neg m1]
  by_cases m2 : mode = 2
  ·
   rw [if_pos m2, if_pos m2]
  ·
   rw [if_neg m2, if_neg m2]
   by_cases m3 : mode = 3
   ·
    rw [if_pos m3, if_pos m3]
    cases neg <;> cases h <;> rfl
   ·
    rw [if_neg m3, if_neg m3]
    by_cases m4 : mode = 4
    ·
     rw [if_pos m4, if_pos m4]
     cases neg <;> cases h <;> rfl
    ·
     rw [if_neg m4, if_neg m4]
     cases h <;> cases s <;> rfl
theorem zero_some (neg : Bool) : parts_Zero.f neg = some (rzero neg) := by cases neg <;> rfl
theorem rzero_or (neg : Bool) : rzero neg = 0 ∨ rzero neg = 9223372036854775808 := by cases neg <;> simp [rzero]
theorem inf_some (neg : Bool) : parts_Inf.f neg = some (rinf neg) := by
 unfold parts_Inf.f
 rw [zero_some]
 simp only [Option.bind_some]
 rw [or_top (rzero_or neg) (by decide) (by decide)]
 rfl
theorem rinf_range (neg : Bool) : 9218868437227405312 ≤ rinf neg ∧ rinf neg < 18446744073709551616 := by unfold rinf; rcases rzero_or neg with h | h <;> omega
theorem greatest_some (neg : Bool) : parts_greatest.f neg = some (rinf neg - 1) := by
 have := rinf_range neg
 unfold parts_greatest.f
 rw [inf_some]
 simp only [Option.bind_some]
 rw [u64w (by omega) (by omega)]
theorem over_ev (neg : Bool) (mode : Int) : Ev (fun k => parts_over.f k neg mode) (rover neg mode) := by
 have t1 : Ev (fun k => parts_over.j0 k neg true) (rinf neg, 20) := Ev.step (f := fun _ => some (rinf neg, 20)) (fun k => by simp only [parts_over.j0]; rw [if_pos trivial, inf_some]; rfl) (Ev.now _)
 have t2 : Ev (fun k => parts_over.j0 k neg false) (rinf neg - 1, 20) := Ev.step (f := fun _ => some (rinf neg - 1, 20)) (fun k => by simp only [parts_over.j0]; rw [if_neg (by decide), greatest_some]; rfl) (Ev.now _)
 unfold parts_over.f rover
 by_cases a1 : mode < 2
 ·
  rw [if_neg (by omega)]
  exact Ev.congr (fun k => if_pos a1) t1
 ·
  by_cases a2 : mode > 4
  ·
   rw [if_neg (by omega)]
   exact Ev.congr (fun k => (if_neg a1).trans (if_pos a2)) t1
  ·
   by_cases a3 : mode = 3
   ·
    cases neg
    ·
     rw [if_neg (by simp; omega)]
     exact Ev.congr (fun k => ((if_neg a1).trans (if_neg a2)).trans ((if_pos a3).trans (if_neg (by decide)))) t1
    ·
     rw [if_pos (by simp; omega)]
     exact Ev.congr (fun k => ((if_neg a1).trans (if_neg a2)).trans ((if_pos a3).trans ((if_pos rfl).trans (if_neg (by omega))))) t2
   ·
    by_cases a4 : mode = 4
    ·
     cases neg
     ·
      rw [if_pos (by simp; omega)]
      exact Ev.congr (fun k => ((if_neg a1).trans (if_neg a2)).trans ((if_neg a3).trans (if_pos a4))) t2
     ·
      rw [if_neg (by simp; omega)]
      exact Ev.congr (fun k => ((if_neg a1).trans (if_neg a2)).trans ((if_neg a3).trans (if_pos a4))) t1
    ·
     rw [if_pos (by omega)]
     exact Ev.congr (fun k => ((if_neg a1).trans (if_neg a2)).trans ((if_neg a3).trans (if_neg a4))) t2
theorem put_some (neg : Bool) (q e : Int) (h0 : 0 ≤ q) (h1 : q < 9007199254740992) (he : 4503599627370496 ≤ q → -1074 ≤ e ∧ e ≤ 971) : parts_put.f neg q e = some (rput neg q e) := by
 have hz := rzero_or neg
 unfold parts_put.f rput
 by_cases c : q < 4503599627370496
 ·
  rw [if_pos c, if_pos c, zero_some]
  simp only [Option.bind_some]
  rw [or_top hz h0 (by omega)]
 ·
  obtain ⟨e0, e1⟩ := he (by omega)
  rw [if_neg c, if_neg c, zero_some]
  simp only [Option.bind_some]
  rw [w64 (by omega) (by omega), u64w (x := e + 1075) (by omega) (by omega), u64w (by omega) (by omega), or_top hz (by omega) (by omega), and_frac (by omega) (by omega)]
  have em : q % 4503599627370496 = q - 4503599627370496 := by omega
  rw [em]
  congr 1
  refine or_high (s := 52) ?_ ?_ ?_ (by omega) ?_ (by omega)
  ·
   rcases hz with h | h <;> omega
  ·
   rcases hz with h | h <;> omega
  ·
   rw [show (2 : Int) ^ 52 = 4503599627370496 by decide]
   rcases hz with h | h <;> omega
  ·
   rw [show (2 : Int) ^ 52 = 4503599627370496 by decide]
   omega
theorem round_tail (neg : Bool) (x n : Int) (mode : Int) (e q : Int) (h s : Bool) (hq : 0 ≤ q) (hq' : q < 9007199254740992) (he : -1074 ≤ e) (he' : e ≤ 100000) (hx : -100000 ≤ x) (hx' : x ≤ 100000) (hn : 0 ≤ n) (hn' : n ≤ 128) :
  Ev (fun k => parts_Round.j1 k neg x mode n e q h s) (rfin neg e (q, h, s) (decide (n + x - 1 < -1022)) mode) := by
 have hw1 : wrap64 (x + n) = x + n := w64 (by omega) (by omega)
 have hw2 : wrap64 (x + n - 1) = x + n - 1 := w64 (by omega) (by omega)
 have last : ∀ (q2 e2 fl : Int), 0 ≤ q2 → q2 < 9007199254740992 → -1074 ≤ e2 → e2 ≤ 200000 → Ev (fun k => parts_Round.j5 k neg mode e2 q2 fl) (if 4503599627370496 ≤ q2 ∧ 971 < e2 then rover neg mode else (rput neg q2 e2, fl)) := by
  intro q2 e2 fl a0 a1 a2 a3
  have j6 : ∀ b : Bool, (b = true ↔ 4503599627370496 ≤ q2 ∧ 971 < e2) → Ev (fun k => parts_Round.j6 k neg mode e2 q2 fl b) (if 4503599627370496 ≤ q2 ∧ 971 < e2 then rover neg mode else (rput neg q2 e2, fl)) := by
   intro b hb
   cases b
   ·
    have hno : ¬ (4503599627370496 ≤ q2 ∧ 971 < e2) := fun h => Bool.false_ne_true (hb.2 h)
    rw [if_neg hno]
    refine Ev.step (f := fun _ => some (rput neg q2 e2, fl)) (fun k => ?_) (Ev.now _)
    simp only [parts_Round.j6]
    rw [if_neg (by decide), put_some neg q2 e2 a0 a1 (fun h => ⟨a2, by omega⟩)]
    rfl
   ·
    rw [if_pos (hb.1 rfl)]
    refine Ev.step (f := fun k => (parts_over.f k neg mode).bind fun t => some (t.1, t.2)) (fun k => ?_) (Ev.bind (over_ev neg mode) (Ev.now _))
    simp only [parts_Round.j6]
    rw [if_pos trivial]
  by_cases c : 4503599627370496 ≤ q2
  ·
   refine Ev.step (f := fun k => parts_Round.j6 k neg mode e2 q2 fl (decide (wrap64 (e2 + 1075) ≥ 2047))) (fun k => ?_) (j6 _ ?_)
   ·
    simp only [parts_Round.j5]
    rw [if_pos (by omega)]
   ·
    rw [w64 (by omega) (by omega), decide_eq_true_eq]
    omega
  ·
   refine Ev.step (f := fun k => parts_Round.j6 k neg mode e2 q2 fl false) (fun k => ?_) (j6 _ ?_)
   ·
    simp only [parts_Round.j5]
    rw [if_neg (by omega)]
   ·
    constructor
    ·
     intro h; cases h
    ·
     intro h; omega
 have j4 : ∀ (q1 fl : Int), 0 ≤ q1 → q1 ≤ 9007199254740992 → Ev (fun k => parts_Round.j4 k neg mode e q1 fl)
   (if 4503599627370496 ≤ (if 9007199254740992 ≤ q1 then q1 / 2 else q1) ∧ 971 < (if 9007199254740992 ≤ q1 then e + 1 else e) then rover neg mode else (rput neg (if 9007199254740992 ≤ q1 then q1 / 2 else q1) (if 9007199254740992 ≤ q1 then e + 1 else e), fl)) := by
  intro q1 fl a0 a1
  by_cases c : q1 = 9007199254740992
  ·
   subst c
   simp only [Int.le_refl, if_true]
   refine Ev.step (f := fun k => parts_Round.j5 k neg mode (e + 1) 4503599627370496 fl) (fun k => ?_) ?_
   ·
    simp only [parts_Round.j4]
    rw [if_pos trivial, w64 (by omega) (by omega)]
   ·
    have := last 4503599627370496 (e + 1) fl (by omega) (by omega) (by omega) (by omega)
    rwa [show (9007199254740992 : Int) / 2 = 4503599627370496 by decide]
  ·
   have cn : ¬ 9007199254740992 ≤ q1 := by omega
   simp only [if_neg cn]
   refine Ev.step (f := fun k => parts_Round.j5 k neg mode e q1 fl) (fun k => ?_) (last q1 e fl (by omega) (by omega) (by omega) (by omega))
   simp only [parts_Round.j4]
   rw [if_neg c]
 have j3 : ∀ fl : Int, fl = (if h = true ∨ s = true then (if decide (n + x - 1 < -1022) = true then 24 else 16) else 0) → Ev (fun k => parts_Round.j3 k neg mode e q h s fl) (rfin neg e (q, h, s) (decide (n + x - 1 < -1022)) mode) := by
  intro fl hfl
  unfold rfin
  simp only
  rw [← hfl]
  cases hu : rup neg q h s mode
  ·
   refine Ev.step (f := fun k => parts_Round.j4 k neg mode e q fl) (fun k => ?_) ?_
   ·
    simp only [parts_Round.j3]
    rw [up_some neg q h s mode hq (by omega), hu]
    rfl
   ·
    have := j4 q fl hq (by omega)
    simpa using this
  ·
   refine Ev.step (f := fun k => parts_Round.j4 k neg mode e (q + 1) fl) (fun k => ?_) ?_
   ·
    simp only [parts_Round.j3]
    rw [up_some neg q h s mode hq (by omega), hu]
    simp only [Option.bind_some]
    rw [if_pos trivial, u64w (by omega) (by omega)]
   ·
    have := j4 (q + 1) fl (by omega) (by omega)
    simpa using this
 have e24 : Go.bits .or .i64 16 8 = 24 := by decide
 have j2 : ∀ b : Bool, (b = true ↔ (h = true ∨ s = true)) → Ev (fun k => parts_Round.j2 k neg x mode n e q h s 0 b) (rfin neg e (q, h, s) (decide (n + x - 1 < -1022)) mode) := by
  intro b hb
  cases b
  ·
   refine Ev.step (f := fun k => parts_Round.j3 k neg mode e q h s 0) (fun k => ?_) (j3 0 ?_)
   ·
    simp only [parts_Round.j2]
    rw [if_neg (by decide)]
   ·
    rw [if_neg (fun hc => Bool.false_ne_true (hb.2 hc))]
  ·
   by_cases ht : n + x - 1 < -1022
   ·
    refine Ev.step (f := fun k => parts_Round.j3 k neg mode e q h s 24) (fun k => ?_) (j3 24 ?_)
    ·
     simp only [parts_Round.j2]
     rw [if_pos trivial, hw1, hw2, if_pos (by omega), e24]
    ·
     rw [if_pos (hb.1 rfl), if_pos (decide_eq_true ht)]
   ·
    refine Ev.step (f := fun k => parts_Round.j3 k neg mode e q h s 16) (fun k => ?_) (j3 16 ?_)
    ·
     simp only [parts_Round.j2]
     rw [if_pos trivial, hw1, hw2, if_neg (by omega)]
    ·
     rw [if_pos (hb.1 rfl), if_neg (by simp; omega)]
 cases h
 ·
  refine Ev.step (f := fun k => parts_Round.j2 k neg x mode n e q false s 0 s) (fun k => ?_) (j2 s (by simp))
  simp only [parts_Round.j1]
  rw [if_neg (by decide)]
 ·
  refine Ev.step (f := fun k => parts_Round.j2 k neg x mode n e q true s 0 true) (fun k => ?_) (j2 true (by simp))
  simp only [parts_Round.j1]
  rw [if_pos trivial]
def rclamp (x : Int) : Int := mn (mx x (-16384)) 16384
theorem rclamp_range (x : Int) : -16384 ≤ rclamp x ∧ rclamp x ≤ 16384 := by unfold rclamp mn mx; split <;> split <;> omega
theorem rclamp_id {x : Int} (h0 : -16384 ≤ x) (h1 : x ≤ 16384) : rclamp x = x := by unfold rclamp mn mx; split <;> split <;> omega
theorem round_raw (neg : Bool) {hi lo : Int} (x : Int) (more : Bool) (mode : Int) (h0 : 0 ≤ hi) (h1 : hi < 18446744073709551616) (l0 : 0 ≤ lo) (l1 : lo < 18446744073709551616) (hW : 0 < hi * 18446744073709551616 + lo) :
  Ev (fun k => parts_Round.f k neg hi lo x more mode) (rfin neg (rexp (bitsOf (hi * 18446744073709551616 + lo)) (rclamp x))
   ((qx (hi * 18446744073709551616 + lo) (rclamp x) (rexp (bitsOf (hi * 18446744073709551616 + lo)) (rclamp x))).1, (qx (hi * 18446744073709551616 + lo) (rclamp x) (rexp (bitsOf (hi * 18446744073709551616 + lo)) (rclamp x))).2.1,
    (qx (hi * 18446744073709551616 + lo) (rclamp x) (rexp (bitsOf (hi * 18446744073709551616 + lo)) (rclamp x))).2.2 || (more && decide (55 ≤ bitsOf (hi * 18446744073709551616 + lo) ∨ rclamp x ≤ -1080))) (decide (bitsOf (hi * 18446744073709551616 + lo) + rclamp x - 1 < -1022)) mode) := by
 have hc := rclamp_range x
 have hp := bitsOf_pos hW
 have e128 : (2 : Int) ^ 128 = 18446744073709551616 * 18446744073709551616 := by decide
 have hle : bitsOf (hi * 18446744073709551616 + lo) ≤ 128 := bitsOf_le (by omega) (n := 128) (by rw [e128]; omega)
 have hl := len_some h0 h1 l0 l1
 have hcut := fun e he => cut_qx h0 h1 l0 l1 (rclamp x) e he hW (by omega) (by omega)
 have hlt := fun e he => qx_lt (N := hi * 18446744073709551616 + lo) (x := rclamp x) (e := e) (by omega) he
 unfold parts_Round.f
 rw [hl]
 simp only [Option.bind_some]
 generalize hi * 18446744073709551616 + lo = W at *
 have hr : mn (mx x (-16384)) 16384 = rclamp x := rfl
 rw [hr]
 generalize hn : bitsOf W = n at *
 generalize rclamp x = y at *
 have hE := rexp_ge n y
 have he : mx (wrap64 (wrap64 (wrap64 (y + n) - 1) - 52)) (-1074) = rexp n y := by
  rw [w64 (x := y + n) (by omega) (by omega), w64 (x := y + n - 1) (by omega) (by omega), w64 (by omega) (by omega)]
  unfold mx rexp
  split <;> split <;> omega
 have hE2 : rexp n y ≤ 100000 := by omega
 have j0 : ∀ m : Bool, Ev (fun k => parts_Round.j0 k neg y m mode n hi lo) (rfin neg (rexp n y) ((qx W y (rexp n y)).1, (qx W y (rexp n y)).2.1, (qx W y (rexp n y)).2.2 || m) (decide (n + y - 1 < -1022)) mode) := by
  intro m
  have hq := hlt (rexp n y) (by omega)
  refine Ev.step (f := fun k => (parts_wide_cut.f k hi lo (rexp n y - y)).bind fun b => if b.2.2 = true then parts_Round.j1 k neg y mode n (rexp n y) b.1 b.2.1 true else parts_Round.j1 k neg y mode n (rexp n y) b.1 b.2.1 m) (fun k => ?_) ?_
  ·
   simp only [parts_Round.j0]
   rw [he, w64 (by omega) (by omega)]
  ·
   refine Ev.bind (hcut (rexp n y) (by omega) (by omega) (by omega)) ?_
   generalize qx W y (rexp n y) = p at *
   obtain ⟨q, h, s⟩ := p
   simp only at hq ⊢
   cases s
   ·
    refine Ev.congr (fun k => if_neg (by decide)) ?_
    have := round_tail neg y n mode (rexp n y) q h m hq.1 hq.2 (by omega) (by omega) (by omega) (by omega) (by omega) (by omega)
    simpa using this
   ·
    refine Ev.congr (fun k => if_pos rfl) ?_
    have := round_tail neg y n mode (rexp n y) q h true hq.1 hq.2 (by omega) (by omega) (by omega) (by omega) (by omega) (by omega)
    simpa using this
 refine Ev.congr (fun k => if_neg (by omega)) ?_
 cases more
 ·
  refine Ev.congr (fun k => if_neg (by decide)) ?_
  have := j0 false
  simpa using this
 ·
  refine Ev.congr (fun k => if_pos rfl) ?_
  by_cases c : n ≥ 55
  ·
   refine Ev.congr (fun k => if_pos c) ?_
   have := j0 true
   rw [decide_eq_true (.inl (by omega))]
   simpa using this
  ·
   refine Ev.congr (fun k => if_neg c) ?_
   have := j0 (decide (y ≤ -1080))
   have e : (decide (55 ≤ n ∨ y ≤ -1080)) = decide (y ≤ -1080) := decide_eq_decide.2 ⟨fun h => by omega, fun h => .inr h⟩
   rw [e]
   simpa using this
end Go.Proofs.YtjgdpjbkmcjbcaaDoor.PG
end
