/- Parts of a proof. -/
import Derived.WalkSpells
import Derived.Lib.SliceRun
import Derived.Test.YtpdjahhimmaonaaDoorZDumpBack41
import Derived.Lib.Mul64
import Derived.Laws.Bits64b
import Derived.Lib.Hide
import Derived.WalkSmall
import Derived.Lib.EndianBits
section
namespace Go.Proofs.YtpdjahhimmaonaaDoor.Flt
open Go.Proofs.YtpdjahhimmaonaaDoor.Num
set_option linter.unusedVariables false
set_option linter.unusedSimpArgs false
def up2 (a : Int) : Int := 2 ^ a.toNat
theorem up2_pos (a : Int) : 0 < up2 a := two_pow_pos _
theorem up2_nat (n : Nat) : up2 (n : Int) = 2 ^ n := by unfold up2; rw [Int.toNat_natCast]
theorem up2_neg {a : Int} (h : a ≤ 0) : up2 a = 1 := by unfold up2; rw [show a.toNat = 0 by omega]; rfl
theorem up2_add {a b : Int} (ha : 0 ≤ a) (hb : 0 ≤ b) : up2 (a + b) = up2 a * up2 b := by
  unfold up2
  rw [show (a + b).toNat = a.toNat + b.toNat by omega, Int.pow_add]
theorem up2_mono {a b : Int} (h : a ≤ b) : up2 a ≤ up2 b := two_pow_mono (by omega)
theorem up2_one : up2 1 = 2 := rfl
theorem up2_succ {a : Int} (ha : 0 ≤ a) : up2 (a + 1) = 2 * up2 a := by rw [up2_add ha (by omega), up2_one, Int.mul_comm]
def qhs (A D : Int) : Int × Bool × Bool := (A / D, decide (D ≤ 2 * (A % D)), decide (A % D ≠ 0 ∧ 2 * (A % D) ≠ D))
theorem qhs_scale {A D c : Int} (hc : 0 < c) : qhs (c * A) (c * D) = qhs A D := by
  unfold qhs
  rw [Int.mul_ediv_mul_of_pos _ _ hc, Int.mul_emod_mul_of_pos _ _ hc]
  have e : 2 * (c * (A % D)) = c * (2 * (A % D)) := by grind
  rw [e]
  congr 1
  congr 1
  · exact decide_eq_decide.2 ⟨fun h => Int.le_of_mul_le_mul_left h hc, fun h => Int.mul_le_mul_of_nonneg_left h (by omega)⟩
  · refine decide_eq_decide.2 ⟨fun ⟨h1, h2⟩ => ⟨fun h => h1 (by rw [h, Int.mul_zero]), fun h => h2 (by rw [h])⟩, fun ⟨h1, h2⟩ => ⟨fun h => h1 ?_, fun h => h2 ?_⟩⟩
    · rcases Int.mul_eq_zero.1 h with h | h
      · omega
      · exact h
    · exact Int.eq_of_mul_eq_mul_left (by omega) h
theorem qhs_one (A : Int) : qhs A 1 = (A, false, false) := by
  unfold qhs
  rw [Int.ediv_one, Int.emod_one]
  rfl
def qx (N x e : Int) : Int × Bool × Bool := qhs (N * up2 (x - e)) (up2 (e - x))
theorem qx_shift (N x e : Int) (k : Nat) : qx (N * 2 ^ k) (x - k) e = qx N x e := by
  unfold qx
  by_cases h : e ≤ x - k
  · have e1 : up2 (x - k - e) * 2 ^ k = up2 (x - e) := by
      have := up2_add (a := x - k - e) (b := (k : Int)) (by omega) (by omega)
      rw [up2_nat] at this
      rw [← this]; congr 1; omega
    rw [up2_neg (a := e - (x - k)) (by omega), up2_neg (a := e - x) (by omega), ← e1]
    congr 1
    grind
  · by_cases h2 : e ≤ x
    · have e1 : up2 (x - e) * up2 (e - (x - k)) = 2 ^ k := by
        have := up2_add (a := x - e) (b := e - (x - k)) (by omega) (by omega)
        rw [← this, ← up2_nat]; congr 1; omega
      rw [up2_neg (a := x - k - e) (by omega), up2_neg (a := e - x) (by omega), ← e1]
      have := qhs_scale (A := N * up2 (x - e)) (D := 1) (up2_pos (e - (x - k)))
      rw [← this]
      congr 1
      · grind
      · grind
    · have e1 : up2 (e - (x - k)) = up2 (e - x) * 2 ^ k := by
        have := up2_add (a := e - x) (b := (k : Int)) (by omega) (by omega)
        rw [up2_nat] at this
        rw [← this]; congr 1; omega
      rw [up2_neg (a := x - k - e) (by omega), up2_neg (a := x - e) (by omega), e1]
      have := qhs_scale (A := N * 1) (D := up2 (e - x)) (two_pow_pos k)
      rw [← this]
      congr 1
      · grind
      · grind
theorem qhs_sticky {W K t D : Int} (hK : 0 < K) (h0 : 0 ≤ t) (ht : t < K) (hD : 0 < D) (he : t ≠ 0 → D % 2 = 0) :
    qhs (K * W + t) (K * D) = ((qhs W D).1, (qhs W D).2.1, (qhs W D).2.2 || decide (t ≠ 0)) := by
  by_cases hz : t = 0
  · subst hz
    rw [Int.add_zero, qhs_scale hK]
    simp
  · have hev := he hz
    have hm0 := Int.emod_nonneg W (show D ≠ 0 by omega)
    have hm1 := Int.emod_lt_of_pos W hD
    have hdm := Int.emod_add_mul_ediv W D
    generalize hr : W % D = r at *
    generalize hq : W / D = q at *
    have hlt : K * r + t < K * D := by
      have : K * r ≤ K * (D - 1) := Int.mul_le_mul_of_nonneg_left (by omega) (by omega)
      rw [Int.mul_sub] at this
      omega
    have hnn : 0 ≤ K * r := Int.mul_nonneg (by omega) hm0
    have e : K * W + t = (K * r + t) + (K * D) * q := by rw [← hdm]; grind
    have ed : (K * W + t) / (K * D) = q := by
      rw [e, Int.add_mul_ediv_left _ _ (by have := Int.mul_pos hK hD; omega), Int.ediv_eq_zero_of_lt (by omega) hlt, Int.zero_add]
    have em : (K * W + t) % (K * D) = K * r + t := by
      rw [e, Int.add_mul_emod_self_left, Int.emod_eq_of_lt (by omega) hlt]
    unfold qhs
    rw [ed, em, hr, hq]
    obtain ⟨d2, hd2⟩ : ∃ d2, D = 2 * d2 := ⟨D / 2, by omega⟩
    subst hd2
    congr 1
    congr 1
    · refine decide_eq_decide.2 ⟨fun h => ?_, fun h => ?_⟩
      · by_cases hc : d2 ≤ r
        · omega
        · have : K * r ≤ K * (d2 - 1) := Int.mul_le_mul_of_nonneg_left (by omega) (by omega)
          rw [Int.mul_sub] at this
          have e2 : K * (2 * d2) = 2 * (K * d2) := by grind
          omega
      · have : K * d2 ≤ K * r := Int.mul_le_mul_of_nonneg_left (by omega) (by omega)
        have e2 : K * (2 * d2) = 2 * (K * d2) := by grind
        omega
    · rw [decide_eq_true hz, Bool.or_true, decide_eq_true_eq]
      refine ⟨by omega, fun h => ?_⟩
      have e2 : K * (2 * d2) = 2 * (K * d2) := by grind
      rw [e2] at h
      have h3 : K * (d2 - r) = t := by rw [Int.mul_sub]; omega
      by_cases hc : d2 - r ≤ 0
      · have : K * (d2 - r) ≤ K * 0 := Int.mul_le_mul_of_nonneg_left hc (by omega)
        omega
      · have : K * 1 ≤ K * (d2 - r) := Int.mul_le_mul_of_nonneg_left (by omega) (by omega)
        omega
theorem qx_sticky {N : Int} (hN : 0 ≤ N) (x e : Int) (k : Nat) (he : N % 2 ^ k ≠ 0 → x + k < e) :
    qx N x e = ((qx (N / 2 ^ k) (x + k) e).1, (qx (N / 2 ^ k) (x + k) e).2.1, (qx (N / 2 ^ k) (x + k) e).2.2 || decide (N % 2 ^ k ≠ 0)) := by
  have hK := two_pow_pos k
  have hdm := Int.emod_add_mul_ediv N (2 ^ k)
  have h0 := Int.emod_nonneg N (show (2 : Int) ^ k ≠ 0 by omega)
  have h1 := Int.emod_lt_of_pos N hK
  by_cases hz : N % 2 ^ k = 0
  · have hs := qx_shift (N / 2 ^ k) (x + k) e k
    rw [show x + (k : Int) - k = x by omega] at hs
    have e1 : N / 2 ^ k * 2 ^ k = N := by rw [hz] at hdm; rw [Int.mul_comm]; omega
    rw [e1] at hs
    rw [hs]
    simp [hz]
  · have hlt := he hz
    unfold qx
    rw [up2_neg (a := x - e) (by omega), up2_neg (a := x + k - e) (by omega)]
    have e1 : up2 (e - x) = 2 ^ k * up2 (e - (x + k)) := by
      have := up2_add (a := (k : Int)) (b := e - (x + k)) (by omega) (by omega)
      rw [up2_nat] at this
      rw [← this]; congr 1; omega
    have hs := qhs_sticky (W := N / 2 ^ k) (K := 2 ^ k) (t := N % 2 ^ k) (D := up2 (e - (x + k))) hK h0 h1 (up2_pos _) (fun _ => by
      rw [show e - (x + k) = (e - (x + k) - 1) + 1 by omega, up2_succ (by omega)]
      omega)
    rw [show (2 : Int) ^ k * (N / 2 ^ k) + N % 2 ^ k = N by omega] at hs
    rw [e1, Int.mul_one, Int.mul_one, hs]
theorem bitsOf_mul_pow {W : Int} (hW : 0 < W) (k : Nat) : bitsOf (W * 2 ^ k) = bitsOf W + k := by
  obtain ⟨_, h1, h2, h3⟩ := bitsOf_spec (v := W) (by omega)
  have hp := bitsOf_pos hW
  refine (bitsOf_eq ⟨Int.mul_nonneg (by omega) (Int.le_of_lt (two_pow_pos k)), by omega, ?_, .inr ?_⟩).symm
  · rw [show (bitsOf W + k).toNat = (bitsOf W).toNat + k by omega, Int.pow_add]
    exact Int.mul_lt_mul_of_pos_right h2 (two_pow_pos k)
  · rw [show (bitsOf W + k).toNat - 1 = ((bitsOf W).toNat - 1) + k by omega, Int.pow_add]
    exact Int.mul_le_mul_of_nonneg_right (h3.resolve_left (by omega)) (Int.le_of_lt (two_pow_pos k))
theorem bitsOf_cut {N : Int} (k : Nat) (h : 0 < N / 2 ^ k) : bitsOf N = bitsOf (N / 2 ^ k) + k := by
  have hK := two_pow_pos k
  have hdm := Int.emod_add_mul_ediv N (2 ^ k)
  have h0 := Int.emod_nonneg N (show (2 : Int) ^ k ≠ 0 by omega)
  have h1 := Int.emod_lt_of_pos N hK
  obtain ⟨g0, g1, g2, g3⟩ := bitsOf_spec (v := N / 2 ^ k) (by omega)
  have hp := bitsOf_pos h
  generalize N / 2 ^ k = W at *
  generalize N % 2 ^ k = t at *
  have hWK : 0 ≤ 2 ^ k * W := Int.mul_nonneg (by omega) g0
  refine (bitsOf_eq ⟨by omega, by omega, ?_, .inr ?_⟩).symm
  · rw [show (bitsOf W + k).toNat = (bitsOf W).toNat + k by omega, Int.pow_add]
    have : 2 ^ k * (W + 1) ≤ 2 ^ k * 2 ^ (bitsOf W).toNat := Int.mul_le_mul_of_nonneg_left (by omega) (by omega)
    rw [Int.mul_add, Int.mul_one, Int.mul_comm (2 ^ k) (2 ^ _)] at this
    omega
  · rw [show (bitsOf W + k).toNat - 1 = k + ((bitsOf W).toNat - 1) by omega, Int.pow_add]
    have : 2 ^ k * 2 ^ ((bitsOf W).toNat - 1) ≤ 2 ^ k * W := Int.mul_le_mul_of_nonneg_left (g3.resolve_left (by omega)) (by omega)
    omega
theorem bitsOf_ge {v : Int} {n : Nat} (h : 2 ^ n ≤ v) : (n : Int) + 1 ≤ bitsOf v := by
  have h0 : 0 < v := by have := two_pow_pos n; omega
  have h2 := bitsOf_lt_pow (v := v) (by omega)
  have := two_pow_lt_iff.1 (Int.lt_of_le_of_lt h h2)
  have := bitsOf_nonneg v
  omega
theorem bitsOf_low {v : Int} (h : 0 < v) : 2 ^ ((bitsOf v).toNat - 1) ≤ v := by
  obtain ⟨_, _, _, h3⟩ := bitsOf_spec (v := v) (by omega)
  exact h3.resolve_left (by have := bitsOf_pos h; omega)
def rup (neg : Bool) (q : Int) (h s : Bool) (mode : Int) : Bool :=
  if mode = 1 then h else if mode = 2 then false else if mode = 3 then !neg && (h || s) else if mode = 4 then neg && (h || s) else h && (s || decide (q % 2 = 1))
def rzero (neg : Bool) : Int := if neg = true then 9223372036854775808 else 0
def rinf (neg : Bool) : Int := rzero neg + 9218868437227405312
def rover (neg : Bool) (mode : Int) : Int × Int :=
  if mode = 2 ∨ (mode = 3 ∧ neg = true) ∨ (mode = 4 ∧ neg = false) then (rinf neg - 1, 20) else (rinf neg, 20)
def rput (neg : Bool) (q e : Int) : Int := if q < 4503599627370496 then rzero neg + q else rzero neg + (e + 1075) * 4503599627370496 + (q - 4503599627370496)
def rfin (neg : Bool) (e : Int) (p : Int × Bool × Bool) (tiny : Bool) (mode : Int) : Int × Int :=
  let u := rup neg p.1 p.2.1 p.2.2 mode
  let q := if u = true then p.1 + 1 else p.1
  let fl := if p.2.1 = true ∨ p.2.2 = true then (if tiny = true then 24 else 16) else 0
  let q2 := if 9007199254740992 ≤ q then q / 2 else q
  let e2 := if 9007199254740992 ≤ q then e + 1 else e
  if 4503599627370496 ≤ q2 ∧ 971 < e2 then rover neg mode else (rput neg q2 e2, fl)
def rexp (n x : Int) : Int := if n + x - 53 < -1074 then -1074 else n + x - 53
def rnd (neg : Bool) (N x mode : Int) : Int × Int :=
  rfin neg (rexp (bitsOf N) x) (qx N x (rexp (bitsOf N) x)) (decide (bitsOf N + x - 1 < -1022)) mode
theorem rexp_ge (n x : Int) : -1074 ≤ rexp n x ∧ n + x - 53 ≤ rexp n x ∧ (rexp n x = -1074 ∨ rexp n x = n + x - 53) := by unfold rexp; split <;> omega
theorem rnd_sticky (neg : Bool) {N : Int} (hN : 0 < N) (x : Int) (k : Nat) (mode : Int) (hW : 0 < N / 2 ^ k) (hm : N % 2 ^ k ≠ 0 → 55 ≤ bitsOf (N / 2 ^ k) ∨ x + k ≤ -1080) :
    rnd neg N x mode = rfin neg (rexp (bitsOf (N / 2 ^ k)) (x + k)) ((qx (N / 2 ^ k) (x + k) (rexp (bitsOf (N / 2 ^ k)) (x + k))).1, (qx (N / 2 ^ k) (x + k) (rexp (bitsOf (N / 2 ^ k)) (x + k))).2.1, (qx (N / 2 ^ k) (x + k) (rexp (bitsOf (N / 2 ^ k)) (x + k))).2.2 || decide (N % 2 ^ k ≠ 0))
      (decide (bitsOf (N / 2 ^ k) + (x + k) - 1 < -1022)) mode := by
  have hb := bitsOf_cut k hW
  have he : bitsOf N + x = bitsOf (N / 2 ^ k) + (x + k) := by omega
  have hx : rexp (bitsOf N) x = rexp (bitsOf (N / 2 ^ k)) (x + k) := by unfold rexp; rw [he]
  unfold rnd
  rw [hx, he, qx_sticky (by omega) x _ k (fun h => by have := rexp_ge (bitsOf (N / 2 ^ k)) (x + k); have := hm h; omega)]
theorem rnd_shift (neg : Bool) {W : Int} (hW : 0 < W) (x : Int) (k : Nat) (mode : Int) : rnd neg (W * 2 ^ k) (x - k) mode = rnd neg W x mode := by
  have hb := bitsOf_mul_pow hW k
  have he : bitsOf (W * 2 ^ k) + (x - k) = bitsOf W + x := by omega
  have hx : rexp (bitsOf (W * 2 ^ k)) (x - k) = rexp (bitsOf W) x := by unfold rexp; rw [he]
  unfold rnd
  rw [hx, he, qx_shift]
theorem ad_lt {N x e m : Int} (hN : 0 ≤ N) (hm : 0 ≤ m) (he : bitsOf N + x - m ≤ e) : N * up2 (x - e) < up2 m * up2 (e - x) := by
  have hA := up2_pos (x - e)
  have h2 := bitsOf_lt_pow hN
  have hb := bitsOf_nonneg N
  have hN2 : N < up2 (bitsOf N) := h2
  have h3 : N * up2 (x - e) < up2 (bitsOf N) * up2 (x - e) := Int.mul_lt_mul_of_pos_right hN2 hA
  by_cases hc : e ≤ x
  · rw [← up2_add hb (by omega)] at h3
    rw [up2_neg (a := e - x) (by omega), Int.mul_one]
    exact Int.lt_of_lt_of_le h3 (up2_mono (by omega))
  · rw [up2_neg (a := x - e) (by omega), Int.mul_one] at h3 ⊢
    rw [Int.mul_one] at h3
    rw [← up2_add (by omega) (by omega)]
    exact Int.lt_of_lt_of_le h3 (up2_mono (by omega))
theorem ad_ge {N x e m : Int} (hN : 0 < N) (hm : 0 ≤ m) (he : e ≤ bitsOf N + x - 1 - m) : up2 m * up2 (e - x) ≤ N * up2 (x - e) := by
  have hA := up2_pos (x - e)
  have hb := bitsOf_pos hN
  have hl := bitsOf_low hN
  have hN2 : up2 (bitsOf N - 1) ≤ N := by unfold up2; rw [show (bitsOf N - 1).toNat = (bitsOf N).toNat - 1 by omega]; exact hl
  have h3 : up2 (bitsOf N - 1) * up2 (x - e) ≤ N * up2 (x - e) := Int.mul_le_mul_of_nonneg_right hN2 (by omega)
  by_cases hc : e ≤ x
  · rw [← up2_add (by omega) (by omega)] at h3
    rw [up2_neg (a := e - x) (by omega), Int.mul_one]
    exact Int.le_trans (up2_mono (by omega)) h3
  · rw [up2_neg (a := x - e) (by omega), Int.mul_one, Int.mul_one] at h3
    rw [up2_neg (a := x - e) (by omega), Int.mul_one, ← up2_add (by omega) (by omega)]
    exact Int.le_trans (up2_mono (by omega)) h3
theorem qx_nonneg {N x e : Int} (hN : 0 ≤ N) : 0 ≤ (qx N x e).1 := by
  have hD := up2_pos (e - x)
  have hA := up2_pos (x - e)
  exact Int.ediv_nonneg (Int.mul_nonneg hN (by omega)) (by omega)
theorem qx_lt {N x e : Int} (hN : 0 ≤ N) (he : bitsOf N + x - 53 ≤ e) : 0 ≤ (qx N x e).1 ∧ (qx N x e).1 < 9007199254740992 :=
  ⟨qx_nonneg hN, Int.ediv_lt_of_lt_mul (up2_pos _) (ad_lt hN (m := 53) (by omega) he)⟩
theorem qx_ge {N x : Int} (hN : 0 < N) : 4503599627370496 ≤ (qx N x (bitsOf N + x - 53)).1 :=
  Int.le_ediv_of_mul_le (up2_pos _) (ad_ge hN (m := 52) (by omega) (by omega))
end Go.Proofs.YtpdjahhimmaonaaDoor.Flt
end
section
namespace Go.Proofs.YtpdjahhimmaonaaDoor.PE
open Go.RowKit Go.Proofs.YtpdjahhimmaonaaDoorW.PrintWords Go.Proofs.YtpdjahhimmaonaaDoorW.PrintLast Go.Proofs.YtpdjahhimmaonaaDoor.Num
set_option linter.unusedVariables false
set_option linter.unusedSimpArgs false
theorem same_loop (a b : List Int) (hl : a.length = b.length) (hb : a.length ≤ 4611686018427387904) : ∀ (d j : Nat), a.length = j + d → Ev (fun k => vernierref01_Same.l0 k a b (j : Int)) (decide (a.drop j = b.drop j))
  | 0, j, hj => by
    refine Ev.step (f := fun _ => some _) (fun k => ?_) (Ev.now _)
    simp only [vernierref01_Same.l0]
    rw [if_neg (by omega), List.drop_of_length_le (by omega), List.drop_of_length_le (by omega)]
    simp
  | d + 1, j, hj => by
    have ew : wrap64 ((j : Int) + 1) = ((j + 1 : Nat) : Int) := by rw [w64 (by omega) (by omega)]; omega
    have ea : a.drop j = a.getD j 0 :: a.drop (j + 1) := by rw [List.drop_eq_getElem_cons (by omega), List.getD_eq_getElem?_getD, List.getElem?_eq_getElem (by omega)]; rfl
    have eb : b.drop j = b.getD j 0 :: b.drop (j + 1) := by rw [List.drop_eq_getElem_cons (by omega), List.getD_eq_getElem?_getD, List.getElem?_eq_getElem (by omega)]; rfl
    rw [ea, eb]
    by_cases h : a.getD j 0 = b.getD j 0
    · have e : (a.getD j 0 :: a.drop (j + 1) = b.getD j 0 :: b.drop (j + 1)) ↔ (a.drop (j + 1) = b.drop (j + 1)) := by rw [h]; simp
      rw [decide_eq_decide.2 e]
      refine Ev.step (f := fun k => vernierref01_Same.l0 k a b ((j + 1 : Nat) : Int)) (fun k => ?_) (same_loop a b hl hb d (j + 1) (by omega))
      simp only [vernierref01_Same.l0]
      rw [if_pos (by omega), if_pos (by omega), if_pos (by omega), rd_nat, rd_nat, if_pos h, ew]
    · have e : decide (a.getD j 0 :: a.drop (j + 1) = b.getD j 0 :: b.drop (j + 1)) = false := by
        apply decide_eq_false
        intro h2
        injection h2 with h3 _
        exact h h3
      rw [e]
      refine Ev.step (f := fun _ => some _) (fun k => ?_) (Ev.now _)
      simp only [vernierref01_Same.l0]
      rw [if_pos (by omega), if_pos (by omega), if_pos (by omega), rd_nat, rd_nat, if_neg h]
theorem same_ev (a b : List Int) (hb : a.length ≤ 4611686018427387904) : Ev (fun k => vernierref01_Same.f k a b) (decide (a = b)) := by
  unfold vernierref01_Same.f
  by_cases h : a.length = b.length
  · refine Ev.congr (fun k => if_pos (by omega)) ?_
    exact same_loop a b h hb a.length 0 (by omega)
  · refine Ev.congr (fun k => if_neg (by omega)) ?_
    have e : decide (a = b) = false := decide_eq_false (fun h2 => h (by rw [h2]))
    rw [e]
    exact Ev.now _
theorem same_true {a b : List Int} (h : a = b) (hb : a.length ≤ 4611686018427387904) : Ev (fun k => vernierref01_Same.f k a b) true := by
  have := same_ev a b hb
  rwa [decide_eq_true h] at this
end Go.Proofs.YtpdjahhimmaonaaDoor.PE
end
section
namespace Go.Proofs.YtpdjahhimmaonaaDoor.PE
open Go.RowKit Go.Proofs.YtpdjahhimmaonaaDoorW.PrintWords Go.Proofs.YtpdjahhimmaonaaDoorW.PrintLast Go.Proofs.YtpdjahhimmaonaaDoor.Num
set_option linter.unusedVariables false
set_option linter.unusedSimpArgs false
theorem bitLenAux_isBits : ∀ (f x : Nat), x < 2 ^ f → IsBits (x : Int) (Lib.bitLenAux f x)
  | 0, x, h => by
    obtain rfl : x = 0 := by simpa using h
    exact isBits_zero
  | f + 1, x, h => by
    simp only [Lib.bitLenAux]
    split
    · rename_i e
      subst e
      exact isBits_zero
    · rename_i e
      have ih := bitLenAux_isBits f (x / 2) (by rw [Nat.pow_succ] at h; omega)
      have := IsBits.half (v := (x : Int)) (n := Lib.bitLenAux f (x / 2)) (by omega) (by
        have e2 : ((x : Int) / 2) = ((x / 2 : Nat) : Int) := by omega
        rw [e2]
        exact ih)
      have e3 : (((1 + Lib.bitLenAux f (x / 2) : Nat)) : Int) = ((Lib.bitLenAux f (x / 2) : Nat) : Int) + 1 := by omega
      rw [e3]
      exact this
theorem len64_some {x : Int} (h0 : 0 ≤ x) (h1 : x < 18446744073709551616) : bits_Len64.f x = some (bitsOf x) := by
  unfold bits_Len64.f
  rw [if_pos ⟨h0, by omega⟩]
  congr 1
  have := bitLenAux_isBits 64 x.toNat (by omega)
  rw [Int.toNat_of_nonneg h0] at this
  exact bitsOf_eq this
theorem bitsOf_top {l : List Int} (h : Dig 18446744073709551616 l) (hne : l ≠ []) (ht : l.getD (l.length - 1) 0 ≠ 0) : bitsOf (V 18446744073709551616 l) = 64 * (l.length - 1 : Nat) + bitsOf (l.getD (l.length - 1) 0) := by
  have g := h.getD B_pos (l.length - 1)
  have hp : 0 < bitsOf (l.getD (l.length - 1) 0) := bitsOf_pos (by omega)
  have := IsBits.last (B := 18446744073709551616) (s := 64) (by decide) h hne (bitsOf_spec g.1) (by omega)
  exact (bitsOf_eq this).symm
theorem bits_ev (a : List Int) (ha : Dig 18446744073709551616 a) (hl : a.length ≤ 35184372088832) : Ev (fun k => nat_Bits.f k a) (bitsOf (V 18446744073709551616 a)) := by
  unfold nat_Bits.f
  refine Ev.bind (size_ev a (by omega)) ?_
  have hs := szN_le a
  have hv := trim_val 18446744073709551616 a
  have hn := trim_nrm (B := 18446744073709551616) ha
  have ln : (trim a).length = szN a := by unfold trim; rw [List.length_take]; omega
  by_cases h0 : szN a = 0
  · refine Ev.congr (fun k => if_pos (by omega)) ?_
    have : trim a = [] := List.length_eq_zero_iff.1 (by omega)
    rw [← hv, this]
    exact Ev.now _
  · refine Ev.congr (fun k => if_neg (by omega)) ?_
    have e1 : wrap64 ((szN a : Int) - 1) = ((szN a - 1 : Nat) : Int) := by rw [w64 (by omega) (by omega)]; omega
    have ht : a.getD (szN a - 1) 0 ≠ 0 := (szN_top a).resolve_left h0
    have gt : (trim a).getD ((trim a).length - 1) 0 = a.getD (szN a - 1) 0 := by
      unfold trim
      rw [List.length_take, getD_take, Nat.min_eq_left hs, if_pos (by omega)]
    have bt := bitsOf_top hn.1 (by intro h; rw [h] at ln; simp at ln; omega) (by rw [gt]; exact ht)
    rw [gt, ln, hv] at bt
    have ga := ha.getD B_pos (szN a - 1)
    have b64 : bitsOf (a.getD (szN a - 1) 0) ≤ 64 := bitsOf_le ga.1 (n := 64) (by omega)
    have b0 := bitsOf_nonneg (a.getD (szN a - 1) 0)
    refine Ev.congr (f := fun _ => some (bitsOf (V 18446744073709551616 a))) (fun k => ?_) (Ev.now _)
    rw [e1, if_pos (by omega), if_pos (by omega), rd_nat, len64_some ga.1 ga.2]
    simp only [Option.bind_some]
    rw [w64 (x := 64 * ((szN a - 1 : Nat) : Int)) (by omega) (by omega), w64 (by omega) (by omega), bt]
end Go.Proofs.YtpdjahhimmaonaaDoor.PE
end
section
namespace Go.Proofs.YtpdjahhimmaonaaDoor.PE
open Go.RowKit Go.Proofs.YtpdjahhimmaonaaDoorW.PrintWords Go.Proofs.YtpdjahhimmaonaaDoorW.PrintLast Go.Proofs.YtpdjahhimmaonaaDoorW.PrintMore Go.Proofs.YtpdjahhimmaonaaDoor.Num
set_option linter.unusedVariables false
set_option linter.unusedSimpArgs false
theorem ediv_two {x y z : Int} (hy : 0 < y) : x / y / z = x / (y * z) := by rw [Int.ediv_ediv, if_neg (by omega), Int.sub_zero]
theorem two64 {s : Nat} (hs : s ≤ 64) : (2 : Int) ^ s * 2 ^ (64 - s) = 18446744073709551616 := by
  rw [← Int.pow_add, show s + (64 - s) = 64 by omega]
  decide
theorem mod_shift {P Q x : Int} (hP : 0 < P) (hQ : 0 < Q) (h : P * Q = 18446744073709551616) (h0 : 0 ≤ x) : x * P % 18446744073709551616 = P * (x % Q) := by
  have e := Int.emod_add_mul_ediv x Q
  have m0 := Int.emod_nonneg x (show Q ≠ 0 by omega)
  have m1 := Int.emod_lt_of_pos x hQ
  have e1 : x * P = P * (x % Q) + 18446744073709551616 * (x / Q) := by
    rw [← h]
    have : P * (x % Q + Q * (x / Q)) = P * x := by rw [e]
    grind
  rw [e1, Int.add_mul_emod_self_left, Int.emod_eq_of_lt (Int.mul_nonneg (by omega) m0)]
  have : P * (x % Q) ≤ P * (Q - 1) := Int.mul_le_mul_of_nonneg_left (by omega) (by omega)
  have e2 : P * (Q - 1) = 18446744073709551616 - P := by rw [Int.mul_sub, h, Int.mul_one]
  omega
theorem shl_u64 {x : Int} {s : Nat} (h : s ≤ 64) : shl .u64 x (s : Int) = x * 2 ^ s % 18446744073709551616 := by
  unfold shl
  rw [show IntKind.u64.bits = 64 from rfl, Int.toNat_natCast, Nat.min_eq_left h, IntKind.wrap_u64]
theorem shr_u64 {x : Int} {s : Nat} (h : s ≤ 64) : shr .u64 x (s : Int) = x / 2 ^ s := by
  unfold shr
  rw [show IntKind.u64.bits = 64 from rfl, Int.toNat_natCast, Nat.min_eq_left h]
theorem or_high {s : Nat} {x c : Int} (hx0 : 0 ≤ x) (hx : x < 18446744073709551616) (hm : x % 2 ^ s = 0) (hc0 : 0 ≤ c) (hc : c < 2 ^ s) (hc1 : c < 18446744073709551616) : Go.bits .or .u64 x c = x + c :=
  bits_join .u64 64 (by decide) wraps_u64 s x c hx0 hm hx hc0 hc hc1
theorem or_low {s : Nat} {x c : Int} (hx0 : 0 ≤ x) (hx : x < 18446744073709551616) (hm : x % 2 ^ s = 0) (hc0 : 0 ≤ c) (hc : c < 2 ^ s) (hc1 : c < 18446744073709551616) : Go.bits .or .u64 c x = c + x :=
  bits_join_low .u64 64 (by decide) wraps_u64 s c x hc0 hc hc1 hx0 hm hx
end Go.Proofs.YtpdjahhimmaonaaDoor.PE
end
