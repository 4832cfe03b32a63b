/- What dyadic's functions compute: numbers times powers of two, each told in one way. -/
import Derived.Test.YtjgdpjbkmcjbcaaDoorZDyadicRing49
namespace Go.Proofs.YtjgdpjbkmcjbcaaDoor.PG
open Go.RowKit Go.Proofs.YtjgdpjbkmcjbcaaDoorW.PrintWords Go.Proofs.YtjgdpjbkmcjbcaaDoorW.PrintLast Go.Proofs.YtjgdpjbkmcjbcaaDoorW.PrintMore Go.Proofs.YtjgdpjbkmcjbcaaDoor.Num Go.Proofs.YtjgdpjbkmcjbcaaDoor.Flt
set_option linter.unusedVariables false
set_option linter.unusedSimpArgs false
def t2F : Nat → Int → Nat
 | 0, _ => 0
 | f + 1, v => if v % 2 = 0 then t2F f (v / 2) + 1 else 0
def t2 (v : Int) : Nat := t2F v.toNat v
def od (v : Int) : Int := v / 2 ^ t2 v
theorem t2F_spec : ∀ (f : Nat) (v : Int), 0 < v → v.toNat ≤ f → ∃ m, 0 ≤ m ∧ Odd2 v (t2F f v) m
 | 0, v, h0, h1 => by omega
 | f + 1, v, h0, h1 => by
  unfold t2F
  by_cases h : v % 2 = 0
  ·
   rw [if_pos h]
   obtain ⟨m, hm, ho⟩ := t2F_spec f (v / 2) (by omega) (by omega)
   refine ⟨m, hm, ?_⟩
   unfold Odd2 at ho ⊢
   rw [Int.pow_succ, Int.mul_assoc, Int.mul_left_comm, ← ho]
   omega
  ·
   rw [if_neg h]
   refine ⟨v / 2, by omega, ?_⟩
   unfold Odd2
   rw [Int.pow_zero, Int.one_mul]
   omega
theorem t2_odd {v : Int} (h : 0 < v) : ∃ m, 0 ≤ m ∧ Odd2 v (t2 v) m := t2F_spec _ v h (Nat.le_refl _)
theorem t2_eq {v m : Int} {t : Nat} (hm : 0 ≤ m) (h : Odd2 v t m) : t2 v = t := by
 obtain ⟨m', _, h'⟩ := t2_odd (odd2_pos h hm)
 exact (h'.uniq h).1
theorem od_eq {v m : Int} {t : Nat} (hm : 0 ≤ m) (h : Odd2 v t m) : od v = 2 * m + 1 := by
 unfold od
 rw [t2_eq hm h]
 exact odd2_div h
theorem odd2_mul {v m : Int} {t : Nat} (h : Odd2 v t m) (k : Nat) : Odd2 (v * 2 ^ k) (t + k) m := by
 unfold Odd2 at h ⊢
 rw [h, Int.pow_add]
 grind
theorem t2_mul {v : Int} (h : 0 < v) (k : Nat) : t2 (v * 2 ^ k) = t2 v + k ∧ od (v * 2 ^ k) = od v := by
 obtain ⟨m, hm, ho⟩ := t2_odd h
 exact ⟨t2_eq hm (odd2_mul ho k), by rw [od_eq hm (odd2_mul ho k), od_eq hm ho]⟩
theorem od_val {v : Int} (h : 0 < v) : v = od v * 2 ^ t2 v ∧ 0 < od v ∧ od v ≤ v := by
 obtain ⟨m, hm, ho⟩ := t2_odd h
 have e := od_eq hm ho
 refine ⟨?_, by omega, ?_⟩
 ·
  rw [e]
  unfold Odd2 at ho
  rw [Int.mul_comm]
  exact ho
 ·
  unfold od
  exact Int.ediv_le_self _ (by omega)
theorem abs_mul_pow (z : Int) (k : Nat) : (((z * 2 ^ k).natAbs : Nat) : Int) = (z.natAbs : Int) * 2 ^ k := by
 rw [Int.natAbs_mul, Int.natCast_mul, Int.natAbs_of_nonneg (Int.le_of_lt (two_pow_pos k))]
def oz (z : Int) : Int := sv (decide (z < 0)) (od (z.natAbs : Int))
def dt (z x : Int) : Bool × List Int × Int × Int :=
 if z = 0 then (false, [], 0, 0) else dtold (decide (z < 0)) (dg 18446744073709551616 (od (z.natAbs : Int))) (wrap64 (x + t2 (z.natAbs : Int)))
theorem told_wh {s : Bool} {l : List Int} {z : Int} {n : Nat} (h : Wh s l z n) (hn : n ≤ 10000000) (x : Int) : Ev (fun k => dyadic_told.f k s l x) (dt z x) := by
 unfold dt
 by_cases hz : z = 0
 ·
  rw [if_pos hz]
  have := h.nm
  rw [hz] at this
  exact dtold0_ev this hn x
 ·
  rw [if_neg hz]
  obtain ⟨m, hm, ho⟩ := t2_odd (v := (z.natAbs : Int)) (by omega)
  have e := dtold_ev (s := s) h.nm hn ho hm x
  have hs : decide (z < 0) = s := by
   have hv := h.val
   cases s
   ·
    simp only [sv, Bool.false_eq_true, if_false] at hv
    exact decide_eq_false (by omega)
   ·
    simp only [sv, if_true] at hv
    exact decide_eq_true (by omega)
  rw [hs, od_eq hm ho]
  exact e
theorem mul_neg_iff' {z P : Int} (hp : 0 < P) : z * P < 0 ↔ z < 0 := by
 constructor
 ·
  intro h
  by_cases c : z < 0
  ·
   exact c
  ·
   have := Int.mul_nonneg (show 0 ≤ z by omega) (Int.le_of_lt hp)
   omega
 ·
  exact fun h => Int.mul_neg_of_neg_of_pos h hp
theorem dt_shift {z : Int} (hz : z ≠ 0) (x : Int) (k : Nat) : dt (z * 2 ^ k) (x - k) = dt z x := by
 have hp := two_pow_pos k
 have h1 : z * 2 ^ k ≠ 0 := Int.mul_ne_zero hz (by omega)
 have h2 := t2_mul (v := (z.natAbs : Int)) (by omega) k
 have h3 : decide (z * 2 ^ k < 0) = decide (z < 0) := decide_eq_decide.2 (mul_neg_iff' hp)
 unfold dt
 rw [if_neg h1, if_neg hz, abs_mul_pow, h2.1, h2.2, h3]
 congr 2
 push_cast
 omega
theorem oz_abs {z : Int} (hz : z ≠ 0) : ((oz z).natAbs : Int) = od (z.natAbs : Int) ∧ decide (oz z < 0) = decide (z < 0) ∧ oz z ≠ 0 := by
 have h := od_val (v := (z.natAbs : Int)) (by omega)
 unfold oz sv
 by_cases c : z < 0
 ·
  rw [decide_eq_true c, if_pos rfl]
  exact ⟨by omega, by rw [decide_eq_true (by omega)], by omega⟩
 ·
  rw [decide_eq_false c, if_neg (by decide)]
  exact ⟨by omega, by rw [decide_eq_false (by omega)], by omega⟩
theorem oz_val {z : Int} (hz : z ≠ 0) : z = oz z * 2 ^ t2 (z.natAbs : Int) := by
 have h := od_val (v := (z.natAbs : Int)) (by omega)
 have hp := two_pow_pos (t2 (z.natAbs : Int))
 generalize (2 : Int) ^ t2 (z.natAbs : Int) = P at *
 unfold oz sv
 by_cases c : z < 0
 ·
  rw [decide_eq_true c, if_pos rfl, Int.neg_mul, ← h.1]
  omega
 ·
  rw [decide_eq_false c, if_neg (by decide), ← h.1]
  omega
theorem dt_wz {z : Int} (hz : z ≠ 0) (x : Int) : dt z x = if dmay (wz (oz z)).2 (wrap64 (x + t2 (z.natAbs : Int))) then ((wz (oz z)).1, (wz (oz z)).2, wrap64 (x + t2 (z.natAbs : Int)), 0) else (false, [], 0, 4) := by
 obtain ⟨h1, h2, _⟩ := oz_abs hz
 unfold dt dtold wz
 rw [if_neg hz, h1, h2]
theorem t2_lt {v : Int} {n : Nat} (h0 : 0 < v) (h : v < 18446744073709551616 ^ n) : t2 v < 64 * n := by
 have hv := od_val h0
 have e1 : (18446744073709551616 : Int) ^ n = 2 ^ (64 * n) := by rw [show (18446744073709551616 : Int) = 2 ^ 64 by decide, ← Int.pow_mul]
 have hle : (2 : Int) ^ t2 v ≤ v := by
  have hp := two_pow_pos (t2 v)
  have := Int.mul_le_mul_of_nonneg_right (show (1 : Int) ≤ od v by omega) (Int.le_of_lt hp)
  rw [Int.one_mul, ← hv.1] at this
  exact this
 rw [e1] at h
 exact two_pow_lt_iff.1 (Int.lt_of_le_of_lt hle h)
def vl (z x : Int) : Int := z * up2 (x + 200000)
theorem vl_zero (x : Int) : vl 0 x = 0 := Int.zero_mul _
theorem vl_shift (z x : Int) (k : Nat) (h : -200000 ≤ x - k) : vl (z * 2 ^ k) (x - k) = vl z x := by
 unfold vl
 rw [show x + 200000 = (x - k + 200000) + (k : Int) by omega, up2_add (a := x - k + 200000) (by omega) (by omega), up2_nat]
 grind
theorem vl_up (z x : Int) (t : Nat) (h : -200000 ≤ x) : vl (z * 2 ^ t) x = vl z (x + t) := by
 have := vl_shift z (x + t) t (by omega)
 rwa [show x + (t : Int) - t = x by omega] at this
theorem vl_inj {z y x : Int} (h : vl z x = vl y x) : z = y := by
 unfold vl at h
 have := up2_pos (x + 200000)
 exact Int.eq_of_mul_eq_mul_right (by omega) h
theorem vl_add (z y x : Int) : vl (z + y) x = vl z x + vl y x := Int.add_mul _ _ _
theorem vl_level (z x m : Int) (hm : m ≤ x) (h : -200000 ≤ m) : vl (z * up2 (x - m)) m = vl z x := by
 obtain ⟨k, hk⟩ : ∃ k : Nat, x - m = k := ⟨(x - m).toNat, by omega⟩
 rw [hk, up2_nat]
 have := vl_up z m k h
 rwa [show m + (k : Int) = x by omega] at this
theorem vl_mul (z y x w : Int) (hx : -100000 ≤ x) (hw : -100000 ≤ w) : vl (z * y) (x + w) * up2 200000 = vl z x * vl y w := by
 unfold vl
 have : up2 (x + w + 200000) * up2 200000 = up2 (x + 200000) * up2 (w + 200000) := by
  rw [← up2_add (by omega) (by omega), ← up2_add (by omega) (by omega)]
  congr 1
  omega
 calc z * y * up2 (x + w + 200000) * up2 200000 = z * y * (up2 (x + w + 200000) * up2 200000) := by rw [Int.mul_assoc]
  _ = z * y * (up2 (x + 200000) * up2 (w + 200000)) := by rw [this]
  _ = z * up2 (x + 200000) * (y * up2 (w + 200000)) := by grind
theorem dt_vl {z y x w : Int} (h : vl z x = vl y w) (hx : -200000 ≤ x) (hw : -200000 ≤ w) : dt z x = dt y w := by
 have key : ∀ (z y x w : Int), x ≤ w → -200000 ≤ x → vl z x = vl y w → dt z x = dt y w := by
  intro z y x w hxw hx h
  obtain ⟨k, hk⟩ : ∃ k : Nat, w - x = k := ⟨(w - x).toNat, by omega⟩
  have e := vl_shift y w k (by omega)
  rw [show w - (k : Int) = x by omega] at e
  have hz : z = y * 2 ^ k := vl_inj (h.trans e.symm)
  by_cases h0 : y = 0
  ·
   have hz0 : z = 0 := by rw [hz, h0, Int.zero_mul]
   unfold dt
   rw [if_pos hz0, if_pos h0]
  ·
   have := dt_shift h0 w k
   rw [hz, show x = w - k by omega]
   exact this
 rcases Int.le_total x w with c | c
 ·
  exact key z y x w c hx h
 ·
  exact (key y z w x c hw h.symm).symm
theorem rdT0 (a b : S36) : rd_T36 [a, b] 0 = a := rfl
theorem rdT1 (a b : S36) : rd_T36 [a, b] 1 = b := rfl
theorem lenT (a b : S36) : (([a, b] : List S36).length : Int) = 2 := rfl
theorem w01 : wrap64 (0 + 1) = 1 := w64 (by decide) (by decide)
theorem w12 : wrap64 (1 + 1) = 2 := w64 (by decide) (by decide)
theorem checked_ok {s1 s2 : Bool} {l1 l2 : List Int} {e1 e2 : Int} (h1 : dmay l1 e1) (h2 : dmay l2 e2) : Ev (fun k => dyadic_checked.f k [(⟨s1, l1, e1⟩ : S36), (⟨s2, l2, e2⟩ : S36)]) 0 := by
 unfold dyadic_checked.f
 rw [lenT]
 refine Ev.step (f := fun k => dyadic_checked.l0 k [(⟨s1, l1, e1⟩ : S36), (⟨s2, l2, e2⟩ : S36)] 2 1) (fun k => ?_) (Ev.step (f := fun k => dyadic_checked.l0 k [(⟨s1, l1, e1⟩ : S36), (⟨s2, l2, e2⟩ : S36)] 2 2) (fun k => ?_) (Ev.step (f := fun _ => some 0) (fun k => ?_) (Ev.now _)))
 ·
  rw [dyadic_checked.l0, lenT, if_pos (by decide), if_pos (by decide), if_pos (by decide), rdT0, check_ok h1, Option.bind_some, if_pos rfl, w01]
 ·
  rw [dyadic_checked.l0, lenT, if_pos (by decide), if_pos (by decide), if_pos (by decide), rdT1, check_ok h2, Option.bind_some, if_pos rfl, w12]
 ·
  rw [dyadic_checked.l0, if_neg (by decide)]
theorem checked_no {s1 s2 : Bool} {l1 l2 : List Int} {e1 e2 : Int} (h : ¬ (dmay l1 e1 ∧ dmay l2 e2)) : Ev (fun k => dyadic_checked.f k [(⟨s1, l1, e1⟩ : S36), (⟨s2, l2, e2⟩ : S36)]) 9 := by
 unfold dyadic_checked.f
 rw [lenT]
 by_cases h1 : dmay l1 e1
 ·
  refine Ev.step (f := fun k => dyadic_checked.l0 k [(⟨s1, l1, e1⟩ : S36), (⟨s2, l2, e2⟩ : S36)] 2 1) (fun k => ?_) (Ev.step (f := fun _ => some 9) (fun k => ?_) (Ev.now _))
  ·
   rw [dyadic_checked.l0, lenT, if_pos (by decide), if_pos (by decide), if_pos (by decide), rdT0, check_ok h1, Option.bind_some, if_pos rfl, w01]
  ·
   rw [dyadic_checked.l0, lenT, if_pos (by decide), if_pos (by decide), if_pos (by decide), rdT1, check_no (fun h2 => h ⟨h1, h2⟩), Option.bind_some, if_neg (by decide)]
 ·
  refine Ev.step (f := fun _ => some 9) (fun k => ?_) (Ev.now _)
  rw [dyadic_checked.l0, lenT, if_pos (by decide), if_pos (by decide), if_pos (by decide), rdT0, check_no h1, Option.bind_some, if_neg (by decide)]
theorem mn_le' (a b : Int) : mn a b ≤ a ∧ mn a b ≤ b ∧ (mn a b = a ∨ mn a b = b) := by unfold mn; split <;> omega
theorem Wh.may {s l z e} (h : Wh s l z 1024) (h0 : -16384 ≤ e) (h1 : e ≤ 16384) : dmay l e := ⟨h0, h1, h.nm.len⟩
theorem sv_mul (s : Bool) (v p : Int) : sv s v * p = sv s (v * p) := by
 cases s
 ·
  rfl
 ·
  exact Int.neg_mul _ _
theorem Wh.shl {s l z n} (h : Wh s l z n) (k : Nat) (hn : n ≤ 1000000) (hk : k ≤ 65536) : ∃ l', Ev (fun i => natdiv_Shl.f i l (k : Int)) (l', 0) ∧ Wh s l' (z * 2 ^ k) (1025 + n) := by
 obtain ⟨e, n'⟩ := h.nm.Shl k (by omega) hk
 refine ⟨_, e, ?_⟩
 have hw := Wh.of (s := s) n'
 have hv : sv s (2 ^ k * (z.natAbs : Int)) = z * 2 ^ k := by
  rw [Int.mul_comm, ← sv_mul, ← h.val]
 rw [hv] at hw
 exact hw.mono (by omega)
theorem level_ev {s1 s2 : Bool} {l1 l2 : List Int} {z1 z2 e1 e2 : Int} (h1 : Wh s1 l1 z1 1024) (h2 : Wh s2 l2 z2 1024) (a0 : -16384 ≤ e1) (a1 : e1 ≤ 16384) (b0 : -16384 ≤ e2) (b1 : e2 ≤ 16384) :
  ∃ m1 m2, Ev (fun k => dyadic_level.f k s1 l1 e1 s2 l2 e2) (s1, m1, s2, m2, mn e1 e2) ∧ Wh s1 m1 (z1 * up2 (e1 - mn e1 e2)) 2049 ∧ Wh s2 m2 (z2 * up2 (e2 - mn e1 e2)) 2049 := by
 have hm := mn_le' e1 e2
 obtain ⟨j1, hj1⟩ : ∃ k : Nat, e1 - mn e1 e2 = k := ⟨(e1 - mn e1 e2).toNat, by omega⟩
 obtain ⟨j2, hj2⟩ : ∃ k : Nat, e2 - mn e1 e2 = k := ⟨(e2 - mn e1 e2).toNat, by omega⟩
 obtain ⟨m1, x1, w1⟩ := h1.shl j1 (by omega) (by omega)
 obtain ⟨m2, x2, w2⟩ := h2.shl j2 (by omega) (by omega)
 refine ⟨m1, m2, ?_, by rw [hj1, up2_nat]; exact w1, by rw [hj2, up2_nat]; exact w2⟩
 unfold dyadic_level.f
 rw [w64 (x := e1 - mn e1 e2) (by omega) (by omega), w64 (x := e2 - mn e1 e2) (by omega) (by omega), hj1, hj2]
 exact Ev.bind (g := fun _ => dyadic_signed.f s1 l1 e1) (a := (s1, l1)) (Ev.now _) (Ev.bind (g := fun _ => dyadic_signed.f s2 l2 e2) (a := (s2, l2)) (Ev.now _) (Ev.bind x1 (Ev.bind x2 (Ev.now _))))
theorem dadd_ev {s1 s2 : Bool} {l1 l2 : List Int} {z1 z2 e1 e2 : Int} (h1 : Wh s1 l1 z1 1024) (h2 : Wh s2 l2 z2 1024) (a0 : -16384 ≤ e1) (a1 : e1 ≤ 16384) (b0 : -16384 ≤ e2) (b1 : e2 ≤ 16384) :
  Ev (fun k => dyadic_Add.f k s1 l1 e1 s2 l2 e2) (dt (z1 * up2 (e1 - mn e1 e2) + z2 * up2 (e2 - mn e1 e2)) (mn e1 e2)) := by
 obtain ⟨m1, m2, x, w1, w2⟩ := level_ev h1 h2 a0 a1 b0 b1
 obtain ⟨x2, w3⟩ := w1.add 2049 w2 (by omega) (by omega) (by omega)
 unfold dyadic_Add.f
 exact Ev.bind (checked_ok (h1.may a0 a1) (h2.may b0 b1)) (Ev.congr (fun k => if_pos rfl) (Ev.bind x (Ev.bind x2 (Ev.bind (told_wh w3 (by omega) _) (Ev.now _)))))
theorem dadd_no {s1 s2 : Bool} {l1 l2 : List Int} {e1 e2 : Int} (h : ¬ (dmay l1 e1 ∧ dmay l2 e2)) : Ev (fun k => dyadic_Add.f k s1 l1 e1 s2 l2 e2) (false, [], 0, 9) := by
 unfold dyadic_Add.f
 exact Ev.bind (checked_no h) (Ev.congr (fun k => if_neg (by decide)) (Ev.now _))
theorem dmul_ev {s1 s2 : Bool} {l1 l2 : List Int} {z1 z2 e1 e2 : Int} (h1 : Wh s1 l1 z1 1024) (h2 : Wh s2 l2 z2 1024) (a0 : -16384 ≤ e1) (a1 : e1 ≤ 16384) (b0 : -16384 ≤ e2) (b1 : e2 ≤ 16384) :
  Ev (fun k => dyadic_Mul.f k s1 l1 e1 s2 l2 e2) (dt (z1 * z2) (e1 + e2)) := by
 obtain ⟨x2, w3⟩ := h1.mul h2 (by omega)
 have ht := told_wh w3 (by omega) (e1 + e2)
 unfold dyadic_Mul.f
 rw [w64 (x := e1 + e2) (by omega) (by omega)]
 refine Ev.bind (checked_ok (h1.may a0 a1) (h2.may b0 b1)) (Ev.congr (fun k => if_pos rfl) ?_)
 exact Ev.bind (g := fun _ => dyadic_signed.f s1 l1 e1) (a := (s1, l1)) (Ev.now _) (Ev.bind (g := fun _ => dyadic_signed.f s2 l2 e2) (a := (s2, l2)) (Ev.now _) (Ev.bind x2 (Ev.bind ht (Ev.now _))))
theorem dmul_no {s1 s2 : Bool} {l1 l2 : List Int} {e1 e2 : Int} (h : ¬ (dmay l1 e1 ∧ dmay l2 e2)) : Ev (fun k => dyadic_Mul.f k s1 l1 e1 s2 l2 e2) (false, [], 0, 9) := by
 unfold dyadic_Mul.f
 exact Ev.bind (checked_no h) (Ev.congr (fun k => if_neg (by decide)) (Ev.now _))
theorem vl_sum (z1 z2 e1 e2 : Int) (a0 : -16384 ≤ e1) (b0 : -16384 ≤ e2) : vl (z1 * up2 (e1 - mn e1 e2) + z2 * up2 (e2 - mn e1 e2)) (mn e1 e2) = vl z1 e1 + vl z2 e2 := by
 have hm := mn_le' e1 e2
 rw [vl_add, vl_level _ _ _ hm.1 (by omega), vl_level _ _ _ hm.2.1 (by omega)]
theorem dt_any_vl {z x y e : Int} {t n : Nat} (hx : -200000 ≤ x) (h : z = 0 ∧ y = 0 ∧ e = 0 ∨ y ≠ 0 ∧ z ≠ 0 ∧ z = y * 2 ^ t ∧ e = x + t ∧ t < 64 * n ∧ y = oz z) : vl y e = vl z x := by
 rcases h with ⟨rfl, rfl, rfl⟩ | ⟨_, _, h1, h2, _⟩
 ·
  rw [vl_zero, vl_zero]
 ·
  rw [h1, h2, vl_up _ _ _ hx]
theorem dof_ev {a e : Int} (h0 : -9223372036854775808 ≤ a) (h1 : a ≤ 9223372036854775807) (he : -16384 ≤ e) (he' : e ≤ 16384) : Ev (fun k => dyadic_Of.f k a e) (dt a e) := by
 obtain ⟨eo, wo⟩ := wof_ev h0 h1
 have ht := told_wh wo (by omega) e
 unfold dyadic_Of.f
 refine Ev.congr (fun k => if_neg (by omega)) ?_
 rw [decide_eq_false (show ¬ e > 16384 by omega)]
 exact Ev.step (f := _) (fun k => by rw [dyadic_Of.j0, if_neg (by decide)]) (Ev.bind eo (Ev.bind ht (Ev.now _)))
end Go.Proofs.YtjgdpjbkmcjbcaaDoor.PG
