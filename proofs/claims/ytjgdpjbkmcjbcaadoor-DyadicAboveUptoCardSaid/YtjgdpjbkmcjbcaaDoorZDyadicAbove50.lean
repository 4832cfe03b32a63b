/- Parts of a proof. -/
import Derived.Test.YtjgdpjbkmcjbcaaDoorZDyadicAbove49
section
namespace Go.Proofs.YtjgdpjbkmcjbcaaDoor.Flt
open Go.Proofs.YtjgdpjbkmcjbcaaDoor.Num
set_option linter.unusedVariables false
set_option linter.unusedSimpArgs false
def up2 (a : Int) : Int := 2 ^ a.toNat
theorem up2_pos (a : Int) : 0 < up2 a := two_pow_pos _
theorem up2_nat (n : Nat) : up2 (n : Int) = 2 ^ n := by unfold up2; rw [Int.toNat_natCast]
theorem up2_add {a b : Int} (ha : 0 ≤ a) (hb : 0 ≤ b) : up2 (a + b) = up2 a * up2 b := by
 unfold up2
 rw [show (a + b).toNat = a.toNat + b.toNat by omega, Int.pow_add]
theorem bitsOf_low {v : Int} (h : 0 < v) : 2 ^ ((bitsOf v).toNat - 1) ≤ v := by
 obtain ⟨_, _, _, h3⟩ := bitsOf_spec (v := v) (by omega)
 exact h3.resolve_left (by have := bitsOf_pos h; omega)
end Go.Proofs.YtjgdpjbkmcjbcaaDoor.Flt
end
section
namespace Go.Proofs.YtjgdpjbkmcjbcaaDoor.PG
open Go.RowKit Go.Proofs.YtjgdpjbkmcjbcaaDoorW.PrintWords Go.Proofs.YtjgdpjbkmcjbcaaDoorW.PrintLast Go.Proofs.YtjgdpjbkmcjbcaaDoorW.PrintMore Go.Proofs.YtjgdpjbkmcjbcaaDoor.Num Go.Proofs.YtjgdpjbkmcjbcaaDoor.Flt
set_option linter.unusedVariables false
set_option linter.unusedSimpArgs false
theorem i64_of_wf {a : Int} (h : (Lit.int .i64 a).wf = true) : -9223372036854775808 ≤ a ∧ a ≤ 9223372036854775807 := by
 simp [Lit.wf, IntKind.min, IntKind.max, IntKind.signed, IntKind.bits] at h
 omega
def t2F : Nat → Int → Nat
 | 0, _ => 0
 | f + 1, v => if v % 2 = 0 then t2F f (v / 2) + 1 else 0
def t2 (v : Int) : Nat := t2F v.toNat v
def od (v : Int) : Int := v / 2 ^ t2 v
theorem t2F_spec : ∀ (f : Nat) (v : Int), 0 < v → v.toNat ≤ f → ∃ m, 0 ≤ m ∧ Odd2 v (t2F f v) m
 | 0, v, h0, h1 => by omega
 | f + 1, v, h0, h1 => by
  unfold t2F
  by_cases h : v % 2 = 0
  ·
   rw [if_pos h]
   obtain ⟨m, hm, ho⟩ := t2F_spec f (v / 2) (by omega) (by omega)
   refine ⟨m, hm, ?_⟩
   unfold Odd2 at ho ⊢
   rw [Int.pow_succ, Int.mul_assoc, Int.mul_left_comm, ← ho]
   omega
  ·
   rw [if_neg h]
   refine ⟨v / 2, by omega, ?_⟩
   unfold Odd2
   rw [Int.pow_zero, Int.one_mul]
   omega
theorem t2_odd {v : Int} (h : 0 < v) : ∃ m, 0 ≤ m ∧ Odd2 v (t2 v) m := t2F_spec _ v h (Nat.le_refl _)
theorem t2_eq {v m : Int} {t : Nat} (hm : 0 ≤ m) (h : Odd2 v t m) : t2 v = t := by
 obtain ⟨m', _, h'⟩ := t2_odd (odd2_pos h hm)
 exact (h'.uniq h).1
theorem od_eq {v m : Int} {t : Nat} (hm : 0 ≤ m) (h : Odd2 v t m) : od v = 2 * m + 1 := by
 unfold od
 rw [t2_eq hm h]
 exact odd2_div h
theorem od_val {v : Int} (h : 0 < v) : v = od v * 2 ^ t2 v ∧ 0 < od v ∧ od v ≤ v := by
 obtain ⟨m, hm, ho⟩ := t2_odd h
 have e := od_eq hm ho
 refine ⟨?_, by omega, ?_⟩
 ·
  rw [e]
  unfold Odd2 at ho
  rw [Int.mul_comm]
  exact ho
 ·
  unfold od
  exact Int.ediv_le_self _ (by omega)
def oz (z : Int) : Int := sv (decide (z < 0)) (od (z.natAbs : Int))
def dt (z x : Int) : Bool × List Int × Int × Int :=
 if z = 0 then (false, [], 0, 0) else dtold (decide (z < 0)) (dg 18446744073709551616 (od (z.natAbs : Int))) (wrap64 (x + t2 (z.natAbs : Int)))
theorem told_wh {s : Bool} {l : List Int} {z : Int} {n : Nat} (h : Wh s l z n) (hn : n ≤ 10000000) (x : Int) : Ev (fun k => dyadic_told.f k s l x) (dt z x) := by
 unfold dt
 by_cases hz : z = 0
 ·
  rw [if_pos hz]
  have := h.nm
  rw [hz] at this
  exact dtold0_ev this hn x
 ·
  rw [if_neg hz]
  obtain ⟨m, hm, ho⟩ := t2_odd (v := (z.natAbs : Int)) (by omega)
  have e := dtold_ev (s := s) h.nm hn ho hm x
  have hs : decide (z < 0) = s := by
   have hv := h.val
   cases s
   ·
    simp only [sv, Bool.false_eq_true, if_false] at hv
    exact decide_eq_false (by omega)
   ·
    simp only [sv, if_true] at hv
    exact decide_eq_true (by omega)
  rw [hs, od_eq hm ho]
  exact e
theorem mul_neg_iff' {z P : Int} (hp : 0 < P) : z * P < 0 ↔ z < 0 := by
 constructor
 ·
  intro h
  by_cases c : z < 0
  ·
   exact c
  ·
   have := Int.mul_nonneg (show 0 ≤ z by omega) (Int.le_of_lt hp)
   omega
 ·
  exact fun h => Int.mul_neg_of_neg_of_pos h hp
theorem oz_abs {z : Int} (hz : z ≠ 0) : ((oz z).natAbs : Int) = od (z.natAbs : Int) ∧ decide (oz z < 0) = decide (z < 0) ∧ oz z ≠ 0 := by
 have h := od_val (v := (z.natAbs : Int)) (by omega)
 unfold oz sv
 by_cases c : z < 0
 ·
  rw [decide_eq_true c, if_pos rfl]
  exact ⟨by omega, by rw [decide_eq_true (by omega)], by omega⟩
 ·
  rw [decide_eq_false c, if_neg (by decide)]
  exact ⟨by omega, by rw [decide_eq_false (by omega)], by omega⟩
theorem oz_val {z : Int} (hz : z ≠ 0) : z = oz z * 2 ^ t2 (z.natAbs : Int) := by
 have h := od_val (v := (z.natAbs : Int)) (by omega)
 have hp := two_pow_pos (t2 (z.natAbs : Int))
 generalize (2 : Int) ^ t2 (z.natAbs : Int) = P at *
 unfold oz sv
 by_cases c : z < 0
 ·
  rw [decide_eq_true c, if_pos rfl, Int.neg_mul, ← h.1]
  omega
 ·
  rw [decide_eq_false c, if_neg (by decide), ← h.1]
  omega
theorem dt_wz {z : Int} (hz : z ≠ 0) (x : Int) : dt z x = if dmay (wz (oz z)).2 (wrap64 (x + t2 (z.natAbs : Int))) then ((wz (oz z)).1, (wz (oz z)).2, wrap64 (x + t2 (z.natAbs : Int)), 0) else (false, [], 0, 4) := by
 obtain ⟨h1, h2, _⟩ := oz_abs hz
 unfold dt dtold wz
 rw [if_neg hz, h1, h2]
theorem t2_lt {v : Int} {n : Nat} (h0 : 0 < v) (h : v < 18446744073709551616 ^ n) : t2 v < 64 * n := by
 have hv := od_val h0
 have e1 : (18446744073709551616 : Int) ^ n = 2 ^ (64 * n) := by rw [show (18446744073709551616 : Int) = 2 ^ 64 by decide, ← Int.pow_mul]
 have hle : (2 : Int) ^ t2 v ≤ v := by
  have hp := two_pow_pos (t2 v)
  have := Int.mul_le_mul_of_nonneg_right (show (1 : Int) ≤ od v by omega) (Int.le_of_lt hp)
  rw [Int.one_mul, ← hv.1] at this
  exact this
 rw [e1] at h
 exact two_pow_lt_iff.1 (Int.lt_of_le_of_lt hle h)
def vl (z x : Int) : Int := z * up2 (x + 200000)
theorem vl_zero (x : Int) : vl 0 x = 0 := Int.zero_mul _
theorem vl_shift (z x : Int) (k : Nat) (h : -200000 ≤ x - k) : vl (z * 2 ^ k) (x - k) = vl z x := by
 unfold vl
 rw [show x + 200000 = (x - k + 200000) + (k : Int) by omega, up2_add (a := x - k + 200000) (by omega) (by omega), up2_nat]
 grind
theorem vl_up (z x : Int) (t : Nat) (h : -200000 ≤ x) : vl (z * 2 ^ t) x = vl z (x + t) := by
 have := vl_shift z (x + t) t (by omega)
 rwa [show x + (t : Int) - t = x by omega] at this
theorem vl_add (z y x : Int) : vl (z + y) x = vl z x + vl y x := Int.add_mul _ _ _
theorem vl_level (z x m : Int) (hm : m ≤ x) (h : -200000 ≤ m) : vl (z * up2 (x - m)) m = vl z x := by
 obtain ⟨k, hk⟩ : ∃ k : Nat, x - m = k := ⟨(x - m).toNat, by omega⟩
 rw [hk, up2_nat]
 have := vl_up z m k h
 rwa [show m + (k : Int) = x by omega] at this
theorem rdT0 (a b : S36) : rd_T36 [a, b] 0 = a := rfl
theorem rdT1 (a b : S36) : rd_T36 [a, b] 1 = b := rfl
theorem lenT (a b : S36) : (([a, b] : List S36).length : Int) = 2 := rfl
theorem w01 : wrap64 (0 + 1) = 1 := w64 (by decide) (by decide)
theorem w12 : wrap64 (1 + 1) = 2 := w64 (by decide) (by decide)
theorem checked_ok {s1 s2 : Bool} {l1 l2 : List Int} {e1 e2 : Int} (h1 : dmay l1 e1) (h2 : dmay l2 e2) : Ev (fun k => dyadic_checked.f k [(⟨s1, l1, e1⟩ : S36), (⟨s2, l2, e2⟩ : S36)]) 0 := by
 unfold dyadic_checked.f
 rw [lenT]
 refine Ev.step (f := fun k => dyadic_checked.l0 k [(⟨s1, l1, e1⟩ : S36), (⟨s2, l2, e2⟩ : S36)] 2 1) (fun k => ?_) (Ev.step (f := fun k => dyadic_checked.l0 k [(⟨s1, l1, e1⟩ : S36), (⟨s2, l2, e2⟩ : S36)] 2 2) (fun k => ?_) (Ev.step (f := fun _ => some 0) (fun k => ?_) (Ev.now _)))
 ·
  rw [dyadic_checked.l0, lenT, if_pos (by decide), if_pos (by decide), if_pos (by decide), rdT0, check_ok h1, Option.bind_some, if_pos rfl, w01]
 ·
  rw [dyadic_checked.l0, lenT, if_pos (by decide), if_pos (by decide), if_pos (by decide), rdT1, check_ok h2, Option.bind_some, if_pos rfl, w12]
 ·
  rw [dyadic_checked.l0, if_neg (by decide)]
theorem mn_le' (a b : Int) : mn a b ≤ a ∧ mn a b ≤ b ∧ (mn a b = a ∨ mn a b = b) := by unfold mn; split <;> omega
theorem Wh.may {s l z e} (h : Wh s l z 1024) (h0 : -16384 ≤ e) (h1 : e ≤ 16384) : dmay l e := ⟨h0, h1, h.nm.len⟩
theorem sv_mul (s : Bool) (v p : Int) : sv s v * p = sv s (v * p) := by
 cases s
 ·
  rfl
 ·
  exact Int.neg_mul _ _
theorem Wh.shl {s l z n} (h : Wh s l z n) (k : Nat) (hn : n ≤ 1000000) (hk : k ≤ 65536) : ∃ l', Ev (fun i => natdiv_Shl.f i l (k : Int)) (l', 0) ∧ Wh s l' (z * 2 ^ k) (1025 + n) := by
 obtain ⟨e, n'⟩ := h.nm.Shl k (by omega) hk
 refine ⟨_, e, ?_⟩
 have hw := Wh.of (s := s) n'
 have hv : sv s (2 ^ k * (z.natAbs : Int)) = z * 2 ^ k := by
  rw [Int.mul_comm, ← sv_mul, ← h.val]
 rw [hv] at hw
 exact hw.mono (by omega)
theorem level_ev {s1 s2 : Bool} {l1 l2 : List Int} {z1 z2 e1 e2 : Int} (h1 : Wh s1 l1 z1 1024) (h2 : Wh s2 l2 z2 1024) (a0 : -16384 ≤ e1) (a1 : e1 ≤ 16384) (b0 : -16384 ≤ e2) (b1 : e2 ≤ 16384) :
  ∃ m1 m2, Ev (fun k => dyadic_level.f k s1 l1 e1 s2 l2 e2) (s1, m1, s2, m2, mn e1 e2) ∧ Wh s1 m1 (z1 * up2 (e1 - mn e1 e2)) 2049 ∧ Wh s2 m2 (z2 * up2 (e2 - mn e1 e2)) 2049 := by
 have hm := mn_le' e1 e2
 obtain ⟨j1, hj1⟩ : ∃ k : Nat, e1 - mn e1 e2 = k := ⟨(e1 - mn e1 e2).toNat, by omega⟩
 obtain ⟨j2, hj2⟩ : ∃ k : Nat, e2 - mn e1 e2 = k := ⟨(e2 - mn e1 e2).toNat, by omega⟩
 obtain ⟨m1, x1, w1⟩ := h1.shl j1 (by omega) (by omega)
 obtain ⟨m2, x2, w2⟩ := h2.shl j2 (by omega) (by omega)
 refine ⟨m1, m2, ?_, by rw [hj1, up2_nat]; exact w1, by rw [hj2, up2_nat]; exact w2⟩
 unfold dyadic_level.f
 rw [w64 (x := e1 - mn e1 e2) (by omega) (by omega), w64 (x := e2 - mn e1 e2) (by omega) (by omega), hj1, hj2]
 exact Ev.bind (g := fun _ => dyadic_signed.f s1 l1 e1) (a := (s1, l1)) (Ev.now _) (Ev.bind (g := fun _ => dyadic_signed.f s2 l2 e2) (a := (s2, l2)) (Ev.now _) (Ev.bind x1 (Ev.bind x2 (Ev.now _))))
theorem dadd_ev {s1 s2 : Bool} {l1 l2 : List Int} {z1 z2 e1 e2 : Int} (h1 : Wh s1 l1 z1 1024) (h2 : Wh s2 l2 z2 1024) (a0 : -16384 ≤ e1) (a1 : e1 ≤ 16384) (b0 : -16384 ≤ e2) (b1 : e2 ≤ 16384) :
  Ev (fun k => dyadic_Add.f k s1 l1 e1 s2 l2 e2) (dt (z1 * up2 (e1 - mn e1 e2) + z2 * up2 (e2 - mn e1 e2)) (mn e1 e2)) := by
 obtain ⟨m1, m2, x, w1, w2⟩ := level_ev h1 h2 a0 a1 b0 b1
 obtain ⟨x2, w3⟩ := w1.add 2049 w2 (by omega) (by omega) (by omega)
 unfold dyadic_Add.f
 exact Ev.bind (checked_ok (h1.may a0 a1) (h2.may b0 b1)) (Ev.congr (fun k => if_pos rfl) (Ev.bind x (Ev.bind x2 (Ev.bind (told_wh w3 (by omega) _) (Ev.now _)))))
theorem Wh.flip {s l z n} (h : Wh s l z n) : Wh (!s) l (-z) n := by
 have hv := h.val
 refine ⟨by rw [Int.natAbs_neg]; exact h.nm, ?_⟩
 rw [Int.natAbs_neg]
 cases s <;> simp [sv] at hv ⊢ <;> omega
theorem dsub_ev {s1 s2 : Bool} {l1 l2 : List Int} {z1 z2 e1 e2 : Int} (h1 : Wh s1 l1 z1 1024) (h2 : Wh s2 l2 z2 1024) (a0 : -16384 ≤ e1) (a1 : e1 ≤ 16384) (b0 : -16384 ≤ e2) (b1 : e2 ≤ 16384) :
  Ev (fun k => dyadic_Sub.f k s1 l1 e1 s2 l2 e2) (dt (z1 * up2 (e1 - mn e1 e2) - z2 * up2 (e2 - mn e1 e2)) (mn e1 e2)) := by
 have e := dadd_ev h1 h2.flip a0 a1 b0 b1
 rw [Int.neg_mul, ← Int.sub_eq_add_neg] at e
 unfold dyadic_Sub.f
 exact Ev.bind e (Ev.now _)
theorem dcmp_ev {s1 s2 : Bool} {l1 l2 : List Int} {z1 z2 e1 e2 : Int} (h1 : Wh s1 l1 z1 1024) (h2 : Wh s2 l2 z2 1024) (a0 : -16384 ≤ e1) (a1 : e1 ≤ 16384) (b0 : -16384 ≤ e2) (b1 : e2 ≤ 16384) :
  Ev (fun k => dyadic_Cmp.f k s1 l1 e1 s2 l2 e2) (sgn (z1 * up2 (e1 - mn e1 e2) - z2 * up2 (e2 - mn e1 e2)), 0) := by
 obtain ⟨m1, m2, x, w1, w2⟩ := level_ev h1 h2 a0 a1 b0 b1
 have x2 := w1.cmp 2049 w2 (by omega) (by omega) (by omega)
 unfold dyadic_Cmp.f
 exact Ev.bind (checked_ok (h1.may a0 a1) (h2.may b0 b1)) (Ev.congr (fun k => if_pos rfl) (Ev.bind x (Ev.bind x2 (Ev.now _))))
theorem vl_sum (z1 z2 e1 e2 : Int) (a0 : -16384 ≤ e1) (b0 : -16384 ≤ e2) : vl (z1 * up2 (e1 - mn e1 e2) + z2 * up2 (e2 - mn e1 e2)) (mn e1 e2) = vl z1 e1 + vl z2 e2 := by
 have hm := mn_le' e1 e2
 rw [vl_add, vl_level _ _ _ hm.1 (by omega), vl_level _ _ _ hm.2.1 (by omega)]
theorem dt_any_vl {z x y e : Int} {t n : Nat} (hx : -200000 ≤ x) (h : z = 0 ∧ y = 0 ∧ e = 0 ∨ y ≠ 0 ∧ z ≠ 0 ∧ z = y * 2 ^ t ∧ e = x + t ∧ t < 64 * n ∧ y = oz z) : vl y e = vl z x := by
 rcases h with ⟨rfl, rfl, rfl⟩ | ⟨_, _, h1, h2, _⟩
 ·
  rw [vl_zero, vl_zero]
 ·
  rw [h1, h2, vl_up _ _ _ hx]
theorem sgn_mul {x p : Int} (hp : 0 < p) : sgn (x * p) = sgn x := by
 unfold sgn
 by_cases h : x < 0
 ·
  rw [if_pos h, if_pos (Int.mul_neg_of_neg_of_pos h hp)]
 ·
  rw [if_neg h, if_neg (fun g => h ((mul_neg_iff' hp).1 g))]
  by_cases h0 : x = 0
  ·
   rw [if_pos h0, if_pos (by rw [h0, Int.zero_mul])]
  ·
   rw [if_neg h0, if_neg (Int.mul_ne_zero h0 (by omega))]
theorem sgn_vl (z1 z2 e1 e2 : Int) (a0 : -16384 ≤ e1) (b0 : -16384 ≤ e2) : sgn (z1 * up2 (e1 - mn e1 e2) - z2 * up2 (e2 - mn e1 e2)) = sgn (vl z1 e1 - vl z2 e2) := by
 have hm := mn_le' e1 e2
 have h1 := vl_level z1 e1 (mn e1 e2) hm.1 (by omega)
 have h2 := vl_level z2 e2 (mn e1 e2) hm.2.1 (by omega)
 rw [← h1, ← h2]
 unfold vl
 rw [← Int.sub_mul, sgn_mul (up2_pos _)]
theorem sv_parts {s : Bool} {w : Int} (hw : 0 < w) : sv s w ≠ 0 ∧ decide (sv s w < 0) = s ∧ ((sv s w).natAbs : Int) = w := by
 unfold sv
 cases s
 ·
  simp only [Bool.false_eq_true, if_false]
  exact ⟨by omega, decide_eq_false (by omega), by omega⟩
 ·
  simp only [if_true]
  exact ⟨by omega, decide_eq_true (by omega), by omega⟩
theorem dnorm_ev {s : Bool} {l : List Int} {e : Int} (hm : dmay l e) {X : Bool × List Int × Int × Int} (h : Ev (fun k => dyadic_told.f k s l e) X) : Ev (fun k => dyadic_Norm.f k s l e) X := by
 unfold dyadic_Norm.f
 exact Ev.bind (g := fun _ => dyadic_Check.f s l e) (Ev.congr (fun _ => check_ok hm) (Ev.now _)) (Ev.congr (fun k => if_pos rfl) (Ev.bind (g := fun _ => dyadic_signed.f s l e) (a := (s, l)) (Ev.now _) (Ev.bind h (Ev.now _))))
theorem dof_ev {a e : Int} (h0 : -9223372036854775808 ≤ a) (h1 : a ≤ 9223372036854775807) (he : -16384 ≤ e) (he' : e ≤ 16384) : Ev (fun k => dyadic_Of.f k a e) (dt a e) := by
 obtain ⟨eo, wo⟩ := wof_ev h0 h1
 have ht := told_wh wo (by omega) e
 unfold dyadic_Of.f
 refine Ev.congr (fun k => if_neg (by omega)) ?_
 rw [decide_eq_false (show ¬ e > 16384 by omega)]
 exact Ev.step (f := _) (fun k => by rw [dyadic_Of.j0, if_neg (by decide)]) (Ev.bind eo (Ev.bind ht (Ev.now _)))
end Go.Proofs.YtjgdpjbkmcjbcaaDoor.PG
end
section
namespace Go.Proofs.YtjgdpjbkmcjbcaaDoor.PG
open Go.RowKit Go.Proofs.YtjgdpjbkmcjbcaaDoorW.PrintWords Go.Proofs.YtjgdpjbkmcjbcaaDoorW.PrintLast Go.Proofs.YtjgdpjbkmcjbcaaDoorW.PrintMore Go.Proofs.YtjgdpjbkmcjbcaaDoor.Num Go.Proofs.YtjgdpjbkmcjbcaaDoor.Flt
set_option linter.unusedVariables false
set_option linter.unusedSimpArgs false
theorem is_no {s1 s2 : Bool} {l1 l2 : List Int} {e1 e2 : Int} (hm : ¬ (dmay l1 e1 ∧ dmay l2 e2)) (ws : Bool) (wl : List Int) (we : Int) (ok : Bool) : Ev (fun k => vernierlaw04_is.f k s1 l1 e1 s2 l2 e2 false [] 0 9 ws wl we ok) true := by
 have fin : Ev (fun k => vernierlaw04_is.j0 k 9 ok true false [] 0 ws wl we) true := Ev.step (f := _) (fun k => by rw [vernierlaw04_is.j0, if_pos rfl, if_pos rfl]) (Ev.bind dsame0_ev (Ev.now _))
 unfold vernierlaw04_is.f
 by_cases h1 : dmay l1 e1
 ·
  have h2 : ¬ dmay l2 e2 := fun h => hm ⟨h1, h⟩
  refine Ev.bind (g := fun _ => vernierlaw04_may.f s1 l1 e1) (a := true) (Ev.congr (fun _ => (may_some s1 l1 e1).trans (by rw [decide_eq_true h1])) (Ev.now _)) (Ev.congr (fun k => if_pos rfl) ?_)
  exact Ev.bind (g := fun _ => vernierlaw04_may.f s2 l2 e2) (a := false) (Ev.congr (fun _ => (may_some s2 l2 e2).trans (by rw [decide_eq_false h2])) (Ev.now _)) fin
 ·
  refine Ev.bind (g := fun _ => vernierlaw04_may.f s1 l1 e1) (a := false) (Ev.congr (fun _ => (may_some s1 l1 e1).trans (by rw [decide_eq_false h1])) (Ev.now _)) (Ev.congr (fun k => if_neg (by decide)) ?_)
  exact fin
theorem is_yes {s1 s2 : Bool} {l1 l2 : List Int} {e1 e2 : Int} (h1 : dmay l1 e1) (h2 : dmay l2 e2) (ws : Bool) {wv : Int} {n : Nat} (hw : Nm (dg 18446744073709551616 wv) wv n) (hn : n ≤ 4611686018427387904) (we : Int) : Ev (fun k => vernierlaw04_is.f k s1 l1 e1 s2 l2 e2 ws (dg 18446744073709551616 wv) we 0 ws (dg 18446744073709551616 wv) we true) true := by
 unfold vernierlaw04_is.f
 have m1 : Ev (fun _ => vernierlaw04_may.f s1 l1 e1) true := Ev.congr (fun _ => (may_some s1 l1 e1).trans (by rw [decide_eq_true h1])) (Ev.now _)
 have m2 : Ev (fun _ => vernierlaw04_may.f s2 l2 e2) true := Ev.congr (fun _ => (may_some s2 l2 e2).trans (by rw [decide_eq_true h2])) (Ev.now _)
 refine Ev.bind m1 (Ev.congr (fun k => if_pos rfl) (Ev.bind m2 ?_))
 exact Ev.step (f := _) (fun k => by rw [vernierlaw04_is.j0, show (!true) = false from rfl, if_neg (by decide), if_pos rfl, if_pos rfl]) (Ev.bind (dsame_ev hw hn we) (Ev.now _))
theorem is_range {s1 s2 : Bool} {l1 l2 : List Int} {e1 e2 : Int} (h1 : dmay l1 e1) (h2 : dmay l2 e2) (ws : Bool) (wl : List Int) (we : Int) : Ev (fun k => vernierlaw04_is.f k s1 l1 e1 s2 l2 e2 false [] 0 4 ws wl we false) true := by
 unfold vernierlaw04_is.f
 have m1 : Ev (fun _ => vernierlaw04_may.f s1 l1 e1) true := Ev.congr (fun _ => (may_some s1 l1 e1).trans (by rw [decide_eq_true h1])) (Ev.now _)
 have m2 : Ev (fun _ => vernierlaw04_may.f s2 l2 e2) true := Ev.congr (fun _ => (may_some s2 l2 e2).trans (by rw [decide_eq_true h2])) (Ev.now _)
 refine Ev.bind m1 (Ev.congr (fun k => if_pos rfl) (Ev.bind m2 ?_))
 exact Ev.step (f := _) (fun k => by rw [vernierlaw04_is.j0, show (!true) = false from rfl, if_neg (by decide), if_neg (by decide), if_pos rfl]) (Ev.bind dsame0_ev (Ev.now _))
theorem alive4_ev : Ev (fun k => vernierlaw04_alive.f k) true := by
 have e := dof_ev (a := 12) (e := 0) (by decide) (by decide) (by decide) (by decide)
 have hd : dt 12 0 = (false, [3], 2, 0) := by decide +kernel
 rw [hd] at e
 unfold vernierlaw04_alive.f
 exact Ev.bind e (Ev.congr (fun k => (if_pos rfl).trans ((if_pos rfl).trans ((if_pos (by decide)).trans (if_pos rfl)))) (Ev.now _))
theorem told_is {s : Bool} {w x : Int} {n m : Nat} (hw : Nm (dg 18446744073709551616 w) w n) (hn : n ≤ 4611686018427387904) (nd : Nd (dg 65536 w) w m) (hm : m ≤ 100000000) (hx : -9223372036854775808 ≤ x) (hx' : x ≤ 9223372036854775807) :
  ∃ (ws : Bool) (wl : List Int) (we : Int) (ok : Bool), Ev (fun k => vernierlaw04_told.f k s (dg 65536 w) x) (ws, wl, we, ok) ∧
   ∀ (s1 s2 : Bool) (l1 l2 : List Int) (e1 e2 : Int), dmay l1 e1 → dmay l2 e2 → Ev (fun k => vernierlaw04_is.f k s1 l1 e1 s2 l2 e2 (dt (sv s w) x).1 (dt (sv s w) x).2.1 (dt (sv s w) x).2.2.1 (dt (sv s w) x).2.2.2 ws wl we ok) true := by
 have h0 := hw.nonneg
 by_cases hz : w = 0
 ·
  refine ⟨_, _, _, _, by rw [hz]; exact rtold0_ev s x, ?_⟩
  intro s1 s2 l1 l2 e1 e2 h1 h2
  have hd : dt (sv s w) x = (false, [], 0, 0) := by
   rw [hz]
   unfold dt
   rw [if_pos (by cases s <;> rfl)]
  rw [hd]
  exact is_yes h1 h2 false (wv := 0) (n := 0) Nm.nil (by omega) 0
 ·
  obtain ⟨t, ht, ho⟩ := t2_odd (v := w) (by omega)
  have e := rtold_ev s nd hm ho ht x hx hx'
  obtain ⟨p1, p2, p3⟩ := sv_parts (s := s) (w := w) (by omega)
  have hod := od_eq ht ho
  have hov := od_val (v := w) (by omega)
  have hwo := hw.dg_le (w := od w) (by omega) hov.2.2
  have hd : dt (sv s w) x = dtold s (dg 18446744073709551616 (od w)) (wrap64 (x + t2 w)) := by
   unfold dt
   rw [if_neg p1, p2, p3]
  rw [← hod] at e
  refine ⟨_, _, _, _, e, ?_⟩
  intro s1 s2 l1 l2 e1 e2 h1 h2
  rw [hd]
  unfold dtold
  by_cases hmay : dmay (dg 18446744073709551616 (od w)) (wrap64 (x + t2 w))
  ·
   rw [if_pos hmay, decide_eq_true hmay]
   exact is_yes h1 h2 s hwo hn _
  ·
   rw [if_neg hmay, decide_eq_false hmay]
   exact is_range h1 h2 _ _ _
theorem dt_any {z x : Int} {n : Nat} (hz : (z.natAbs : Int) < 18446744073709551616 ^ n) (hn : n ≤ 100000) (hx0 : -1000000 ≤ x) (hx1 : x ≤ 1000000) :
  dt z x = (false, [], 0, 4) ∨ ∃ (y e : Int) (t : Nat), dt z x = ((wz y).1, (wz y).2, e, 0) ∧ Wh (wz y).1 (wz y).2 y 1024 ∧ -16384 ≤ e ∧ e ≤ 16384 ∧ (z = 0 ∧ y = 0 ∧ e = 0 ∨ y ≠ 0 ∧ z ≠ 0 ∧ z = y * 2 ^ t ∧ e = x + t ∧ t < 64 * n ∧ y = oz z) := by
 by_cases h0 : z = 0
 ·
  right
  refine ⟨0, 0, 0, ?_, ⟨Nm.nil, rfl⟩, by omega, by omega, .inl ⟨h0, rfl, rfl⟩⟩
  rw [h0]
  rfl
 ·
  obtain ⟨h1, h2, h3⟩ := oz_abs h0
  have hv := od_val (v := (z.natAbs : Int)) (by omega)
  have ht := t2_lt (by omega) hz
  have hw := Wh.made (z := oz z) (n := n) (by rw [h1]; omega)
  rw [dt_wz h0, w64 (by omega) (by omega)]
  by_cases hd : dmay (wz (oz z)).2 (x + t2 (z.natAbs : Int))
  ·
   right
   rw [if_pos hd]
   exact ⟨oz z, x + t2 (z.natAbs : Int), t2 (z.natAbs : Int), rfl, ⟨⟨hw.nm.dig, hw.nm.val, hd.2.2⟩, hw.val⟩, hd.1, hd.2.1, .inr ⟨h3, h0, oz_val h0, rfl, ht, rfl⟩⟩
  ·
   left
   rw [if_neg hd]
end Go.Proofs.YtjgdpjbkmcjbcaaDoor.PG
end
