/- Parts of a proof. -/
import Derived.Test.YtpdjahhimmaonaaDoorZBoundOwn50
import Derived.Test.YtpdjahhimmaonaaDoorZBoundOwn47
section
namespace Go.Proofs.YtpdjahhimmaonaaDoor.PD
open Go.RowKit Go.Proofs.YtpdjahhimmaonaaDoorW.PrintWords Go.Proofs.YtpdjahhimmaonaaDoorW.PrintLast Go.Proofs.YtpdjahhimmaonaaDoorW.PrintMore Go.Proofs.YtpdjahhimmaonaaDoor.Num Go.Proofs.YtpdjahhimmaonaaDoor.Flt
set_option linter.unusedVariables false
set_option linter.unusedSimpArgs false
def t2F : Nat → Int → Nat
 | 0, _ => 0
 | f + 1, v => if v % 2 = 0 then t2F f (v / 2) + 1 else 0
def t2 (v : Int) : Nat := t2F v.toNat v
def od (v : Int) : Int := v / 2 ^ t2 v
theorem t2F_spec : ∀ (f : Nat) (v : Int), 0 < v → v.toNat ≤ f → ∃ m, 0 ≤ m ∧ Odd2 v (t2F f v) m
 | 0, v, h0, h1 => by omega
 | f + 1, v, h0, h1 => by
  unfold t2F
  by_cases h : v % 2 = 0
  ·
   rw [if_pos h]
   obtain ⟨m, hm, ho⟩ := t2F_spec f (v / 2) (by omega) (by omega)
   refine ⟨m, hm, ?_⟩
   unfold Odd2 at ho ⊢
   rw [Int.pow_succ, Int.mul_assoc, Int.mul_left_comm, ← ho]
   omega
  ·
   rw [if_neg h]
   refine ⟨v / 2, by omega, ?_⟩
   unfold Odd2
   rw [Int.pow_zero, Int.one_mul]
   omega
theorem t2_odd {v : Int} (h : 0 < v) : ∃ m, 0 ≤ m ∧ Odd2 v (t2 v) m := t2F_spec _ v h (Nat.le_refl _)
theorem t2_eq {v m : Int} {t : Nat} (hm : 0 ≤ m) (h : Odd2 v t m) : t2 v = t := by
 obtain ⟨m', _, h'⟩ := t2_odd (odd2_pos h hm)
 exact (h'.uniq h).1
theorem od_eq {v m : Int} {t : Nat} (hm : 0 ≤ m) (h : Odd2 v t m) : od v = 2 * m + 1 := by
 unfold od
 rw [t2_eq hm h]
 exact odd2_div h
theorem odd2_mul {v m : Int} {t : Nat} (h : Odd2 v t m) (k : Nat) : Odd2 (v * 2 ^ k) (t + k) m := by
 unfold Odd2 at h ⊢
 rw [h, Int.pow_add]
 grind
theorem t2_mul {v : Int} (h : 0 < v) (k : Nat) : t2 (v * 2 ^ k) = t2 v + k ∧ od (v * 2 ^ k) = od v := by
 obtain ⟨m, hm, ho⟩ := t2_odd h
 exact ⟨t2_eq hm (odd2_mul ho k), by rw [od_eq hm (odd2_mul ho k), od_eq hm ho]⟩
theorem od_val {v : Int} (h : 0 < v) : v = od v * 2 ^ t2 v ∧ 0 < od v ∧ od v ≤ v := by
 obtain ⟨m, hm, ho⟩ := t2_odd h
 have e := od_eq hm ho
 refine ⟨?_, by omega, ?_⟩
 ·
  rw [e]
  unfold Odd2 at ho
  rw [Int.mul_comm]
  exact ho
 ·
  unfold od
  exact Int.ediv_le_self _ (by omega)
theorem abs_mul_pow (z : Int) (k : Nat) : (((z * 2 ^ k).natAbs : Nat) : Int) = (z.natAbs : Int) * 2 ^ k := by
 rw [Int.natAbs_mul, Int.natCast_mul, Int.natAbs_of_nonneg (Int.le_of_lt (two_pow_pos k))]
def oz (z : Int) : Int := sv (decide (z < 0)) (od (z.natAbs : Int))
def dt (z x : Int) : Bool × List Int × Int × Int :=
 if z = 0 then (false, [], 0, 0) else dtold (decide (z < 0)) (dg 18446744073709551616 (od (z.natAbs : Int))) (wrap64 (x + t2 (z.natAbs : Int)))
theorem told_wh {s : Bool} {l : List Int} {z : Int} {n : Nat} (h : Wh s l z n) (hn : n ≤ 10000000) (x : Int) : Ev (fun k => dyadic_told.f k s l x) (dt z x) := by
 unfold dt
 by_cases hz : z = 0
 ·
  rw [if_pos hz]
  have := h.nm
  rw [hz] at this
  exact dtold0_ev this hn x
 ·
  rw [if_neg hz]
  obtain ⟨m, hm, ho⟩ := t2_odd (v := (z.natAbs : Int)) (by omega)
  have e := dtold_ev (s := s) h.nm hn ho hm x
  have hs : decide (z < 0) = s := by
   have hv := h.val
   cases s
   ·
    simp only [sv, Bool.false_eq_true, if_false] at hv
    exact decide_eq_false (by omega)
   ·
    simp only [sv, if_true] at hv
    exact decide_eq_true (by omega)
  rw [hs, od_eq hm ho]
  exact e
theorem mul_neg_iff' {z P : Int} (hp : 0 < P) : z * P < 0 ↔ z < 0 := by
 constructor
 ·
  intro h
  by_cases c : z < 0
  ·
   exact c
  ·
   have := Int.mul_nonneg (show 0 ≤ z by omega) (Int.le_of_lt hp)
   omega
 ·
  exact fun h => Int.mul_neg_of_neg_of_pos h hp
theorem dt_shift {z : Int} (hz : z ≠ 0) (x : Int) (k : Nat) : dt (z * 2 ^ k) (x - k) = dt z x := by
 have hp := two_pow_pos k
 have h1 : z * 2 ^ k ≠ 0 := Int.mul_ne_zero hz (by omega)
 have h2 := t2_mul (v := (z.natAbs : Int)) (by omega) k
 have h3 : decide (z * 2 ^ k < 0) = decide (z < 0) := decide_eq_decide.2 (mul_neg_iff' hp)
 unfold dt
 rw [if_neg h1, if_neg hz, abs_mul_pow, h2.1, h2.2, h3]
 congr 2
 push_cast
 omega
theorem oz_abs {z : Int} (hz : z ≠ 0) : ((oz z).natAbs : Int) = od (z.natAbs : Int) ∧ decide (oz z < 0) = decide (z < 0) ∧ oz z ≠ 0 := by
 have h := od_val (v := (z.natAbs : Int)) (by omega)
 unfold oz sv
 by_cases c : z < 0
 ·
  rw [decide_eq_true c, if_pos rfl]
  exact ⟨by omega, by rw [decide_eq_true (by omega)], by omega⟩
 ·
  rw [decide_eq_false c, if_neg (by decide)]
  exact ⟨by omega, by rw [decide_eq_false (by omega)], by omega⟩
theorem oz_val {z : Int} (hz : z ≠ 0) : z = oz z * 2 ^ t2 (z.natAbs : Int) := by
 have h := od_val (v := (z.natAbs : Int)) (by omega)
 have hp := two_pow_pos (t2 (z.natAbs : Int))
 generalize (2 : Int) ^ t2 (z.natAbs : Int) = P at *
 unfold oz sv
 by_cases c : z < 0
 ·
  rw [decide_eq_true c, if_pos rfl, Int.neg_mul, ← h.1]
  omega
 ·
  rw [decide_eq_false c, if_neg (by decide), ← h.1]
  omega
theorem dt_wz {z : Int} (hz : z ≠ 0) (x : Int) : dt z x = if dmay (wz (oz z)).2 (wrap64 (x + t2 (z.natAbs : Int))) then ((wz (oz z)).1, (wz (oz z)).2, wrap64 (x + t2 (z.natAbs : Int)), 0) else (false, [], 0, 4) := by
 obtain ⟨h1, h2, _⟩ := oz_abs hz
 unfold dt dtold wz
 rw [if_neg hz, h1, h2]
theorem t2_lt {v : Int} {n : Nat} (h0 : 0 < v) (h : v < 18446744073709551616 ^ n) : t2 v < 64 * n := by
 have hv := od_val h0
 have e1 : (18446744073709551616 : Int) ^ n = 2 ^ (64 * n) := by rw [show (18446744073709551616 : Int) = 2 ^ 64 by decide, ← Int.pow_mul]
 have hle : (2 : Int) ^ t2 v ≤ v := by
  have hp := two_pow_pos (t2 v)
  have := Int.mul_le_mul_of_nonneg_right (show (1 : Int) ≤ od v by omega) (Int.le_of_lt hp)
  rw [Int.one_mul, ← hv.1] at this
  exact this
 rw [e1] at h
 exact two_pow_lt_iff.1 (Int.lt_of_le_of_lt hle h)
theorem dt_ok {z x : Int} {n : Nat} (hz : (z.natAbs : Int) < 18446744073709551616 ^ n) (hn : n ≤ 1024) (hx0 : -16384 ≤ x) (hx1 : x + 64 * n ≤ 16384) :
  ∃ (y e : Int) (t : Nat), dt z x = ((wz y).1, (wz y).2, e, 0) ∧ Wh (wz y).1 (wz y).2 y n ∧ -16384 ≤ e ∧ e ≤ 16384 ∧ (z = 0 ∧ y = 0 ∧ e = 0 ∨ y ≠ 0 ∧ z ≠ 0 ∧ z = y * 2 ^ t ∧ e = x + t ∧ t < 64 * n ∧ y = oz z) := by
 by_cases h0 : z = 0
 ·
  refine ⟨0, 0, 0, ?_, Wh.made (by rw [h0] at hz; exact hz), by omega, by omega, .inl ⟨h0, rfl, rfl⟩⟩
  rw [h0]
  rfl
 ·
  obtain ⟨h1, h2, h3⟩ := oz_abs h0
  have hv := od_val (v := (z.natAbs : Int)) (by omega)
  have ht := t2_lt (by omega) hz
  have hw := Wh.made (z := oz z) (n := n) (by rw [h1]; omega)
  have hl := hw.nm.len
  refine ⟨oz z, x + t2 (z.natAbs : Int), t2 (z.natAbs : Int), ?_, hw, by omega, by omega, .inr ⟨h3, h0, oz_val h0, rfl, ht, rfl⟩⟩
  rw [dt_wz h0, w64 (by omega) (by omega), if_pos]
  unfold dmay
  omega
def vl (z x : Int) : Int := z * up2 (x + 200000)
theorem vl_zero (x : Int) : vl 0 x = 0 := Int.zero_mul _
theorem vl_shift (z x : Int) (k : Nat) (h : -200000 ≤ x - k) : vl (z * 2 ^ k) (x - k) = vl z x := by
 unfold vl
 rw [show x + 200000 = (x - k + 200000) + (k : Int) by omega, up2_add (a := x - k + 200000) (by omega) (by omega), up2_nat]
 grind
theorem vl_up (z x : Int) (t : Nat) (h : -200000 ≤ x) : vl (z * 2 ^ t) x = vl z (x + t) := by
 have := vl_shift z (x + t) t (by omega)
 rwa [show x + (t : Int) - t = x by omega] at this
theorem vl_inj {z y x : Int} (h : vl z x = vl y x) : z = y := by
 unfold vl at h
 have := up2_pos (x + 200000)
 exact Int.eq_of_mul_eq_mul_right (by omega) h
theorem vl_add (z y x : Int) : vl (z + y) x = vl z x + vl y x := Int.add_mul _ _ _
theorem vl_level (z x m : Int) (hm : m ≤ x) (h : -200000 ≤ m) : vl (z * up2 (x - m)) m = vl z x := by
 obtain ⟨k, hk⟩ : ∃ k : Nat, x - m = k := ⟨(x - m).toNat, by omega⟩
 rw [hk, up2_nat]
 have := vl_up z m k h
 rwa [show m + (k : Int) = x by omega] at this
theorem dt_vl {z y x w : Int} (h : vl z x = vl y w) (hx : -200000 ≤ x) (hw : -200000 ≤ w) : dt z x = dt y w := by
 have key : ∀ (z y x w : Int), x ≤ w → -200000 ≤ x → vl z x = vl y w → dt z x = dt y w := by
  intro z y x w hxw hx h
  obtain ⟨k, hk⟩ : ∃ k : Nat, w - x = k := ⟨(w - x).toNat, by omega⟩
  have e := vl_shift y w k (by omega)
  rw [show w - (k : Int) = x by omega] at e
  have hz : z = y * 2 ^ k := vl_inj (h.trans e.symm)
  by_cases h0 : y = 0
  ·
   have hz0 : z = 0 := by rw [hz, h0, Int.zero_mul]
   unfold dt
   rw [if_pos hz0, if_pos h0]
  ·
   have := dt_shift h0 w k
   rw [hz, show x = w - k by omega]
   exact this
 rcases Int.le_total x w with c | c
 ·
  exact key z y x w c hx h
 ·
  exact (key y z w x c hw h.symm).symm
theorem rdT0 (a b : S32) : rd_T32 [a, b] 0 = a := rfl
theorem rdT1 (a b : S32) : rd_T32 [a, b] 1 = b := rfl
theorem lenT (a b : S32) : (([a, b] : List S32).length : Int) = 2 := rfl
theorem w01 : wrap64 (0 + 1) = 1 := w64 (by decide) (by decide)
theorem w12 : wrap64 (1 + 1) = 2 := w64 (by decide) (by decide)
theorem checked_ok {s1 s2 : Bool} {l1 l2 : List Int} {e1 e2 : Int} (h1 : dmay l1 e1) (h2 : dmay l2 e2) : Ev (fun k => dyadic_checked.f k [(⟨s1, l1, e1⟩ : S32), (⟨s2, l2, e2⟩ : S32)]) 0 := by
 unfold dyadic_checked.f
 rw [lenT]
 refine Ev.step (f := fun k => dyadic_checked.l0 k [(⟨s1, l1, e1⟩ : S32), (⟨s2, l2, e2⟩ : S32)] 2 1) (fun k => ?_) (Ev.step (f := fun k => dyadic_checked.l0 k [(⟨s1, l1, e1⟩ : S32), (⟨s2, l2, e2⟩ : S32)] 2 2) (fun k => ?_) (Ev.step (f := fun _ => some 0) (fun k => ?_) (Ev.now _)))
 ·
  rw [dyadic_checked.l0, lenT, if_pos (by decide), if_pos (by decide), if_pos (by decide), rdT0, check_ok h1, Option.bind_some, if_pos rfl, w01]
 ·
  rw [dyadic_checked.l0, lenT, if_pos (by decide), if_pos (by decide), if_pos (by decide), rdT1, check_ok h2, Option.bind_some, if_pos rfl, w12]
 ·
  rw [dyadic_checked.l0, if_neg (by decide)]
theorem mn_le' (a b : Int) : mn a b ≤ a ∧ mn a b ≤ b ∧ (mn a b = a ∨ mn a b = b) := by unfold mn; split <;> omega
theorem Wh.may {s l z e} (h : Wh s l z 1024) (h0 : -16384 ≤ e) (h1 : e ≤ 16384) : dmay l e := ⟨h0, h1, h.nm.len⟩
theorem sv_mul (s : Bool) (v p : Int) : sv s v * p = sv s (v * p) := by
 cases s
 ·
  rfl
 ·
  exact Int.neg_mul _ _
theorem Wh.shl {s l z n} (h : Wh s l z n) (k : Nat) (hn : n ≤ 1000000) (hk : k ≤ 65536) : ∃ l', Ev (fun i => natdiv_Shl.f i l (k : Int)) (l', 0) ∧ Wh s l' (z * 2 ^ k) (1025 + n) := by
 obtain ⟨e, n'⟩ := h.nm.Shl k (by omega) hk
 refine ⟨_, e, ?_⟩
 have hw := Wh.of (s := s) n'
 have hv : sv s (2 ^ k * (z.natAbs : Int)) = z * 2 ^ k := by
  rw [Int.mul_comm, ← sv_mul, ← h.val]
 rw [hv] at hw
 exact hw.mono (by omega)
theorem level_ev {s1 s2 : Bool} {l1 l2 : List Int} {z1 z2 e1 e2 : Int} (h1 : Wh s1 l1 z1 1024) (h2 : Wh s2 l2 z2 1024) (a0 : -16384 ≤ e1) (a1 : e1 ≤ 16384) (b0 : -16384 ≤ e2) (b1 : e2 ≤ 16384) :
  ∃ m1 m2, Ev (fun k => dyadic_level.f k s1 l1 e1 s2 l2 e2) (s1, m1, s2, m2, mn e1 e2) ∧ Wh s1 m1 (z1 * up2 (e1 - mn e1 e2)) 2049 ∧ Wh s2 m2 (z2 * up2 (e2 - mn e1 e2)) 2049 := by
 have hm := mn_le' e1 e2
 obtain ⟨j1, hj1⟩ : ∃ k : Nat, e1 - mn e1 e2 = k := ⟨(e1 - mn e1 e2).toNat, by omega⟩
 obtain ⟨j2, hj2⟩ : ∃ k : Nat, e2 - mn e1 e2 = k := ⟨(e2 - mn e1 e2).toNat, by omega⟩
 obtain ⟨m1, x1, w1⟩ := h1.shl j1 (by omega) (by omega)
 obtain ⟨m2, x2, w2⟩ := h2.shl j2 (by omega) (by omega)
 refine ⟨m1, m2, ?_, by rw [hj1, up2_nat]; exact w1, by rw [hj2, up2_nat]; exact w2⟩
 unfold dyadic_level.f
 rw [w64 (x := e1 - mn e1 e2) (by omega) (by omega), w64 (x := e2 - mn e1 e2) (by omega) (by omega), hj1, hj2]
 exact Ev.bind (g := fun _ => dyadic_signed.f s1 l1 e1) (a := (s1, l1)) (Ev.now _) (Ev.bind (g := fun _ => dyadic_signed.f s2 l2 e2) (a := (s2, l2)) (Ev.now _) (Ev.bind x1 (Ev.bind x2 (Ev.now _))))
theorem dadd_ev {s1 s2 : Bool} {l1 l2 : List Int} {z1 z2 e1 e2 : Int} (h1 : Wh s1 l1 z1 1024) (h2 : Wh s2 l2 z2 1024) (a0 : -16384 ≤ e1) (a1 : e1 ≤ 16384) (b0 : -16384 ≤ e2) (b1 : e2 ≤ 16384) :
  Ev (fun k => dyadic_Add.f k s1 l1 e1 s2 l2 e2) (dt (z1 * up2 (e1 - mn e1 e2) + z2 * up2 (e2 - mn e1 e2)) (mn e1 e2)) := by
 obtain ⟨m1, m2, x, w1, w2⟩ := level_ev h1 h2 a0 a1 b0 b1
 obtain ⟨x2, w3⟩ := w1.add 2049 w2 (by omega) (by omega) (by omega)
 unfold dyadic_Add.f
 exact Ev.bind (checked_ok (h1.may a0 a1) (h2.may b0 b1)) (Ev.congr (fun k => if_pos rfl) (Ev.bind x (Ev.bind x2 (Ev.bind (told_wh w3 (by omega) _) (Ev.now _)))))
theorem dmul_ev {s1 s2 : Bool} {l1 l2 : List Int} {z1 z2 e1 e2 : Int} (h1 : Wh s1 l1 z1 1024) (h2 : Wh s2 l2 z2 1024) (a0 : -16384 ≤ e1) (a1 : e1 ≤ 16384) (b0 : -16384 ≤ e2) (b1 : e2 ≤ 16384) :
  Ev (fun k => dyadic_Mul.f k s1 l1 e1 s2 l2 e2) (dt (z1 * z2) (e1 + e2)) := by
 obtain ⟨x2, w3⟩ := h1.mul h2 (by omega)
 have ht := told_wh w3 (by omega) (e1 + e2)
 unfold dyadic_Mul.f
 rw [w64 (x := e1 + e2) (by omega) (by omega)]
 refine Ev.bind (checked_ok (h1.may a0 a1) (h2.may b0 b1)) (Ev.congr (fun k => if_pos rfl) ?_)
 exact Ev.bind (g := fun _ => dyadic_signed.f s1 l1 e1) (a := (s1, l1)) (Ev.now _) (Ev.bind (g := fun _ => dyadic_signed.f s2 l2 e2) (a := (s2, l2)) (Ev.now _) (Ev.bind x2 (Ev.bind ht (Ev.now _))))
theorem vl_sum (z1 z2 e1 e2 : Int) (a0 : -16384 ≤ e1) (b0 : -16384 ≤ e2) : vl (z1 * up2 (e1 - mn e1 e2) + z2 * up2 (e2 - mn e1 e2)) (mn e1 e2) = vl z1 e1 + vl z2 e2 := by
 have hm := mn_le' e1 e2
 rw [vl_add, vl_level _ _ _ hm.1 (by omega), vl_level _ _ _ hm.2.1 (by omega)]
theorem dt_any_vl {z x y e : Int} {t n : Nat} (hx : -200000 ≤ x) (h : z = 0 ∧ y = 0 ∧ e = 0 ∨ y ≠ 0 ∧ z ≠ 0 ∧ z = y * 2 ^ t ∧ e = x + t ∧ t < 64 * n ∧ y = oz z) : vl y e = vl z x := by
 rcases h with ⟨rfl, rfl, rfl⟩ | ⟨_, _, h1, h2, _⟩
 ·
  rw [vl_zero, vl_zero]
 ·
  rw [h1, h2, vl_up _ _ _ hx]
theorem dnorm_ev {s : Bool} {l : List Int} {e : Int} (hm : dmay l e) {X : Bool × List Int × Int × Int} (h : Ev (fun k => dyadic_told.f k s l e) X) : Ev (fun k => dyadic_Norm.f k s l e) X := by
 unfold dyadic_Norm.f
 exact Ev.bind (g := fun _ => dyadic_Check.f s l e) (Ev.congr (fun _ => check_ok hm) (Ev.now _)) (Ev.congr (fun k => if_pos rfl) (Ev.bind (g := fun _ => dyadic_signed.f s l e) (a := (s, l)) (Ev.now _) (Ev.bind h (Ev.now _))))
theorem dof_ev {a e : Int} (h0 : -9223372036854775808 ≤ a) (h1 : a ≤ 9223372036854775807) (he : -16384 ≤ e) (he' : e ≤ 16384) : Ev (fun k => dyadic_Of.f k a e) (dt a e) := by
 obtain ⟨eo, wo⟩ := wof_ev h0 h1
 have ht := told_wh wo (by omega) e
 unfold dyadic_Of.f
 refine Ev.congr (fun k => if_neg (by omega)) ?_
 rw [decide_eq_false (show ¬ e > 16384 by omega)]
 exact Ev.step (f := _) (fun k => by rw [dyadic_Of.j0, if_neg (by decide)]) (Ev.bind eo (Ev.bind ht (Ev.now _)))
end Go.Proofs.YtpdjahhimmaonaaDoor.PD
end
section
namespace Go.Proofs.YtpdjahhimmaonaaDoor.PD
open Go.RowKit Go.Proofs.YtpdjahhimmaonaaDoorW.PrintWords Go.Proofs.YtpdjahhimmaonaaDoorW.PrintLast Go.Proofs.YtpdjahhimmaonaaDoorW.PrintMore Go.Proofs.YtpdjahhimmaonaaDoor.Num Go.Proofs.YtpdjahhimmaonaaDoor.Flt
set_option linter.unusedVariables false
set_option linter.unusedSimpArgs false
def upn (v : Int) (N : Nat) : Int := if v % 2 ^ N ≠ 0 then v / 2 ^ N + 1 else v / 2 ^ N
theorem above_ev {l : List Int} {v e : Int} {n : Nat} (h : Nm l v n) (hn : n ≤ 1024) (hd : dmay l e) (hv : 0 < v) :
  ∃ N : Nat, Ev (fun k => dyadic_Above.f k false l e 128) (dt (upn v N) (e + N)) ∧ N ≤ 65536 ∧ (N = 0 ∨ 2 ^ (N + 127) ≤ v) := by
 have h0 := h.nonneg
 have ebp := h.bits (by omega)
 have b0 := bitsOf_nonneg v
 have b1 : bitsOf v ≤ 64 * n := by
  have := bitsOf_le h0 (n := 64 * n) (by
   have := h.lt
   rw [show (18446744073709551616 : Int) = 2 ^ 64 by decide, ← Int.pow_mul] at this
   exact this)
  omega
 have hb : mx 128 1 = 128 := by decide
 have he : -16384 ≤ e ∧ e ≤ 16384 := ⟨hd.1, hd.2.1⟩
 by_cases c : bitsOf v - 128 ≤ 0
 ·
  refine ⟨0, ?_, by omega, .inl rfl⟩
  have e0 : upn v 0 = v := by unfold upn; rw [Int.pow_zero, Int.emod_one, Int.ediv_one, if_neg (by decide)]
  rw [e0, show e + ((0 : Nat) : Int) = e by omega]
  unfold dyadic_Above.f
  rw [hb]
  refine Ev.bind (g := fun _ => dyadic_Check.f false l e) (Ev.congr (fun _ => check_ok hd) (Ev.now _)) (Ev.congr (fun k => if_pos rfl) (Ev.bind ebp ?_))
  rw [w64 (x := bitsOf v - 128) (by omega) (by omega)]
  have ht := told_wh (Wh.of (s := false) h) (by omega) e
  exact Ev.congr (fun k => if_pos c) (Ev.bind (dnorm_ev hd ht) (Ev.now _))
 ·
  obtain ⟨N, hN⟩ : ∃ N : Nat, bitsOf v - 128 = (N : Int) := ⟨(bitsOf v - 128).toNat, by omega⟩
  have hN' : N ≤ 65536 := by omega
  have hlow : 2 ^ (N + 127) ≤ v := by
   have := bitsOf_low hv
   rwa [show (bitsOf v).toNat - 1 = N + 127 by omega] at this
  refine ⟨N, ?_, hN', .inr hlow⟩
  have q0 : 0 ≤ v / 2 ^ N := Int.ediv_nonneg h0 (by have := two_pow_pos N; omega)
  have q1 : v / 2 ^ N ≤ v := Int.ediv_le_self _ h0
  have nq : Nm (dg 18446744073709551616 (v / 2 ^ N)) (v / 2 ^ N) n := h.dg_le q0 q1
  have none1 : Nm [1] 1 1 := Nm.one (by decide) (by decide) (by decide)
  obtain ⟨ea, na⟩ := nq.add (n + 1) none1 (by omega) (by omega) (by omega)
  obtain ⟨x1, y1⟩ := h.Shr N (by omega) hN'
  obtain ⟨x2, y2⟩ := y1.Shl N (by omega) hN'
  have x3 := y2.cmp h (by omega) (by omega)
  have hem := Int.emod_add_mul_ediv v (2 ^ N)
  have r0 := Int.emod_nonneg v (show (2 : Int) ^ N ≠ 0 by have := two_pow_pos N; omega)
  unfold dyadic_Above.f
  rw [hb]
  refine Ev.bind (g := fun _ => dyadic_Check.f false l e) (Ev.congr (fun _ => check_ok hd) (Ev.now _)) (Ev.congr (fun k => if_pos rfl) (Ev.bind ebp ?_))
  rw [w64 (x := bitsOf v - 128) (by omega) (by omega)]
  refine Ev.congr (fun k => if_neg c) ?_
  rw [hN]
  refine Ev.bind x1 (Ev.bind x2 (Ev.congr (fun k => if_neg (by decide)) (Ev.bind x3 ?_)))
  by_cases cr : v % 2 ^ N = 0
  ·
   have hs : sgn (2 ^ N * (v / 2 ^ N) - v) = 0 := by rw [show 2 ^ N * (v / 2 ^ N) - v = 0 by omega]; rfl
   have hu : upn v N = v / 2 ^ N := by unfold upn; rw [if_neg (fun h => h cr)]
   have ht := told_wh (Wh.of (s := false) nq) (by omega) (e + N)
   rw [hs, hu, decide_eq_false (show ¬ ((0 : Int) < 0) by omega)]
   refine Ev.step (f := _) (fun k => by rw [dyadic_Above.j0, if_neg (by decide), w64 (x := e + (N : Int)) (by omega) (by omega)]) (Ev.bind ht (Ev.now _))
  ·
   have hs : sgn (2 ^ N * (v / 2 ^ N) - v) < 0 := by
    unfold sgn
    rw [if_pos (by omega)]
    decide
   have hu : upn v N = v / 2 ^ N + 1 := by unfold upn; rw [if_pos cr]
   have ht := told_wh (Wh.of (s := false) na) (by omega) (e + N)
   rw [hu, decide_eq_true hs]
   refine Ev.step (f := _) (fun k => by rw [dyadic_Above.j0, if_pos rfl, w64 (x := e + (N : Int)) (by omega) (by omega)]) (Ev.bind ea (Ev.bind ht (Ev.now _)))
structure Rg (z x : Int) : Prop where
 lt : (z.natAbs : Int) < 18446744073709551616 ^ 100
 lo : -8000 ≤ x
 hi : x ≤ 9000
theorem Rg.ok {z x : Int} (g : Rg z x) : (dt z x).2.2.2 = 0 := by
 obtain ⟨y, e, t, h, _⟩ := dt_ok (z := z) (x := x) g.lt (by omega) (by have := g.lo; omega) (by have := g.hi; omega)
 rw [h]
theorem Rg.rep {z x : Int} (g : Rg z x) : ∃ y e : Int, (dt z x).1 = (wz y).1 ∧ (dt z x).2.1 = (wz y).2 ∧ (dt z x).2.2.1 = e ∧ Wh (wz y).1 (wz y).2 y 1024 ∧ -16384 ≤ e ∧ e ≤ 16384 ∧ vl y e = vl z x := by
 obtain ⟨y, e, t, h, hw, e0, e1, hv⟩ := dt_ok (z := z) (x := x) g.lt (by omega) (by have := g.lo; omega) (by have := g.hi; omega)
 refine ⟨y, e, by rw [h], by rw [h], by rw [h], hw.mono (by omega), e0, e1, ?_⟩
 exact dt_any_vl (by have := g.lo; omega) hv
theorem add_at {z1 x1 z2 x2 z x : Int} (g1 : Rg z1 x1) (g2 : Rg z2 x2) (hx : -200000 ≤ x) (hv : vl z x = vl z1 x1 + vl z2 x2) :
  Ev (fun k => dyadic_Add.f k (dt z1 x1).1 (dt z1 x1).2.1 (dt z1 x1).2.2.1 (dt z2 x2).1 (dt z2 x2).2.1 (dt z2 x2).2.2.1) (dt z x) := by
 obtain ⟨y1, e1, a1, a2, a3, w1, l1, u1, v1⟩ := g1.rep
 obtain ⟨y2, e2, b1, b2, b3, w2, l2, u2, v2⟩ := g2.rep
 rw [a1, a2, a3, b1, b2, b3]
 have h := dadd_ev w1 w2 l1 u1 l2 u2
 have hm := mn_le' e1 e2
 rw [dt_vl (y := z) (w := x) (by rw [vl_sum y1 y2 e1 e2 l1 l2, v1, v2, hv]) (by omega) hx] at h
 exact h
theorem must_ok {z x : Int} (g : Rg z x) : bound_must.f (dt z x).1 (dt z x).2.1 (dt z x).2.2.1 (dt z x).2.2.2 = some ((dt z x).1, (dt z x).2.1, (dt z x).2.2.1) := by
 unfold bound_must.f
 rw [g.ok]
 rfl
theorem of_at {n x : Int} (h0 : -100000 ≤ n) (h1 : n ≤ 100000) (hx : -8000 ≤ x) (hx' : x ≤ 9000) : Ev (fun k => bound_of.f k n x) (((dt n x).1, (dt n x).2.1, (dt n x).2.2.1)) ∧ Rg n x := by
 have g : Rg n x := ⟨by
  have h : ((100000 : Int)) < 18446744073709551616 ^ 100 := by decide
  omega, hx, hx'⟩
 refine ⟨?_, g⟩
 unfold bound_of.f
 refine Ev.bind (dof_ev (by omega) (by omega) (by omega) (by omega)) (Ev.bind (g := fun _ => bound_must.f (dt n x).1 (dt n x).2.1 (dt n x).2.2.1 (dt n x).2.2.2) (Ev.congr (fun _ => must_ok g) (Ev.now _)) (Ev.now _))
theorem first_at : Ev (fun k => bound_first.f k) ((dt 1 (-53)).1, (dt 1 (-53)).2.1, (dt 1 (-53)).2.2.1, (dt 1 (-1075)).1, (dt 1 (-1075)).2.1, (dt 1 (-1075)).2.2.1) := by
 unfold bound_first.f
 exact Ev.bind (of_at (n := 1) (x := -53) (by omega) (by omega) (by omega) (by omega)).1 (Ev.bind (of_at (n := 1) (x := -1075) (by omega) (by omega) (by omega) (by omega)).1 (Ev.now _))
end Go.Proofs.YtpdjahhimmaonaaDoor.PD
end
section
namespace Go.Proofs.YtpdjahhimmaonaaDoor.PD
open Go.RowKit Go.Proofs.YtpdjahhimmaonaaDoorW.PrintWords Go.Proofs.YtpdjahhimmaonaaDoorW.PrintLast Go.Proofs.YtpdjahhimmaonaaDoorW.PrintMore Go.Proofs.YtpdjahhimmaonaaDoor.Num Go.Proofs.YtpdjahhimmaonaaDoor.Flt
set_option linter.unusedVariables false
set_option linter.unusedSimpArgs false
theorem dot_end {n j : Int} {s t s' t' : Bool} {l m l' m' : List Int} {e f e' f' : Int} (hj : ¬ j < n) (hm : Ev (fun i => bound_pair_up.f i s l e t m f) (s', l', e', t', m', f')) : Ev (fun i => bound_dot.l0 i n j s l e t m f) (s', l', e', t', m', f') := by
 apply Ev.step
 ·
  intro i
  rw [bound_dot.l0, if_neg hj]
 exact Ev.bind hm (Ev.now _)
theorem odd1_no {n : Nat} (h1 : 1 ≤ n) (h2 : n ≤ 64) : Ev (fun i => bound_odd.f i 1 [(n : Int)]) false := by
 show Ev (fun i => bound_odd.l0 i 1 [(n : Int)] 1 0) _
 have hw : wrap64 (0 + 1) = 1 := (w64 (by omega) (by omega)).trans (by omega)
 have hl : (([(n : Int)] : List Int).length : Int) = 1 := rfl
 have hr : rd [(n : Int)] 0 = n := rfl
 refine Ev.step (f := fun i => bound_odd.l0 i 1 [(n : Int)] 1 1) (fun i => ?_) ?_
 ·
  rw [bound_odd.l0, if_pos (by omega), if_pos (by omega), if_pos (by rw [hl]; omega), hr, if_neg (by omega), if_neg (by omega), hw]
 refine Ev.step (f := fun _ => some false) (fun i => ?_) (Ev.now _)
 rw [bound_odd.l0, if_neg (by omega)]
 rfl
theorem Dot_chain {n : Int} {s t s' t' : Bool} {l m l' m' : List Int} {e f e' f' : Int} (ho : Ev (fun i => bound_odd.f i 1 [n]) false) (hf : Ev (fun i => bound_first.f i) (s, l, e, t, m, f)) (hl : Ev (fun i => bound_dot.l0 i n 1 s l e t m f) (s', l', e', t', m', f')) : Ev (fun i => bound_Dot.f i n) (s', l', e', t', m', f', 0) := by
 unfold bound_Dot.f
 refine Ev.bind ho (Ev.congr (fun i => if_neg (by decide)) ?_)
 refine Ev.bind (a := (s', l', e', t', m', f')) ?_ ?_
 ·
  unfold bound_dot.f
  exact Ev.bind hf hl
 ·
  exact Ev.bind (g := fun _ => bound_pair_told.f s' l' e' t' m' f') (a := (s', l', e', t', m', f', 0)) (Ev.now _) (Ev.now _)
theorem up_chain {s t s1 t1 : Bool} {l m l1 m1 : List Int} {e f e1 f1 z w : Int} (a1 : Ev (fun k => dyadic_Above.f k s l e 128) (s1, l1, e1, z)) (b1 : Ev (fun k => dyadic_Above.f k t m f 128) (t1, m1, f1, w)) (hz : z = 0) (hw : w = 0) : Ev (fun i => bound_pair_up.f i s l e t m f) (s1, l1, e1, t1, m1, f1) := by
 subst hz hw
 unfold bound_pair_up.f
 exact Ev.bind a1 (Ev.bind (g := fun _ => bound_must.f s1 l1 e1 0) (a := (s1, l1, e1)) (Ev.now _) (Ev.bind b1 (Ev.bind (g := fun _ => bound_must.f t1 m1 f1 0) (a := (t1, m1, f1)) (Ev.now _) (Ev.now _))))
end Go.Proofs.YtpdjahhimmaonaaDoor.PD
end
section
namespace Go.Proofs.YtpdjahhimmaonaaDoor.PD
open Go.RowKit Go.Proofs.YtpdjahhimmaonaaDoorW.PrintWords Go.Proofs.YtpdjahhimmaonaaDoorW.PrintLast Go.Proofs.YtpdjahhimmaonaaDoorW.PrintMore Go.Proofs.YtpdjahhimmaonaaDoor.Num Go.Proofs.YtpdjahhimmaonaaDoor.Flt
set_option linter.unusedVariables false
set_option linter.unusedSimpArgs false
theorem dt_ways {z x : Int} {n : Nat} (hz : (z.natAbs : Int) < 18446744073709551616 ^ n) (hn : n ≤ 100000) (hx0 : -1000000 ≤ x) (hx1 : x ≤ 1000000) :
  dt z x = (false, [], 0, 4) ∨ ∃ (y e : Int) (t : Nat), dt z x = ((wz y).1, (wz y).2, e, 0) ∧ Wh (wz y).1 (wz y).2 y 1024 ∧ -16384 ≤ e ∧ e ≤ 16384 ∧ (z = 0 ∧ y = 0 ∧ e = 0 ∨ y ≠ 0 ∧ z ≠ 0 ∧ z = y * 2 ^ t ∧ e = x + t ∧ t < 64 * n ∧ y = oz z) := by
 by_cases h0 : z = 0
 ·
  right
  refine ⟨0, 0, 0, ?_, ⟨Nm.nil, rfl⟩, by omega, by omega, .inl ⟨h0, rfl, rfl⟩⟩
  rw [h0]
  rfl
 ·
  obtain ⟨h1, h2, h3⟩ := oz_abs h0
  have hv := od_val (v := (z.natAbs : Int)) (by omega)
  have ht := t2_lt (by omega) hz
  have hw := Wh.made (z := oz z) (n := n) (by rw [h1]; omega)
  rw [dt_wz h0, w64 (by omega) (by omega)]
  by_cases hd : dmay (wz (oz z)).2 (x + t2 (z.natAbs : Int))
  ·
   right
   rw [if_pos hd]
   exact ⟨oz z, x + t2 (z.natAbs : Int), t2 (z.natAbs : Int), rfl, ⟨⟨hw.nm.dig, hw.nm.val, hd.2.2⟩, hw.val⟩, hd.1, hd.2.1, .inr ⟨h3, h0, oz_val h0, rfl, ht, rfl⟩⟩
  ·
   left
   rw [if_neg hd]
def DG (s : Bool) (l : List Int) (e : Int) : Prop := ∃ y, Wh s l y 1024 ∧ -16384 ≤ e ∧ e ≤ 16384
theorem DG.may {s : Bool} {l : List Int} {e : Int} (h : DG s l e) : dmay l e := by
 obtain ⟨y, h, a, b⟩ := h
 exact h.may a b
theorem DG.len {s : Bool} {l : List Int} {e : Int} (h : DG s l e) : l.length ≤ 1024 := h.may.2.2
theorem DG.of_dt {z x : Int} {n : Nat} (hz : (z.natAbs : Int) < 18446744073709551616 ^ n) (hn : n ≤ 100000) (hx0 : -1000000 ≤ x) (hx1 : x ≤ 1000000) (h : (dt z x).2.2.2 = 0) : DG (dt z x).1 (dt z x).2.1 (dt z x).2.2.1 := by
 rcases dt_ways hz hn hx0 hx1 with e | ⟨y, e, t, e1, w, a, b, _⟩
 ·
  rw [e] at h
  exact absurd h (by decide)
 ·
  rw [e1]
  exact ⟨y, w, a, b⟩
section
variable {s1 s2 : Bool} {l1 l2 : List Int} {e1 e2 : Int}
theorem tot_mul (g1 : DG s1 l1 e1) (g2 : DG s2 l2 e2) : ∃ r, Ev (fun k => dyadic_Mul.f k s1 l1 e1 s2 l2 e2) r ∧ (r.2.2.2 = 0 → DG r.1 r.2.1 r.2.2.1) := by
 obtain ⟨y, h1, a0, a1⟩ := g1
 obtain ⟨z, h2, b0, b1⟩ := g2
 obtain ⟨_, w⟩ := h1.mul h2 (by omega)
 exact ⟨_, dmul_ev h1 h2 a0 a1 b0 b1, DG.of_dt w.lt (by omega) (by omega) (by omega)⟩
theorem tot_add (g1 : DG s1 l1 e1) (g2 : DG s2 l2 e2) : ∃ r, Ev (fun k => dyadic_Add.f k s1 l1 e1 s2 l2 e2) r ∧ (r.2.2.2 = 0 → DG r.1 r.2.1 r.2.2.1) := by
 obtain ⟨y, h1, a0, a1⟩ := g1
 obtain ⟨z, h2, b0, b1⟩ := g2
 obtain ⟨m1, m2, _, w1, w2⟩ := level_ev h1 h2 a0 a1 b0 b1
 obtain ⟨_, w⟩ := w1.add 2049 w2 (by omega) (by omega) (by omega)
 have hm := mn_le' e1 e2
 exact ⟨_, dadd_ev h1 h2 a0 a1 b0 b1, DG.of_dt w.lt (by omega) (by omega) (by omega)⟩
theorem tot_norm (g1 : DG s1 l1 e1) : ∃ r, Ev (fun k => dyadic_Norm.f k s1 l1 e1) r ∧ (r.2.2.2 = 0 → DG r.1 r.2.1 r.2.2.1) := by
 have hm := g1.may
 obtain ⟨y, h1, a0, a1⟩ := g1
 exact ⟨_, dnorm_ev hm (told_wh h1 (by omega) e1), DG.of_dt h1.lt (by omega) (by omega) (by omega)⟩
end
theorem tot_times0 (xs : List S66) (hx : xs.length < 100) (hg : ∀ i : Nat, i < xs.length → DG (rd_T66 xs i).f0.f0 (rd_T66 xs i).f0.f1 (rd_T66 xs i).f0.f2) : ∀ (d i : Nat), xs.length = i + d → ∀ (s : Bool) (l : List Int) (e : Int), DG s l e →
  ∃ R : Int × Bool × List Int × Int, Ev (fun k => bound_num_times.o0 k xs (xs.length : Int) (i : Int) s l e) R ∧ (R.1 = 0 → DG R.2.1 R.2.2.1 R.2.2.2)
 | 0, i, hi, s, l, e, g => by
  refine ⟨(0, s, l, e), Ev.step (f := fun _ => some (0, s, l, e)) (fun k => ?_) (Ev.now _), fun _ => g⟩
  rw [bound_num_times.o0, if_neg (by omega)]
 | d + 1, i, hi, s, l, e, g => by
  have hw : wrap64 ((i : Int) + 1) = ((i + 1 : Nat) : Int) := (w64 (by omega) (by omega)).trans (by omega)
  have c1 : (i : Int) < (xs.length : Int) := by omega
  have c2 : (0 : Int) ≤ (i : Int) := by omega
  obtain ⟨r, hr, gr⟩ := tot_mul g (hg i (by omega))
  by_cases z : r.2.2.2 = 0
  ·
   obtain ⟨R, hR, gR⟩ := tot_times0 xs hx hg d (i + 1) (by omega) _ _ _ (gr z)
   refine ⟨R, ?_, gR⟩
   apply Ev.step
   ·
    intro k
    rw [bound_num_times.o0, if_pos c1, if_pos c2, if_pos c1, hw]
   exact Ev.bind hr (Ev.congr (fun k => if_pos z) hR)
  ·
   refine ⟨(r.2.2.2, false, [], 0), ?_, fun h => absurd h z⟩
   apply Ev.step
   ·
    intro k
    rw [bound_num_times.o0, if_pos c1, if_pos c2, if_pos c1]
   exact Ev.bind hr (Ev.congr (fun k => if_neg z) (Ev.now _))
theorem tot_times (xs : List S66) (hx : xs.length < 100) (hne : xs ≠ []) (hg : ∀ i : Nat, i < xs.length → DG (rd_T66 xs i).f0.f0 (rd_T66 xs i).f0.f1 (rd_T66 xs i).f0.f2) {s : Bool} {l : List Int} {e : Int} (g : DG s l e) :
  ∃ R : Int × Bool × List Int × Int, Ev (fun k => bound_num_times.o k s l e xs) R ∧ (R.1 = 0 → DG R.2.1 R.2.2.1 R.2.2.2) := by
 obtain ⟨R, h, g⟩ := tot_times0 xs hx hg xs.length 0 (by omega) s l e g
 exact ⟨R, Ev.congr (fun k => if_neg hne) h, g⟩
theorem tot_plus0 (xs : List S66) (hx : xs.length < 100) (hg : ∀ i : Nat, i < xs.length → DG (rd_T66 xs i).f0.f0 (rd_T66 xs i).f0.f1 (rd_T66 xs i).f0.f2) : ∀ (d i : Nat), xs.length = i + d → ∀ (s : Bool) (l : List Int) (e : Int), DG s l e →
  ∃ R : Int × Bool × List Int × Int, Ev (fun k => bound_num_plus.o0 k xs (xs.length : Int) (i : Int) s l e) R ∧ (R.1 = 0 → DG R.2.1 R.2.2.1 R.2.2.2)
 | 0, i, hi, s, l, e, g => by
  refine ⟨(0, s, l, e), Ev.step (f := fun _ => some (0, s, l, e)) (fun k => ?_) (Ev.now _), fun _ => g⟩
  rw [bound_num_plus.o0, if_neg (by omega)]
 | d + 1, i, hi, s, l, e, g => by
  have hw : wrap64 ((i : Int) + 1) = ((i + 1 : Nat) : Int) := (w64 (by omega) (by omega)).trans (by omega)
  have c1 : (i : Int) < (xs.length : Int) := by omega
  have c2 : (0 : Int) ≤ (i : Int) := by omega
  obtain ⟨r, hr, gr⟩ := tot_add g (hg i (by omega))
  by_cases z : r.2.2.2 = 0
  ·
   obtain ⟨R, hR, gR⟩ := tot_plus0 xs hx hg d (i + 1) (by omega) _ _ _ (gr z)
   refine ⟨R, ?_, gR⟩
   apply Ev.step
   ·
    intro k
    rw [bound_num_plus.o0, if_pos c1, if_pos c2, if_pos c1, hw]
   exact Ev.bind hr (Ev.congr (fun k => if_pos z) hR)
  ·
   refine ⟨(r.2.2.2, false, [], 0), ?_, fun h => absurd h z⟩
   apply Ev.step
   ·
    intro k
    rw [bound_num_plus.o0, if_pos c1, if_pos c2, if_pos c1]
   exact Ev.bind hr (Ev.congr (fun k => if_neg z) (Ev.now _))
theorem tot_plus (xs : List S66) (hx : xs.length < 100) (hne : xs ≠ []) (hg : ∀ i : Nat, i < xs.length → DG (rd_T66 xs i).f0.f0 (rd_T66 xs i).f0.f1 (rd_T66 xs i).f0.f2) {s : Bool} {l : List Int} {e : Int} (g : DG s l e) :
  ∃ R : Int × Bool × List Int × Int, Ev (fun k => bound_num_plus.o k s l e xs) R ∧ (R.1 = 0 → DG R.2.1 R.2.2.1 R.2.2.2) := by
 obtain ⟨R, h, g⟩ := tot_plus0 xs hx hg xs.length 0 (by omega) s l e g
 exact ⟨R, Ev.congr (fun k => if_neg hne) h, g⟩
theorem rq0 (a b c d : S32) : rd_T32 [a, b, c, d] 0 = a := rfl
theorem rq1 (a b c d : S32) : rd_T32 [a, b, c, d] 1 = b := rfl
theorem rq2 (a b c d : S32) : rd_T32 [a, b, c, d] 2 = c := rfl
theorem rq3 (a b c d : S32) : rd_T32 [a, b, c, d] 3 = d := rfl
theorem lq (a b c d : S32) : (([a, b, c, d] : List S32).length : Int) = 4 := rfl
theorem q12 : wrap64 (1 + 1) = 2 := w64 (by decide) (by decide)
theorem q23 : wrap64 (2 + 1) = 3 := w64 (by decide) (by decide)
theorem q34 : wrap64 (3 + 1) = 4 := w64 (by decide) (by decide)
theorem q01 : wrap64 (0 + 1) = 1 := w64 (by decide) (by decide)
theorem chk4 (a b c d : S32) (ha : dmay a.f1 a.f2) (hb : dmay b.f1 b.f2) (hd : dmay d.f1 d.f2) : Ev (fun k => bound_checked.f k [a, b, c, d]) (if dmay c.f1 c.f2 then 0 else 9) := by
 unfold bound_checked.f
 rw [lq]
 refine Ev.step (f := fun k => bound_checked.l0 k [a, b, c, d] 4 1) (fun k => ?_) (Ev.step (f := fun k => bound_checked.l0 k [a, b, c, d] 4 2) (fun k => ?_) ?_)
 ·
  rw [bound_checked.l0, lq, if_pos (by decide), if_pos (by decide), if_pos (by decide), rq0, check_ok ha, Option.bind_some, if_pos rfl, q01]
 ·
  rw [bound_checked.l0, lq, if_pos (by decide), if_pos (by decide), if_pos (by decide), rq1, check_ok hb, Option.bind_some, if_pos rfl, q12]
 by_cases hc : dmay c.f1 c.f2
 ·
  rw [if_pos hc]
  refine Ev.step (f := fun k => bound_checked.l0 k [a, b, c, d] 4 3) (fun k => ?_) (Ev.step (f := fun k => bound_checked.l0 k [a, b, c, d] 4 4) (fun k => ?_) (Ev.step (f := fun _ => some 0) (fun k => ?_) (Ev.now _)))
  ·
   rw [bound_checked.l0, lq, if_pos (by decide), if_pos (by decide), if_pos (by decide), rq2, check_ok hc, Option.bind_some, if_pos rfl, q23]
  ·
   rw [bound_checked.l0, lq, if_pos (by decide), if_pos (by decide), if_pos (by decide), rq3, check_ok hd, Option.bind_some, if_pos rfl, q34]
  ·
   rw [bound_checked.l0, if_neg (by decide)]
 ·
  rw [if_neg hc]
  refine Ev.step (f := fun _ => some 9) (fun k => ?_) (Ev.now _)
  rw [bound_checked.l0, lq, if_pos (by decide), if_pos (by decide), if_pos (by decide), rq2, check_no hc, Option.bind_some, if_neg (by decide)]
theorem DG.one : DG false [1] 0 := ⟨1, ⟨Nm.one (by decide) (by decide) (by decide), rfl⟩, by decide, by decide⟩
theorem DG.zero : DG false [] 0 := ⟨0, ⟨Nm.nil, rfl⟩, by decide, by decide⟩
theorem rn0 (a : S66) : rd_T66 [a] ((0 : Nat) : Int) = a := rfl
theorem rn20 (a b : S66) : rd_T66 [a, b] ((0 : Nat) : Int) = a := rfl
theorem rn21 (a b : S66) : rd_T66 [a, b] ((1 : Nat) : Int) = b := rfl
theorem tot_value {s : Bool} {l : List Int} {e : Int} (w : ∀ n ∈ l, (Lit.int .u64 n).wf = true) : ∃ r : Bool × List Int × Int × Int, Ev (fun k => bound_Value.f k false [1] 0 false [] 0 s l e false [1] 0 false) r ∧ r.2.1.length ≤ 1024 := by
 have hc := chk4 (⟨false, [1], 0⟩ : S32) (⟨false, [], 0⟩ : S32) (⟨s, l, e⟩ : S32) (⟨false, [1], 0⟩ : S32) DG.one.may DG.zero.may DG.one.may
 unfold bound_Value.f
 by_cases hd : dmay l e
 ·
  rw [if_pos hd] at hc
  have gx : DG s l e := ⟨_, Wh.of (s := s) (Nm.of_wf (n := 1024) w hd.2.2), hd.1, hd.2.1⟩
  obtain ⟨T, hT, gT⟩ := tot_times [(⟨⟨s, l, e⟩⟩ : S66), (⟨⟨false, [1], 0⟩⟩ : S66)] (by simp) (by simp) (fun i hi => by
   have : i = 0 ∨ i = 1 := by simp at hi; omega
   rcases this with rfl | rfl
   ·
    rw [rn20]; exact gx
   ·
    rw [rn21]; exact DG.one) DG.one
  by_cases z1 : T.1 = 0
  ·
   obtain ⟨S, hS, gS⟩ := tot_plus [(⟨⟨false, [], 0⟩⟩ : S66)] (by simp) (by simp) (fun i hi => by
    have : i = 0 := by simp at hi; omega
    subst this
    rw [rn0]; exact DG.zero) (gT z1)
   by_cases z2 : S.1 = 0
   ·
    obtain ⟨N, hN, gN⟩ := tot_norm (gS z2)
    by_cases z3 : N.2.2.2 = 0
    ·
     refine ⟨(N.1, N.2.1, N.2.2.1, 0), Ev.congr (fun k => if_neg (by decide)) (Ev.bind hc (Ev.congr (fun k => if_pos rfl) (Ev.bind hT (Ev.congr (fun k => if_pos z1) (Ev.bind hS (Ev.congr (fun k => if_pos z2) (Ev.bind hN (Ev.congr (fun k => if_pos z3) (Ev.now _))))))))), (gN z3).len⟩
    ·
     exact ⟨(false, [], 0, N.2.2.2), Ev.congr (fun k => if_neg (by decide)) (Ev.bind hc (Ev.congr (fun k => if_pos rfl) (Ev.bind hT (Ev.congr (fun k => if_pos z1) (Ev.bind hS (Ev.congr (fun k => if_pos z2) (Ev.bind hN (Ev.congr (fun k => if_neg z3) (Ev.now _))))))))), by simp⟩
   ·
    exact ⟨(false, [], 0, S.1), Ev.congr (fun k => if_neg (by decide)) (Ev.bind hc (Ev.congr (fun k => if_pos rfl) (Ev.bind hT (Ev.congr (fun k => if_pos z1) (Ev.bind hS (Ev.congr (fun k => if_neg z2) (Ev.now _))))))), by simp⟩
  ·
   exact ⟨(false, [], 0, T.1), Ev.congr (fun k => if_neg (by decide)) (Ev.bind hc (Ev.congr (fun k => if_pos rfl) (Ev.bind hT (Ev.congr (fun k => if_neg z1) (Ev.now _))))), by simp⟩
 ·
  rw [if_neg hd] at hc
  exact ⟨(false, [], 0, 9), Ev.congr (fun k => if_neg (by decide)) (Ev.bind hc (Ev.congr (fun k => if_neg (by decide)) (Ev.now _))), by simp⟩
end Go.Proofs.YtpdjahhimmaonaaDoor.PD
end
section
namespace Go.Proofs.YtpdjahhimmaonaaDoor.Pure
open Go.RowKit Go.Proofs.YtpdjahhimmaonaaDoor.PD Go.Proofs.YtpdjahhimmaonaaDoorW.PrintWords Go.Proofs.YtpdjahhimmaonaaDoorW.PrintLast Go.Proofs.YtpdjahhimmaonaaDoorW.PrintMore Go.Proofs.YtpdjahhimmaonaaDoor.Num Go.Proofs.YtpdjahhimmaonaaDoor.Flt
set_option linter.unusedVariables false
theorem lof_at {n x : Int} (h0 : -100000 ≤ n) (h1 : n ≤ 100000) (hx : -8000 ≤ x) (hx' : x ≤ 9000) : Ev (fun k => vernierlaw34_of.f k n x) ((dt n x).1, (dt n x).2.1, (dt n x).2.2.1) ∧ Rg n x := by
 obtain ⟨_, g⟩ := of_at h0 h1 hx hx'
 refine ⟨?_, g⟩
 unfold vernierlaw34_of.f
 exact Ev.bind (dof_ev (by omega) (by omega) (by omega) (by omega)) (Ev.now _)
theorem dt_unit {x : Int} (hx : -8000 ≤ x) (hx' : x ≤ 0) : dt 1 x = (false, [1], x, 0) := by
 have o : Odd2 1 0 0 := by unfold Odd2; decide
 have e1 : t2 1 = 0 := t2_eq (Int.le_refl 0) o
 have e2 : od 1 = 1 := (od_eq (Int.le_refl 0) o).trans (by decide)
 unfold dt
 rw [if_neg (by decide), show ((1 : Int).natAbs : Int) = 1 by decide, e1, e2, show decide ((1 : Int) < 0) = false by decide, dg_one one_lt_B (v := 1) (by decide) (by decide), show x + ((0 : Nat) : Int) = x by omega, w64 (by omega) (by omega)]
 unfold dtold
 rw [if_pos]
 unfold dmay
 refine ⟨by omega, by omega, by decide⟩
theorem above_unit {x : Int} (hx : -8000 ≤ x) (hx' : x ≤ 0) : Ev (fun k => dyadic_Above.f k false [1] x 128) (false, [1], x, 0) := by
 obtain ⟨N, h, _, hN⟩ := above_ev (l := [1]) (v := 1) (e := x) (n := 1) (Nm.one (by decide) (by decide) (by decide)) (by omega) (by unfold dmay; exact ⟨by omega, by omega, by decide⟩) (by decide)
 have h0 : N = 0 := by
  rcases hN with h | h
  ·
   exact h
  ·
   have := two_pow_mono (m := 1) (n := N + 127) (by omega)
   omega
 subst h0
 have e : upn 1 0 = 1 := by unfold upn; rw [Int.pow_zero, Int.emod_one, Int.ediv_one, if_neg (by decide)]
 rw [e, show x + ((0 : Nat) : Int) = x by omega, dt_unit hx hx'] at h
 exact h
theorem alive34_ev : Ev (fun k => vernierlaw34_alive.f k) true := by
 have hf := first_at
 rw [dt_unit (x := -53) (by omega) (by omega), dt_unit (x := -1075) (by omega) (by omega)] at hf
 have hu := up_chain (above_unit (x := -53) (by omega) (by omega)) (above_unit (x := -1075) (by omega) (by omega)) rfl rfl
 have hl := dot_end (n := 1) (j := 1) (by omega) hu
 have hD := Dot_chain (n := 1) (odd1_no (n := 1) (by omega) (by omega)) hf hl
 unfold vernierlaw34_alive.f
 refine Ev.bind hD (Ev.congr (fun k => (if_pos rfl).trans ((if_pos rfl).trans ((if_pos rfl).trans ((if_pos (by decide)).trans (if_pos rfl))))) ?_)
 exact Ev.now _
theorem one_at : Ev (fun k => vernierlaw34_of.f k 1 0) (false, [1], 0) := by
 have h := (lof_at (n := 1) (x := 0) (by decide) (by decide) (by decide) (by decide)).1
 rw [dt_unit (x := 0) (by decide) (by decide)] at h
 exact h
theorem own_loop {s : Bool} {l : List Int} {e : Int} {r : Bool × List Int × Int × Int} (hr : Ev (fun k => bound_Value.f k false [1] 0 false [] 0 s l e false [1] 0 false) r) (hlen : r.2.1.length ≤ 1024) : ∀ (d j : Nat) (m : List Int), m.length = j + d → m.length < 17592186044416 →
  Ev (fun k => vernierlaw34_BoundOwn.l0 k r.2.2.2 (j : Int) s l e s m e r.1 r.2.1 r.2.2.1) true
 | 0, j, m, hm, hb => by
  apply Ev.step
  ·
   intro k
   rw [vernierlaw34_BoundOwn.l0, if_neg (by omega)]
  refine Ev.bind one_at (Ev.bind one_at (Ev.bind hr (Ev.congr (fun k => (if_pos rfl).trans ((if_pos (beq_self_eq_true _)).trans (if_pos rfl))) (Ev.bind (same_true rfl (by omega)) (Ev.now _)))))
 | d + 1, j, m, hm, hb => by
  have hw : wrap64 ((j : Int) + 1) = ((j + 1 : Nat) : Int) := (w64 (by omega) (by omega)).trans (by omega)
  apply Ev.step
  ·
   intro k
   rw [vernierlaw34_BoundOwn.l0, if_pos (by omega), if_pos (by omega), hw]
  exact own_loop hr hlen d (j + 1) _ (by rw [List.length_set]; omega) (by rw [List.length_set]; omega)
theorem BoundOwn (a0_0 : Bool) (l0_1 : List Int) (a0_2 : Int) (y0 : l0_1.length * 8 ≤ 140737488351232) (w0 : ∀ n ∈ l0_1, (Lit.int .u64 n).wf = true) (w1 : (Lit.int .i64 a0_2).wf = true) : ∃ k, vernierlaw34_BoundOwn.f k a0_0 l0_1 a0_2 = some true := by
 refine Ev.rounds ?_
 unfold vernierlaw34_BoundOwn.f
 obtain ⟨r, hr, hl⟩ := tot_value (s := a0_0) (e := a0_2) w0
 refine Ev.bind alive34_ev (Ev.congr (fun k => if_pos rfl) (Ev.bind (g := fun _ => some ([] : List Int)) (a := []) (Ev.now _) (Ev.congr (fun k => if_pos (by simp; omega)) (Ev.bind (g := fun _ => some ([] ++ l0_1)) (a := l0_1) (Ev.now _) (Ev.bind one_at (Ev.bind one_at (Ev.bind hr ?_)))))))
 exact own_loop hr hl l0_1.length 0 l0_1 (by omega) (by omega)
end Go.Proofs.YtpdjahhimmaonaaDoor.Pure
end
