/- Parts of a proof. -/
import Derived.Test.YtkjhjlnjkohlbaaZRatioBack50
import Derived.Test.YtkjhjlnjkohlbaaZRatioBack41
section
namespace Go.Proofs.Ytkjhjlnjkohlbaa.PR
open Go.RowKit Go.Proofs.YtkjhjlnjkohlbaaW.PrintWords Go.Proofs.YtkjhjlnjkohlbaaW.PrintLast Go.Proofs.YtkjhjlnjkohlbaaW.PrintMore Go.Proofs.Ytkjhjlnjkohlbaa.Num
set_option linter.unusedVariables false
set_option linter.unusedSimpArgs false
theorem rz_rt {X W : Int} {l : List Int} {n m : Nat} (hX : (X.natAbs : Int) < 18446744073709551616 ^ n) (nW : Nm l W m) (hW : 0 < W) : ∃ x w, Rt (rz X W).1 (rz X W).2.1 (rz X W).2.2 x w n m ∧ X * w = x * W := by
 have hg := gcd_pos (x := X) hW
 have hd := rz_den (x := X) hW
 obtain ⟨c, hc⟩ := Int.gcd_dvd_left X W
 obtain ⟨e, he⟩ := Int.gcd_dvd_right X W
 have eX : X / ((Int.gcd X W : Nat) : Int) = c := by
  conv => lhs; arg 1; rw [hc]
  exact Int.mul_ediv_cancel_left c (by omega)
 have eW : W / ((Int.gcd X W : Nat) : Int) = e := by
  conv => lhs; arg 1; rw [he]
  exact Int.mul_ediv_cancel_left e (by omega)
 unfold rz
 rw [eW] at hd
 rw [eX, eW]
 have hl : (c.natAbs : Int) ≤ (X.natAbs : Int) := by
  have e1 : (X.natAbs : Int) = ((Int.gcd X W : Nat) : Int) * (c.natAbs : Int) := by
   conv => lhs; rw [hc, Int.natAbs_mul]
   rw [Int.natCast_mul]
   rfl
  have := Int.mul_le_mul_of_nonneg_right (show 1 ≤ ((Int.gcd X W : Nat) : Int) by omega) (show 0 ≤ (c.natAbs : Int) by omega)
  omega
 refine ⟨c, e, ⟨Wh.made (Int.lt_of_le_of_lt hl hX), Nm.dg_le nW (Int.le_of_lt hd.1) hd.2, hd.1⟩, ?_⟩
 generalize ((Int.gcd X W : Nat) : Int) = g at *
 rw [hc, he]
 grind
variable {s t : Bool} {a d b e : List Int} {x w y v : Int} {n m q p : Nat}
theorem Rt.den2 (h : Rt s a d x w n m) (g : Rt t b e y v q p) (hs : n + m + q + p ≤ 1000000) : ∃ l, Nm l (w * v) (m + p) := ⟨_, (h.den.mul g.den (by omega)).2⟩
theorem Rt.sum_lt (h : Rt s a d x w n m) (g : Rt t b e y v q p) (hs : n + m + q + p ≤ 1000000) : ((x * v + y * w).natAbs : Int) < 18446744073709551616 ^ (n + m + q + p + 1) := by
 obtain ⟨_, n1⟩ := times_ev h.num g.den (by omega)
 obtain ⟨_, n2⟩ := times_ev g.num h.den (by omega)
 exact (n1.add (n + m + q + p) n2 (by omega) (by omega) (by omega)).2.lt
theorem Rt.diff_lt (h : Rt s a d x w n m) (g : Rt t b e y v q p) (hs : n + m + q + p ≤ 1000000) : ((x * v - y * w).natAbs : Int) < 18446744073709551616 ^ (n + m + q + p + 1) := by
 obtain ⟨_, n1⟩ := times_ev h.num g.den (by omega)
 obtain ⟨_, n2⟩ := times_ev g.num h.den (by omega)
 exact (n1.sub (n + m + q + p) n2 (by omega) (by omega) (by omega)).2.lt
theorem Rt.prod_lt (h : Rt s a d x w n m) (g : Rt t b e y v q p) (hs : n + m + q + p ≤ 1000000) : ((x * y).natAbs : Int) < 18446744073709551616 ^ (n + q) := (h.num.mul g.num (by omega)).2.lt
theorem natAbs_sv (t : Bool) (z : Int) : (sv t z).natAbs = z.natAbs := by unfold sv; split <;> omega
theorem Rt.quot_lt (h : Rt s a d x w n m) (g : Rt t b e y v q p) (hs : n + m + q + p ≤ 1000000) : ((sv t (x * v)).natAbs : Int) < 18446744073709551616 ^ (n + p) := by
 rw [natAbs_sv]
 exact (times_ev h.num g.den (by omega)).2.lt
theorem Rt.den3 (h : Rt s a d x w n m) (g : Rt t b e y v q p) (hs : n + m + q + p ≤ 1000000) : ∃ l, Nm l (w * sv t y) (m + q) := ⟨_, (h.den.mul g.num.abs (by omega)).2⟩
theorem sv_eq {t : Bool} {x v w1 x1 w y : Int} (h : sv t (x * v) * w1 = x1 * (w * sv t y)) : x * v * w1 = x1 * (w * y) := by
 unfold sv at h
 cases t
 ·
  simpa using h
 ·
  simp only [if_true] at h
  have e1 : -(x * v) * w1 = -(x * v * w1) := Int.neg_mul _ _
  have e2 : x1 * (w * -y) = -(x1 * (w * y)) := by rw [Int.mul_neg, Int.mul_neg]
  omega
theorem sgn_zero {a b : Int} (h : a = b) : sgn (a - b) = 0 := by subst h; rw [Int.sub_self]; rfl
theorem back_mul {x w y v x1 w1 x2 w2 : Int} (h1 : x * v * w1 = x1 * (w * y)) (h2 : x1 * y * w2 = x2 * (w1 * v)) (hw : 0 < w1) (hv : 0 < v) : x2 * w = x * w2 := by
 have h : (x2 * w) * (w1 * v) = (x * w2) * (w1 * v) := by grind
 exact Int.eq_of_mul_eq_mul_right (Int.ne_of_gt (Int.mul_pos hw hv)) h
theorem back_sub {x w y v x3 w3 x4 w4 : Int} (h1 : (x * v + y * w) * w3 = x3 * (w * v)) (h2 : (x3 * v - y * w3) * w4 = x4 * (w3 * v)) (hw : 0 < w3) (hv : 0 < v) : x4 * w = x * w4 := by
 have h : (x4 * w) * (w3 * v) = (x * w4) * (w3 * v) := by grind
 exact Int.eq_of_mul_eq_mul_right (Int.ne_of_gt (Int.mul_pos hw hv)) h
end Go.Proofs.Ytkjhjlnjkohlbaa.PR
end
section
namespace Go.Proofs.Ytkjhjlnjkohlbaa.Pure
open Go.RowKit Go.Proofs.Ytkjhjlnjkohlbaa.PR Go.Proofs.YtkjhjlnjkohlbaaW.PrintWords Go.Proofs.YtkjhjlnjkohlbaaW.PrintLast Go.Proofs.YtkjhjlnjkohlbaaW.PrintMore Go.Proofs.Ytkjhjlnjkohlbaa.Num
set_option linter.unusedVariables false
theorem back_tail {s t : Bool} {a d b e : List Int} {x w y v : Int} (h : Rt s a d x w 6 6) (g : Rt t b e y v 6 6) :
  Ev (fun k => vernierlaw05_RatioBack.j0 k 0 s a d t b e (rz (x * v + y * w) (w * v)).1 (rz (x * v + y * w) (w * v)).2.1 (rz (x * v + y * w) (w * v)).2.2) true := by
 apply Ev.step
 ·
  intro k
  rw [vernierlaw05_RatioBack.j0, if_pos rfl]
 obtain ⟨l, nl⟩ := h.den2 g (by omega)
 obtain ⟨x3, w3, r3, e3⟩ := rz_rt (h.sum_lt g (by omega)) nl (mul_pos2 h.pos g.pos)
 obtain ⟨l', nl'⟩ := r3.den2 g (by omega)
 obtain ⟨x4, w4, r4, e4⟩ := rz_rt (r3.diff_lt g (by omega)) nl' (mul_pos2 r3.pos g.pos)
 have hc := r4.cmp h (by omega)
 rw [sgn_zero (back_sub e3 e4 r3.pos g.pos)] at hc
 exact Ev.bind (r3.sub g (by omega)) (Ev.bind hc (Ev.congr (fun k => (if_pos rfl).trans (if_pos rfl)) (Ev.now _)))
theorem RatioBack (a0_0 : Bool) (l0_1 : List Int) (l0_2 : List Int) (a1_0 : Bool) (l1_1 : List Int) (l1_2 : List Int) (y0 : l0_1.length * 8 ≤ 140737488351232) (w0 : ∀ n ∈ l0_1, (Lit.int .u64 n).wf = true) (y1 : l0_2.length * 8 ≤ 140737488351232) (w1 : ∀ n ∈ l0_2, (Lit.int .u64 n).wf = true) (y2 : l1_1.length * 8 ≤ 140737488351232) (w2 : ∀ n ∈ l1_1, (Lit.int .u64 n).wf = true) (y3 : l1_2.length * 8 ≤ 140737488351232) (w3 : ∀ n ∈ l1_2, (Lit.int .u64 n).wf = true) : ∃ k, vernierlaw05_RatioBack.f k a0_0 l0_1 l0_2 a1_0 l1_1 l1_2 = some true := by
 refine Ev.rounds ?_
 unfold vernierlaw05_RatioBack.f
 refine Ev.bind alive5_ev (Ev.congr (fun k => if_pos rfl) (Ev.bind (few2_ev _ _) ?_))
 show Ev (fun k => if (fit l0_1 l0_2 && fit l1_1 l1_2) = true then _ else _) true
 by_cases hf : (fit l0_1 l0_2 && fit l1_1 l1_2) = true
 case neg => exact Ev.congr (fun k => if_neg hf) (Ev.now _)
 refine Ev.congr (fun k => if_pos hf) ?_
 unfold fit at hf
 rw [Bool.and_eq_true, Bool.and_eq_true, Bool.and_eq_true, decide_eq_true_eq, decide_eq_true_eq, decide_eq_true_eq, decide_eq_true_eq] at hf
 have n0 := Wh.of (s := a0_0) (Nm.of_wf (n := 6) w0 hf.1.1)
 have n1 := Nm.of_wf (n := 6) w1 hf.1.2
 have n2 := Wh.of (s := a1_0) (Nm.of_wf (n := 6) w2 hf.2.1)
 have n3 := Nm.of_wf (n := 6) w3 hf.2.2
 clear hf y0 y1 y2 y3 w0 w1 w2 w3
 have p1 := n1.nonneg
 have p3 := n3.nonneg
 generalize V 18446744073709551616 l0_2 = w at n1 p1
 generalize V 18446744073709551616 l1_2 = v at n3 p3
 generalize sv a0_0 (V 18446744073709551616 l0_1) = x at n0
 generalize sv a1_0 (V 18446744073709551616 l1_1) = y at n2
 by_cases hz : w = 0 ∨ v = 0
 ·
  obtain ⟨e1, _, e2, _⟩ := Rt.bad (s := a0_0) (t := a1_0) (a := l0_1) (b := l1_1) n1 n3 (by omega) (by omega) hz
  refine Ev.bind e2 (Ev.bind e1 (Ev.congr (fun k => if_neg (by decide)) ?_))
  refine Ev.step (f := fun _ => some true) (fun k => ?_) (Ev.now _)
  rw [vernierlaw05_RatioBack.j0, if_neg (by decide)]
  rfl
 have h : Rt a0_0 l0_1 l0_2 x w 6 6 := ⟨n0, n1, by omega⟩
 have g : Rt a1_0 l1_1 l1_2 y v 6 6 := ⟨n2, n3, by omega⟩
 have ht := back_tail h g
 by_cases hy : y = 0
 ·
  subst hy
  exact Ev.bind (h.div0 g (by omega)) (Ev.bind (h.add g (by omega)) (Ev.congr (fun k => if_neg (by decide)) ht))
 ·
  obtain ⟨e1, hp⟩ := h.div g hy (by omega)
  obtain ⟨l, nl⟩ := h.den3 g (by omega)
  obtain ⟨x1, w1, r1, q1⟩ := rz_rt (h.quot_lt g (by omega)) nl (mul_pos2 h.pos hp)
  obtain ⟨l', nl'⟩ := r1.den2 g (by omega)
  obtain ⟨x2, w2, r2, q2⟩ := rz_rt (r1.prod_lt g (by omega)) nl' (mul_pos2 r1.pos g.pos)
  have hc := r2.cmp h (by omega)
  rw [sgn_zero (back_mul (sv_eq q1) q2 r1.pos g.pos)] at hc
  exact Ev.bind e1 (Ev.bind (h.add g (by omega)) (Ev.congr (fun k => if_pos rfl) (Ev.bind (r1.mul g (by omega)) (Ev.bind hc (Ev.congr (fun k => (if_pos rfl).trans ((if_pos rfl).trans (if_pos rfl))) ht)))))
end Go.Proofs.Ytkjhjlnjkohlbaa.Pure
end
