/- Parts of a proof. -/
import Derived.Test.YtkjhjlnjkohlbaaZRatioTells50
import Derived.Test.YtkjhjlnjkohlbaaZRatioTells43
section
namespace Go.Proofs.Ytkjhjlnjkohlbaa.PR
open Go.RowKit Go.Proofs.YtkjhjlnjkohlbaaW.PrintWords Go.Proofs.YtkjhjlnjkohlbaaW.PrintLast Go.Proofs.YtkjhjlnjkohlbaaW.PrintMore Go.Proofs.Ytkjhjlnjkohlbaa.Num
set_option linter.unusedVariables false
set_option linter.unusedSimpArgs false
def rz (x w : Int) : Bool × List Int × List Int := ((wz (x / (Int.gcd x w : Nat))).1, (wz (x / (Int.gcd x w : Nat))).2, dg 18446744073709551616 (w / (Int.gcd x w : Nat)))
theorem gcd_pos {x w : Int} (hw : 0 < w) : 0 < ((Int.gcd x w : Nat) : Int) := by
 have := Int.gcd_pos_of_ne_zero_right x (show w ≠ 0 by omega)
 omega
theorem sv_div {s : Bool} {a : List Int} {x w : Int} {n : Nat} (h : Wh s a x n) (hw : 0 < w) : sv s ((x.natAbs : Int) / ((Int.gcd x w : Nat) : Int)) = x / ((Int.gcd x w : Nat) : Int) := by
 obtain ⟨c, hc⟩ := Int.gcd_dvd_left x w
 have hg := gcd_pos (x := x) hw
 have hv := h.val
 generalize ((Int.gcd x w : Nat) : Int) = g at *
 have e : x / g = c := by rw [hc]; exact Int.mul_ediv_cancel_left _ (by omega)
 have e2 : (x.natAbs : Int) = g * (c.natAbs : Int) := by
  rw [hc, Int.natAbs_mul]
  have : (g.natAbs : Int) = g := by omega
  rw [Int.natCast_mul, this]
 rw [e, e2, Int.mul_ediv_cancel_left _ (by omega)]
 rw [e2] at hv
 unfold sv at hv ⊢
 split at hv
 ·
  rename_i hs
  rw [if_pos hs]
  have : g * c = g * (-(c.natAbs : Int)) := by rw [← hc, hv]; grind
  have := Int.eq_of_mul_eq_mul_left (by omega) this
  omega
 ·
  rename_i hs
  rw [if_neg hs]
  have : g * c = g * (c.natAbs : Int) := by rw [← hc, hv]
  have := Int.eq_of_mul_eq_mul_left (by omega) this
  omega
theorem gcd_natAbs (x w : Int) : Int.gcd (x.natAbs : Int) w = Int.gcd x w := by
 unfold Int.gcd
 rw [Int.natAbs_natCast]
theorem told_ev {s : Bool} {a d : List Int} {x w : Int} {n m : Nat} (h : Wh s a x n) (g : Nm d w m) (hw : 0 < w) (hn : n < 10000000000) (hm : m < 10000000000) : Ev (fun k => ratio_told.f k s a d) (rz x w) := by
 have eg := h.nm.gcd (n + m) g (by omega) (by omega) (by omega)
 rw [gcd_natAbs] at eg
 have hg := gcd_pos (x := x) hw
 have hgw : ((Int.gcd x w : Nat) : Int) ≤ w := Int.le_of_dvd hw (Int.gcd_dvd_right x w)
 have ng := g.dg_le (Int.le_of_lt hg) hgw
 obtain ⟨e1, n1, _⟩ := h.nm.divmod ng hg (by omega) (by omega)
 obtain ⟨e2, n2, _⟩ := g.divmod ng hg (by omega) (by omega)
 have hN := (Wh.of (s := s) n1).norm (by omega)
 rw [sv_div h hw] at hN
 unfold ratio_told.f rz
 exact Ev.bind eg (Ev.bind e1 (Ev.bind e2 (Ev.bind hN.1 (Ev.now _))))
theorem rcheck_ev {s : Bool} {a d : List Int} {w : Int} {m : Nat} (g : Nm d w m) (hw : 0 < w) (hm : m ≤ 35184372088832) : Ev (fun k => ratio_Check.f k s a d) 0 := by
 unfold ratio_Check.f
 have := bitsOf_pos hw
 exact Ev.bind (g.bits hm) (Ev.congr (fun k => if_neg (by omega)) (Ev.now _))
theorem rcheck0_ev {s : Bool} {a d : List Int} {m : Nat} (g : Nm d 0 m) (hm : m ≤ 35184372088832) : Ev (fun k => ratio_Check.f k s a d) 9 := by
 unfold ratio_Check.f
 exact Ev.bind (g.bits hm) (Ev.congr (fun k => if_pos rfl) (Ev.now _))
theorem rnorm_ev {s : Bool} {a d : List Int} {x w : Int} {n m : Nat} (h : Wh s a x n) (g : Nm d w m) (hw : 0 < w) (hn : n < 10000000000) (hm : m < 10000000000) : Ev (fun k => ratio_Norm.f k s a d) ((rz x w).1, (rz x w).2.1, (rz x w).2.2, 0) := by
 unfold ratio_Norm.f
 exact Ev.bind (rcheck_ev g hw (by omega)) (Ev.congr (fun k => if_pos rfl) (Ev.bind (told_ev h g hw hn hm) (Ev.now _)))
theorem alive5_ev : Ev (fun k => vernierlaw05_alive.f k) true := by
 have h3 : Wh false [3] 3 1 := ⟨Nm.one (x := 3) (by decide) (by decide) (by decide), by decide⟩
 have h := rnorm_ev h3 (Nm.one (x := 6) (n := 1) (by decide) (by decide) (by decide)) (by decide) (by decide) (by decide)
 have e : rz 3 6 = (false, [1], [2]) := by
  unfold rz wz
  have hg : ((Int.gcd 3 6 : Nat) : Int) = 3 := by decide
  rw [hg]
  have e1 := dg_one one_lt_B (v := 1) (by decide) (by decide)
  have e2 := dg_one one_lt_B (v := 2) (by decide) (by decide)
  rw [show ((3 / 3 : Int).natAbs : Int) = 1 by decide, show (6 / 3 : Int) = 2 by decide, e1, e2]
  rfl
 rw [e] at h
 unfold vernierlaw05_alive.f
 refine Ev.bind h ?_
 refine Ev.congr (fun k => (if_pos rfl).trans ((if_pos rfl).trans ((if_pos (by decide)).trans ((if_pos rfl).trans ((if_pos rfl).trans (if_pos (by decide))))))) ?_
 exact Ev.now _
end Go.Proofs.Ytkjhjlnjkohlbaa.PR
end
section
namespace Go.Proofs.Ytkjhjlnjkohlbaa.PR
open Go.RowKit Go.Proofs.YtkjhjlnjkohlbaaW.PrintWords Go.Proofs.YtkjhjlnjkohlbaaW.PrintLast Go.Proofs.YtkjhjlnjkohlbaaW.PrintMore Go.Proofs.Ytkjhjlnjkohlbaa.Num
set_option linter.unusedVariables false
set_option linter.unusedSimpArgs false
theorem is_rz {x w n d : Int} {s' : Bool} {l' ld : List Int} {p q p0 q0 : Nat} (hw : 0 < w) (hx : (x.natAbs : Int) < 18446744073709551616 ^ p0) (nw : Nm (dg 18446744073709551616 w) w q0) (hn : Wh s' l' n p) (hd : Nm ld d q) (he : x * d = n * w)
  (b0 : p0 ≤ 1000000) (b1 : q0 ≤ 1000000) (b2 : p ≤ 1000000) (b3 : q ≤ 1000000) : Ev (fun k => vernierlaw05_is.f k (rz x w).1 (rz x w).2.1 (rz x w).2.2 s' l' ld) true := by
 have hg := gcd_pos (x := x) hw
 obtain ⟨X, hX⟩ := Int.gcd_dvd_left (a := x) (b := w)
 obtain ⟨W, hW⟩ := Int.gcd_dvd_right (a := x) (b := w)
 have hgg : ((Int.gcd x w : Nat) : Int) * ((Int.gcd X W : Nat) : Int) = ((Int.gcd x w : Nat) : Int) := by
  have h := congrArg (fun z : Nat => (z : Int)) (show Int.gcd x w = Int.gcd (((Int.gcd x w : Nat) : Int) * X) (((Int.gcd x w : Nat) : Int) * W) by rw [← hX, ← hW])
  rw [Int.gcd_mul_left] at h
  simpa using h.symm
 have eX : x / ((Int.gcd x w : Nat) : Int) = X := by
  conv => lhs; arg 1; rw [hX]
  exact Int.mul_ediv_cancel_left X (by omega)
 have eW : w / ((Int.gcd x w : Nat) : Int) = W := by
  conv => lhs; arg 1; rw [hW]
  exact Int.mul_ediv_cancel_left W (by omega)
 unfold rz
 rw [eX, eW]
 generalize ((Int.gcd x w : Nat) : Int) = g at *
 have h1 : ((Int.gcd X W : Nat) : Int) = 1 := by
  have : g * ((Int.gcd X W : Nat) : Int) = g * 1 := by omega
  exact Int.eq_of_mul_eq_mul_left (by omega) this
 have hW0 : 0 < W := by
  refine Int.lt_of_not_ge (fun h => ?_)
  have := Int.mul_nonneg (Int.le_of_lt hg) (show 0 ≤ -W by omega)
  rw [Int.mul_neg] at this
  omega
 have hWw : W ≤ w := by
  have := Int.mul_le_mul_of_nonneg_right (show 1 ≤ g by omega) (Int.le_of_lt hW0)
  omega
 have hXx : (X.natAbs : Int) ≤ (x.natAbs : Int) := by
  have e : (x.natAbs : Int) = g * (X.natAbs : Int) := by
   rw [hX, Int.natAbs_mul]
   have : (g.natAbs : Int) = g := by omega
   rw [Int.natCast_mul, this]
  have := Int.mul_le_mul_of_nonneg_right (show 1 ≤ g by omega) (show 0 ≤ (X.natAbs : Int) by omega)
  omega
 have hc : X * d = n * W := by
  have e1 : g * (X * d) = g * (n * W) := by
   have a1 : x * d = g * (X * d) := by rw [hX, Int.mul_assoc]
   have a2 : n * w = g * (n * W) := by rw [hW, ← Int.mul_assoc, Int.mul_comm n g, Int.mul_assoc]
   rw [← a1, ← a2, he]
  exact Int.eq_of_mul_eq_mul_left (by omega) e1
 have wX : Wh (wz X).1 (wz X).2 X p0 := Wh.made (Int.lt_of_le_of_lt hXx hx)
 have nW : Nm (dg 18446744073709551616 W) W q0 := nw.dg_le (Int.le_of_lt hW0) hWw
 have wd : Wh false ld d q := by have := Wh.of (s := false) hd; simpa [sv] using this
 have wW : Wh false (dg 18446744073709551616 W) W q0 := by have := Wh.of (s := false) nW; simpa [sv] using this
 obtain ⟨m1, n1⟩ := wX.mul wd (by omega)
 obtain ⟨m2, n2⟩ := hn.mul wW (by omega)
 have c := n1.cmp (p0 + q + p + q0) n2 (by omega) (by omega) (by omega)
 rw [hc, Int.sub_self] at c
 have eg := wX.nm.gcd (p0 + q0) nW (by omega) (by omega) (by omega)
 have hgl : (Int.gcd ((X.natAbs : Int)) W : Nat) = Int.gcd X W := gcd_natAbs X W
 have one : dg 18446744073709551616 (1 : Int) = [1] := by decide
 rw [hgl, h1, one] at eg
 obtain ⟨en, _⟩ := nW.norm (by omega)
 obtain ⟨ex, _⟩ := wX.norm (by omega)
 rw [hc] at m1
 unfold vernierlaw05_is.f
 refine Ev.bind eg (Ev.bind m1 (Ev.bind m2 (Ev.bind c ?_)))
 refine Ev.congr (fun k => (if_pos (show sgn (0 : Int) = 0 by decide)).trans ((if_pos (show ((([1] : List Int).length : Nat) : Int) = 1 by decide)).trans ((if_pos (show (0 : Int) < ((([1] : List Int).length : Nat) : Int) by decide)).trans (if_pos (show rd [1] 0 = 1 by decide))))) ?_
 refine Ev.bind en (Ev.bind (nW.same rfl (by omega)) (Ev.congr (fun k => if_pos rfl) ?_))
 refine Ev.bind ex (Ev.bind (wX.nm.same rfl (by omega)) (Ev.congr (fun k => if_pos rfl) (Ev.bind ex ?_)))
 rw [show ((wz X).1 == (wz X).1) = true from beq_self_eq_true _]
 exact Ev.now _
end Go.Proofs.Ytkjhjlnjkohlbaa.PR
end
section
namespace Go.Proofs.Ytkjhjlnjkohlbaa.PR
open Go.RowKit Go.Proofs.YtkjhjlnjkohlbaaW.PrintWords Go.Proofs.YtkjhjlnjkohlbaaW.PrintLast Go.Proofs.YtkjhjlnjkohlbaaW.PrintMore Go.Proofs.Ytkjhjlnjkohlbaa.Num
set_option linter.unusedVariables false
set_option linter.unusedSimpArgs false
def fit (a b : List Int) : Bool := decide (a.length ≤ 6) && decide (b.length ≤ 6)
theorem few_step (xs : List S28) (i : Nat) (hi : i < xs.length) (hx : xs.length < 100) {r : Bool} (h : fit (rd_T28 xs i).f0.f1 (rd_T28 xs i).f1 = true → Ev (fun k => vernierlaw05_few.l0 k xs (((i + 1 : Nat)) : Int)) r) :
  Ev (fun k => vernierlaw05_few.l0 k xs (i : Int)) (fit (rd_T28 xs i).f0.f1 (rd_T28 xs i).f1 && r) := by
 have hw : wrap64 ((i : Int) + 1) = ((i + 1 : Nat) : Int) := (w64 (by omega) (by omega)).trans (by omega)
 refine Ev.step (f := fun k => if (((rd_T28 xs i).f0.f1).length : Int) > 6 then (some false) else (if (((rd_T28 xs i).f1).length : Int) > 6 then (some false) else (vernierlaw05_few.l0 k xs (wrap64 ((i : Int) + 1))))) (fun k => ?_) ?_
 ·
  rw [vernierlaw05_few.l0, if_pos (by omega), if_pos (by omega)]
 rw [hw]
 unfold fit at h ⊢
 by_cases h1 : (rd_T28 xs i).f0.f1.length ≤ 6
 ·
  rw [decide_eq_true h1] at h ⊢
  refine Ev.congr (fun k => if_neg (by omega)) ?_
  by_cases h2 : (rd_T28 xs i).f1.length ≤ 6
  ·
   rw [decide_eq_true h2] at h ⊢
   exact Ev.congr (fun k => if_neg (by omega)) (h rfl)
  ·
   rw [decide_eq_false h2]
   exact Ev.congr (fun k => if_pos (by omega)) (Ev.now _)
 ·
  rw [decide_eq_false h1]
  exact Ev.congr (fun k => if_pos (by omega)) (Ev.now _)
theorem few_end (xs : List S28) (i : Nat) (hi : xs.length ≤ i) : Ev (fun k => vernierlaw05_few.l0 k xs (i : Int)) true := by
 refine Ev.step (f := fun _ => some true) (fun k => ?_) (Ev.now _)
 rw [vernierlaw05_few.l0, if_neg (by omega)]
theorem few2_ev (x y : S28) : Ev (fun k => vernierlaw05_few.f k [x, y]) (fit x.f0.f1 x.f1 && fit y.f0.f1 y.f1) := by
 refine few_step [x, y] 0 (by simp) (by simp) (fun _ => ?_)
 have h := few_step [x, y] 1 (by simp) (by simp) (r := true) (fun _ => few_end _ 2 (by simp))
 rw [Bool.and_true] at h
 exact h
structure Rt (s : Bool) (a d : List Int) (x w : Int) (n m : Nat) : Prop where
 num : Wh s a x n
 den : Nm d w m
 pos : 0 < w
theorem chk_ev {s t : Bool} {a d b e : List Int} {w v : Int} {m p : Nat} (g : Nm d w m) (h : Nm e v p) (hw : 0 < w) (hv : 0 < v) (hm : m ≤ 35184372088832) (hp : p ≤ 35184372088832) : Ev (fun k => ratio_checked.f k s a d t b e) 0 := by
 unfold ratio_checked.f
 exact Ev.bind (rcheck_ev g hw hm) (Ev.congr (fun k => if_pos rfl) (rcheck_ev h hv hp))
theorem chk0_ev {s t : Bool} {a d b e : List Int} {w v : Int} {m p : Nat} (g : Nm d w m) (h : Nm e v p) (hw : 0 ≤ w) (h0 : w = 0 ∨ v = 0) (hm : m ≤ 35184372088832) (hp : p ≤ 35184372088832) : Ev (fun k => ratio_checked.f k s a d t b e) 9 := by
 unfold ratio_checked.f
 by_cases hz : w = 0
 ·
  subst hz
  exact Ev.bind (rcheck0_ev g hm) (Ev.congr (fun k => if_neg (by decide)) (Ev.now _))
 ·
  have hv : v = 0 := by omega
  subst hv
  exact Ev.bind (rcheck_ev g (by omega) hm) (Ev.congr (fun k => if_pos rfl) (rcheck0_ev h hp))
theorem times_ev {s : Bool} {a e : List Int} {x v : Int} {n p : Nat} (h : Wh s a x n) (g : Nm e v p) (hp : n + p ≤ 17592186044416) : Ev (fun k => ratio_times.f k s a e) (wz (x * v)) ∧ Wh (wz (x * v)).1 (wz (x * v)).2 (x * v) (n + p) := by
 have wd : Wh false e v p := by have := Wh.of (s := false) g; simpa [sv] using this
 obtain ⟨e1, n1⟩ := h.mul wd hp
 unfold ratio_times.f
 exact ⟨Ev.bind e1 (Ev.now _), n1⟩
theorem mul_pos2 {a b : Int} (h : 0 < a) (g : 0 < b) : 0 < a * b := Int.mul_pos h g
variable {s t : Bool} {a d b e : List Int} {x w y v : Int} {n m q p : Nat}
theorem Rt.add (h : Rt s a d x w n m) (g : Rt t b e y v q p) (hs : n + m + q + p ≤ 1000000) :
  Ev (fun k => ratio_Add.f k s a d t b e) ((rz (x * v + y * w) (w * v)).1, (rz (x * v + y * w) (w * v)).2.1, (rz (x * v + y * w) (w * v)).2.2, 0) := by
 obtain ⟨e1, n1⟩ := times_ev h.num g.den (by omega)
 obtain ⟨e2, n2⟩ := times_ev g.num h.den (by omega)
 obtain ⟨e3, n3⟩ := n1.add (n + m + q + p) n2 (by omega) (by omega) (by omega)
 obtain ⟨e4, n4⟩ := h.den.mul g.den (by omega)
 have e5 := told_ev n3 n4 (mul_pos2 h.pos g.pos) (by omega) (by omega)
 unfold ratio_Add.f
 exact Ev.bind (chk_ev h.den g.den h.pos g.pos (by omega) (by omega)) (Ev.congr (fun k => if_pos rfl) (Ev.bind e1 (Ev.bind e2 (Ev.bind e3 (Ev.bind e4 (Ev.bind e5 (Ev.now _)))))))
theorem Rt.sub (h : Rt s a d x w n m) (g : Rt t b e y v q p) (hs : n + m + q + p ≤ 1000000) :
  Ev (fun k => ratio_Sub.f k s a d t b e) ((rz (x * v - y * w) (w * v)).1, (rz (x * v - y * w) (w * v)).2.1, (rz (x * v - y * w) (w * v)).2.2, 0) := by
 obtain ⟨e1, n1⟩ := g.num.neg (by omega)
 have g' : Rt (wz (-y)).1 (wz (-y)).2 e (-y) v q p := ⟨n1, g.den, g.pos⟩
 have h1 := h.add g' hs
 rw [show x * v + -y * w = x * v - y * w by rw [Int.neg_mul]; omega] at h1
 unfold ratio_Sub.f
 exact Ev.bind e1 (Ev.bind h1 (Ev.now _))
theorem Rt.mul (h : Rt s a d x w n m) (g : Rt t b e y v q p) (hs : n + m + q + p ≤ 1000000) :
  Ev (fun k => ratio_Mul.f k s a d t b e) ((rz (x * y) (w * v)).1, (rz (x * y) (w * v)).2.1, (rz (x * y) (w * v)).2.2, 0) := by
 obtain ⟨e1, n1⟩ := h.num.mul g.num (by omega)
 obtain ⟨e4, n4⟩ := h.den.mul g.den (by omega)
 have e5 := told_ev n1 n4 (mul_pos2 h.pos g.pos) (by omega) (by omega)
 unfold ratio_Mul.f
 exact Ev.bind (chk_ev h.den g.den h.pos g.pos (by omega) (by omega)) (Ev.congr (fun k => if_pos rfl) (Ev.bind e1 (Ev.bind e4 (Ev.bind e5 (Ev.now _)))))
theorem Rt.cmp (h : Rt s a d x w n m) (g : Rt t b e y v q p) (hs : n + m + q + p ≤ 1000000) : Ev (fun k => ratio_Cmp.f k s a d t b e) (sgn (x * v - y * w), 0) := by
 obtain ⟨e1, n1⟩ := times_ev h.num g.den (by omega)
 obtain ⟨e2, n2⟩ := times_ev g.num h.den (by omega)
 have e3 := n1.cmp (n + m + q + p) n2 (by omega) (by omega) (by omega)
 unfold ratio_Cmp.f
 exact Ev.bind (chk_ev h.den g.den h.pos g.pos (by omega) (by omega)) (Ev.congr (fun k => if_pos rfl) (Ev.bind e1 (Ev.bind e2 (Ev.bind e3 (Ev.now _)))))
theorem flip {z : Int} {n : Nat} (h : Wh (wz z).1 (wz z).2 z n) (u : Bool) : Wh ((wz z).1 != u) (wz z).2 (sv u z) n := by
 have ea : (sv u z).natAbs = z.natAbs := by unfold sv; split <;> omega
 refine ⟨ea ▸ h.nm, ?_⟩
 have h0 := h.val
 unfold sv at h0 ⊢
 cases u
 ·
  simp only [Bool.bne_false, Bool.false_eq_true, if_false]
  exact h0
 ·
  simp only [Bool.bne_true, if_true]
  cases hb : (wz z).1
  ·
   rw [hb] at h0
   simp only [Bool.false_eq_true, if_false, Bool.not_false, if_true] at h0 ⊢
   omega
  ·
   rw [hb] at h0
   simp only [if_true, Bool.not_true, Bool.false_eq_true, if_false] at h0 ⊢
   omega
theorem Wh.abs (g : Wh t b y q) : Nm b (sv t y) q := by
 have h := g.nm
 have hv := g.val
 have : ((y.natAbs : Nat) : Int) = sv t y := by
  unfold sv at hv ⊢
  split at hv <;> rename_i ht
  ·
   rw [if_pos ht]; omega
  ·
   rw [if_neg ht]; omega
 rw [← this]
 exact h
theorem Rt.div0 (h : Rt s a d x w n m) (g : Rt t b e 0 v q p) (hs : n + m + q + p ≤ 1000000) : Ev (fun k => ratio_Div.f k s a d t b e) (false, [], [], 7) := by
 have e1 := g.num.sign (by omega)
 unfold ratio_Div.f
 exact Ev.bind (chk_ev h.den g.den h.pos g.pos (by omega) (by omega)) (Ev.congr (fun k => if_pos rfl) (Ev.bind e1 (Ev.congr (fun k => if_pos rfl) (Ev.now _))))
theorem sgn_ne {y : Int} (h : y ≠ 0) : sgn y ≠ 0 := by
 unfold sgn
 split
 ·
  decide
 ·
  first | decide | (rw [if_neg h]; decide)
theorem Rt.div (h : Rt s a d x w n m) (g : Rt t b e y v q p) (hy : y ≠ 0) (hs : n + m + q + p ≤ 1000000) :
  Ev (fun k => ratio_Div.f k s a d t b e) ((rz (sv t (x * v)) (w * sv t y)).1, (rz (sv t (x * v)) (w * sv t y)).2.1, (rz (sv t (x * v)) (w * sv t y)).2.2, 0) ∧ 0 < sv t y := by
 have e1 := g.num.sign (by omega)
 obtain ⟨e2, n2⟩ := times_ev h.num g.den (by omega)
 have hb := g.num.abs
 have hp : 0 < sv t y := by
  have := hb.nonneg
  have : sv t y ≠ 0 := by unfold sv; split <;> omega
  omega
 obtain ⟨e3, n3⟩ := h.den.mul hb (by omega)
 have e4 := told_ev (flip n2 t) n3 (mul_pos2 h.pos hp) (by omega) (by omega)
 refine ⟨?_, hp⟩
 unfold ratio_Div.f
 exact Ev.bind (chk_ev h.den g.den h.pos g.pos (by omega) (by omega)) (Ev.congr (fun k => if_pos rfl) (Ev.bind e1 (Ev.congr (fun k => if_neg (sgn_ne hy)) (Ev.bind e2 (Ev.bind e3 (Ev.bind e4 (Ev.now _)))))))
theorem Rt.bad (hd : Nm d w m) (he : Nm e v p) (hm : m ≤ 1000000) (hp : p ≤ 1000000) (h0 : w = 0 ∨ v = 0) :
  Ev (fun k => ratio_Add.f k s a d t b e) (false, [], [], 9) ∧ Ev (fun k => ratio_Mul.f k s a d t b e) (false, [], [], 9) ∧ Ev (fun k => ratio_Div.f k s a d t b e) (false, [], [], 9) ∧ Ev (fun k => ratio_Cmp.f k s a d t b e) (0, 9) := by
 have c := fun (a b : List Int) (s t : Bool) => chk0_ev (s := s) (t := t) (a := a) (b := b) hd he hd.nonneg h0 (by omega) (by omega)
 refine ⟨?_, ?_, ?_, ?_⟩
 ·
  unfold ratio_Add.f
  exact Ev.bind (c _ _ _ _) (Ev.congr (fun k => if_neg (by decide)) (Ev.now _))
 ·
  unfold ratio_Mul.f
  exact Ev.bind (c _ _ _ _) (Ev.congr (fun k => if_neg (by decide)) (Ev.now _))
 ·
  unfold ratio_Div.f
  exact Ev.bind (c _ _ _ _) (Ev.congr (fun k => if_neg (by decide)) (Ev.now _))
 ·
  unfold ratio_Cmp.f
  exact Ev.bind (c _ _ _ _) (Ev.congr (fun k => if_neg (by decide)) (Ev.now _))
theorem Rt.bad_sub (hy : Wh t b y q) (hd : Nm d w m) (he : Nm e v p) (hm : m ≤ 1000000) (hp : p ≤ 1000000) (hq : q ≤ 1000000) (h0 : w = 0 ∨ v = 0) : Ev (fun k => ratio_Sub.f k s a d t b e) (false, [], [], 9) := by
 obtain ⟨e1, n1⟩ := hy.neg (by omega)
 unfold ratio_Sub.f
 exact Ev.bind e1 (Ev.bind (Rt.bad hd he hm hp h0).1 (Ev.now _))
theorem zero5_ev : Ev (fun _ => vernierlaw05_zero.f false [] []) true := by
 have e : wrap64 ((([] : List Int).length : Int) + (([] : List Int).length : Int)) = 0 := (w64 (by decide) (by decide)).trans rfl
 refine Ev.congr (fun _ => ?_) (Ev.now _)
 unfold vernierlaw05_zero.f
 rw [if_pos e]
 rfl
end Go.Proofs.Ytkjhjlnjkohlbaa.PR
end
section
namespace Go.Proofs.Ytkjhjlnjkohlbaa.PR
open Go.RowKit Go.Proofs.YtkjhjlnjkohlbaaW.PrintWords Go.Proofs.YtkjhjlnjkohlbaaW.PrintLast Go.Proofs.YtkjhjlnjkohlbaaW.PrintMore Go.Proofs.Ytkjhjlnjkohlbaa.Num
set_option linter.unusedVariables false
set_option linter.unusedSimpArgs false
variable {s t : Bool} {a d b e : List Int} {x w y v : Int} {n m q p : Nat}
theorem natAbs_sv (t : Bool) (z : Int) : (sv t z).natAbs = z.natAbs := by unfold sv; split <;> omega
theorem Rt.quot_lt (h : Rt s a d x w n m) (g : Rt t b e y v q p) (hs : n + m + q + p ≤ 1000000) : ((sv t (x * v)).natAbs : Int) < 18446744073709551616 ^ (n + p) := by
 rw [natAbs_sv]
 exact (times_ev h.num g.den (by omega)).2.lt
theorem Rt.den3 (h : Rt s a d x w n m) (g : Rt t b e y v q p) (hs : n + m + q + p ≤ 1000000) : ∃ l, Nm l (w * sv t y) (m + q) := ⟨_, (h.den.mul g.num.abs (by omega)).2⟩
end Go.Proofs.Ytkjhjlnjkohlbaa.PR
end
section
namespace Go.Proofs.Ytkjhjlnjkohlbaa.Pure
open Go.RowKit Go.Proofs.Ytkjhjlnjkohlbaa.PR Go.Proofs.YtkjhjlnjkohlbaaW.PrintWords Go.Proofs.YtkjhjlnjkohlbaaW.PrintLast Go.Proofs.YtkjhjlnjkohlbaaW.PrintMore Go.Proofs.Ytkjhjlnjkohlbaa.Num
set_option linter.unusedVariables false
theorem tells_tail {s t : Bool} {a d b e : List Int} {x w y v : Int} (h : Rt s a d x w 6 6) (g : Rt t b e y v 6 6) (q : Bool × List Int × List Int × Int)
  (hq0 : y = 0 → q = (false, [], [], 7)) (hq1 : y ≠ 0 → q = ((rz (sv t (x * v)) (w * sv t y)).1, (rz (sv t (x * v)) (w * sv t y)).2.1, (rz (sv t (x * v)) (w * sv t y)).2.2, 0)) :
  Ev (fun k => vernierlaw05_RatioTells.j1 k q.2.2.2 (!true) t b e q.1 q.2.1 q.2.2.1 (wz (x * v)).1 (wz (x * v)).2 (wz (y * w)).1 (wz (y * w)).2) true := by
 apply Ev.step
 ·
  intro k
  rw [vernierlaw05_RatioTells.j1, if_neg (by decide)]
 refine Ev.bind (g.num.sign (by omega)) ?_
 by_cases hy : y = 0
 ·
  rw [hq0 hy]
  subst hy
  exact Ev.congr (fun k => (if_pos rfl).trans (if_pos rfl)) (Ev.bind zero5_ev (Ev.now _))
 ·
  rw [hq1 hy]
  have hb := g.num.abs
  have hp : 0 < sv t y := by
   have := hb.nonneg
   have : sv t y ≠ 0 := by unfold sv; split <;> omega
   omega
  obtain ⟨_, n1⟩ := times_ev h.num g.den (by omega)
  obtain ⟨_, n2⟩ := times_ev g.num h.den (by omega)
  obtain ⟨l, nl⟩ := h.den3 g (by omega)
  have hlt := h.quot_lt g (by omega)
  have hl2 : Nm (dg 18446744073709551616 (w * sv t y)) (w * sv t y) (6 + 6) := nl.dg_le (Int.le_of_lt (mul_pos2 h.pos hp)) (Int.le_refl _)
  have key : ∀ (s' : Bool) (l' ld : List Int) (n d : Int) (p q : Nat), Wh s' l' n p → Nm ld d q → p ≤ 1000000 → q ≤ 1000000 → sv t (x * v) * d = n * (w * sv t y) →
    Ev (fun k => vernierlaw05_is.f k (rz (sv t (x * v)) (w * sv t y)).1 (rz (sv t (x * v)) (w * sv t y)).2.1 (rz (sv t (x * v)) (w * sv t y)).2.2 s' l' ld) true :=
   fun s' l' ld n d p q c1 c2 c3 c4 c5 => is_rz (mul_pos2 h.pos hp) hlt hl2 c1 c2 c5 (by omega) (by omega) c3 c4
  refine Ev.congr (fun k => if_neg (sgn_ne hy)) (Ev.bind (n2.sign (by omega)) ?_)
  cases t
  ·
   have hyp : 0 < y := by
    have : sv false y = y := by simp [sv]
    omega
   have hyw := mul_pos2 hyp h.pos
   have hs : ¬ sgn (y * w) < 0 := by unfold sgn; split <;> (try split) <;> omega
   have hn : Nm (wz (y * w)).2 (y * w) (6 + 6) := by
    have := n2.nm
    rw [show ((y * w).natAbs : Int) = y * w by omega] at this
    exact this
   refine Ev.congr (fun k => (if_neg hs).trans (if_pos rfl)) (Ev.bind (key _ _ _ _ _ _ _ n1 hn (by omega) (by omega) ?_) (Ev.now _))
   simp only [sv, Bool.false_eq_true, if_false]
   grind
  ·
   have hyp : y < 0 := by
    have : sv true y = -y := by simp [sv]
    omega
   have hyw : 0 < -(y * w) := by
    have := mul_pos2 (show 0 < -y by omega) h.pos
    rw [Int.neg_mul] at this
    exact this
   have hs : sgn (y * w) < 0 := by
    unfold sgn
    rw [if_pos (by omega)]
    decide
   obtain ⟨e3, n3⟩ := n1.neg (by omega)
   obtain ⟨e4, n4⟩ := n2.neg (by omega)
   have hn : Nm (wz (-(y * w))).2 (-(y * w)) (6 + 6) := by
    have := n4.nm
    rw [show ((-(y * w)).natAbs : Int) = -(y * w) by omega] at this
    exact this
   refine Ev.congr (fun k => if_pos hs) (Ev.bind e3 (Ev.bind e4 (Ev.congr (fun k => if_pos rfl) (Ev.bind (key _ _ _ _ _ _ _ n3 hn (by omega) (by omega) ?_) (Ev.now _)))))
   simp only [sv, if_true]
   grind
theorem RatioTells (a0_0 : Bool) (l0_1 : List Int) (l0_2 : List Int) (a1_0 : Bool) (l1_1 : List Int) (l1_2 : List Int) (y0 : l0_1.length * 8 ≤ 140737488351232) (w0 : ∀ n ∈ l0_1, (Lit.int .u64 n).wf = true) (y1 : l0_2.length * 8 ≤ 140737488351232) (w1 : ∀ n ∈ l0_2, (Lit.int .u64 n).wf = true) (y2 : l1_1.length * 8 ≤ 140737488351232) (w2 : ∀ n ∈ l1_1, (Lit.int .u64 n).wf = true) (y3 : l1_2.length * 8 ≤ 140737488351232) (w3 : ∀ n ∈ l1_2, (Lit.int .u64 n).wf = true) : ∃ k, vernierlaw05_RatioTells.f k a0_0 l0_1 l0_2 a1_0 l1_1 l1_2 = some true := by
 refine Ev.rounds ?_
 unfold vernierlaw05_RatioTells.f
 refine Ev.bind alive5_ev (Ev.congr (fun k => if_pos rfl) (Ev.bind (few2_ev _ _) ?_))
 show Ev (fun k => if (fit l0_1 l0_2 && fit l1_1 l1_2) = true then _ else _) true
 by_cases hf : (fit l0_1 l0_2 && fit l1_1 l1_2) = true
 case neg => exact Ev.congr (fun k => if_neg hf) (Ev.now _)
 refine Ev.congr (fun k => if_pos hf) ?_
 unfold fit at hf
 rw [Bool.and_eq_true, Bool.and_eq_true, Bool.and_eq_true, decide_eq_true_eq, decide_eq_true_eq, decide_eq_true_eq, decide_eq_true_eq] at hf
 have n0 := Wh.of (s := a0_0) (Nm.of_wf (n := 6) w0 hf.1.1)
 have n1 := Nm.of_wf (n := 6) w1 hf.1.2
 have n2 := Wh.of (s := a1_0) (Nm.of_wf (n := 6) w2 hf.2.1)
 have n3 := Nm.of_wf (n := 6) w3 hf.2.2
 clear hf y0 y1 y2 y3 w0 w1 w2 w3
 have p1 := n1.nonneg
 have p3 := n3.nonneg
 generalize V 18446744073709551616 l0_2 = w at n1 p1
 generalize V 18446744073709551616 l1_2 = v at n3 p3
 generalize sv a0_0 (V 18446744073709551616 l0_1) = x at n0
 generalize sv a1_0 (V 18446744073709551616 l1_1) = y at n2
 have b1 := n1.bits (by omega)
 have b3 := n3.bits (by omega)
 by_cases hz : w = 0 ∨ v = 0
 ·
  obtain ⟨e1, e2, e3, e4⟩ := Rt.bad (s := a0_0) (t := a1_0) (a := l0_1) (b := l1_1) n1 n3 (by omega) (by omega) hz
  have e5 := Rt.bad_sub (s := a0_0) (a := l0_1) n2 n1 n3 (by omega) (by omega) (by omega) hz
  have tail : Ev (fun k => vernierlaw05_RatioTells.j0 k 9 9 9 9 0 9 true a0_0 l0_1 l0_2 a1_0 l1_1 l1_2 false [] [] false [] [] false [] [] false [] []) true := by
   apply Ev.step
   ·
    intro k
    rw [vernierlaw05_RatioTells.j0, if_pos rfl, if_pos rfl, if_pos rfl, if_pos rfl, if_pos rfl, if_pos rfl, if_pos rfl]
   exact Ev.bind zero5_ev (Ev.congr (fun k => if_pos rfl) (Ev.bind zero5_ev (Ev.congr (fun k => if_pos rfl) (Ev.bind zero5_ev (Ev.congr (fun k => if_pos rfl) (Ev.bind zero5_ev (Ev.now _)))))))
  refine Ev.bind e1 (Ev.bind e5 (Ev.bind e2 (Ev.bind e3 (Ev.bind e4 (Ev.bind b1 ?_)))))
  by_cases hw : w = 0
  ·
   subst hw
   exact Ev.congr (fun k => if_pos bitsOf_zero) tail
  ·
   have hb := bitsOf_pos (show 0 < w by omega)
   have hv : v = 0 := hz.resolve_left hw
   subst hv
   refine Ev.congr (fun k => if_neg (by omega)) (Ev.bind b3 ?_)
   have e : (bitsOf 0 == 0) = true := by rw [bitsOf_zero]; rfl
   rw [e]
   exact tail
 have h : Rt a0_0 l0_1 l0_2 x w 6 6 := ⟨n0, n1, by omega⟩
 have g : Rt a1_0 l1_1 l1_2 y v 6 6 := ⟨n2, n3, by omega⟩
 have hbw := bitsOf_pos h.pos
 have hbv := bitsOf_pos g.pos
 have hq : ∃ q, Ev (fun k => ratio_Div.f k a0_0 l0_1 l0_2 a1_0 l1_1 l1_2) q ∧ (y = 0 → q = (false, [], [], 7)) ∧ (y ≠ 0 → q = ((rz (sv a1_0 (x * v)) (w * sv a1_0 y)).1, (rz (sv a1_0 (x * v)) (w * sv a1_0 y)).2.1, (rz (sv a1_0 (x * v)) (w * sv a1_0 y)).2.2, 0)) := by
  by_cases hy : y = 0
  ·
   subst hy
   exact ⟨_, h.div0 g (by omega), fun _ => rfl, fun h => absurd rfl h⟩
  ·
   exact ⟨_, (h.div g hy (by omega)).1, fun h => absurd h hy, fun _ => rfl⟩
 obtain ⟨q, eq, hq0, hq1⟩ := hq
 have ht := tells_tail h g q hq0 hq1
 refine Ev.bind (h.add g (by omega)) (Ev.bind (h.sub g (by omega)) (Ev.bind (h.mul g (by omega)) (Ev.bind eq (Ev.bind (h.cmp g (by omega)) (Ev.bind b1 (Ev.congr (fun k => if_neg (by omega)) (Ev.bind b3 ?_)))))))
 have e0 : (bitsOf v == 0) = false := beq_eq_false_iff_ne.2 (by omega)
 rw [e0]
 have wd : Wh false l1_2 v 6 := by have := Wh.of (s := false) g.den; simpa [sv] using this
 have ww : Wh false l0_2 w 6 := by have := Wh.of (s := false) h.den; simpa [sv] using this
 obtain ⟨m1, k1⟩ := h.num.mul wd (by omega)
 obtain ⟨m2, k2⟩ := g.num.mul ww (by omega)
 obtain ⟨m3, k3⟩ := h.den.mul g.den (by omega)
 have m4 := k1.cmp 12 k2 (by omega) (by omega) (by omega)
 obtain ⟨m5, k5⟩ := k1.add 12 k2 (by omega) (by omega) (by omega)
 obtain ⟨m6, k6⟩ := k1.sub 12 k2 (by omega) (by omega) (by omega)
 obtain ⟨m7, k7⟩ := h.num.mul g.num (by omega)
 have hp := mul_pos2 h.pos g.pos
 have i1 := is_rz (x := x * v + y * w) hp k5.lt k3 k5 k3 rfl (by omega) (by omega) (by omega) (by omega)
 have i2 := is_rz (x := x * v - y * w) hp k6.lt k3 k6 k3 rfl (by omega) (by omega) (by omega) (by omega)
 have i3 := is_rz (x := x * y) hp k7.lt k3 k7 k3 rfl (by omega) (by omega) (by omega) (by omega)
 apply Ev.step
 ·
  intro k
  rw [vernierlaw05_RatioTells.j0, if_neg (by decide)]
 exact Ev.bind m1 (Ev.bind m2 (Ev.bind m3 (Ev.congr (fun k => (if_pos rfl).trans ((if_pos rfl).trans ((if_pos rfl).trans (if_pos rfl)))) (Ev.bind m4 (Ev.congr (fun k => if_pos rfl) (Ev.bind m5 (Ev.bind i1 (Ev.congr (fun k => if_pos rfl) (Ev.bind m6 (Ev.bind i2 (Ev.congr (fun k => if_pos rfl) (Ev.bind m7 (Ev.bind i3 ht)))))))))))))
end Go.Proofs.Ytkjhjlnjkohlbaa.Pure
end
