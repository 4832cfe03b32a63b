/- Parts of a proof. -/
import Derived.Test.YtkjhjlnjkohlbaaZRatioBack49
import Derived.Test.YtkjhjlnjkohlbaaZRatioBack40
section
namespace Go.Proofs.Ytkjhjlnjkohlbaa.PR
open Go.RowKit Go.Proofs.YtkjhjlnjkohlbaaW.PrintWords Go.Proofs.YtkjhjlnjkohlbaaW.PrintLast Go.Proofs.YtkjhjlnjkohlbaaW.PrintMore Go.Proofs.Ytkjhjlnjkohlbaa.Num
set_option linter.unusedVariables false
set_option linter.unusedSimpArgs false
def rz (x w : Int) : Bool × List Int × List Int := ((wz (x / (Int.gcd x w : Nat))).1, (wz (x / (Int.gcd x w : Nat))).2, dg 18446744073709551616 (w / (Int.gcd x w : Nat)))
theorem gcd_pos {x w : Int} (hw : 0 < w) : 0 < ((Int.gcd x w : Nat) : Int) := by
 have := Int.gcd_pos_of_ne_zero_right x (show w ≠ 0 by omega)
 omega
theorem sv_div {s : Bool} {a : List Int} {x w : Int} {n : Nat} (h : Wh s a x n) (hw : 0 < w) : sv s ((x.natAbs : Int) / ((Int.gcd x w : Nat) : Int)) = x / ((Int.gcd x w : Nat) : Int) := by
 obtain ⟨c, hc⟩ := Int.gcd_dvd_left x w
 have hg := gcd_pos (x := x) hw
 have hv := h.val
 generalize ((Int.gcd x w : Nat) : Int) = g at *
 have e : x / g = c := by rw [hc]; exact Int.mul_ediv_cancel_left _ (by omega)
 have e2 : (x.natAbs : Int) = g * (c.natAbs : Int) := by
  rw [hc, Int.natAbs_mul]
  have : (g.natAbs : Int) = g := by omega
  rw [Int.natCast_mul, this]
 rw [e, e2, Int.mul_ediv_cancel_left _ (by omega)]
 rw [e2] at hv
 unfold sv at hv ⊢
 split at hv
 ·
  rename_i hs
  rw [if_pos hs]
  have : g * c = g * (-(c.natAbs : Int)) := by rw [← hc, hv]; grind
  have := Int.eq_of_mul_eq_mul_left (by omega) this
  omega
 ·
  rename_i hs
  rw [if_neg hs]
  have : g * c = g * (c.natAbs : Int) := by rw [← hc, hv]
  have := Int.eq_of_mul_eq_mul_left (by omega) this
  omega
theorem gcd_natAbs (x w : Int) : Int.gcd (x.natAbs : Int) w = Int.gcd x w := by
 unfold Int.gcd
 rw [Int.natAbs_natCast]
theorem told_ev {s : Bool} {a d : List Int} {x w : Int} {n m : Nat} (h : Wh s a x n) (g : Nm d w m) (hw : 0 < w) (hn : n < 10000000000) (hm : m < 10000000000) : Ev (fun k => ratio_told.f k s a d) (rz x w) := by
 have eg := h.nm.gcd (n + m) g (by omega) (by omega) (by omega)
 rw [gcd_natAbs] at eg
 have hg := gcd_pos (x := x) hw
 have hgw : ((Int.gcd x w : Nat) : Int) ≤ w := Int.le_of_dvd hw (Int.gcd_dvd_right x w)
 have ng := g.dg_le (Int.le_of_lt hg) hgw
 obtain ⟨e1, n1, _⟩ := h.nm.divmod ng hg (by omega) (by omega)
 obtain ⟨e2, n2, _⟩ := g.divmod ng hg (by omega) (by omega)
 have hN := (Wh.of (s := s) n1).norm (by omega)
 rw [sv_div h hw] at hN
 unfold ratio_told.f rz
 exact Ev.bind eg (Ev.bind e1 (Ev.bind e2 (Ev.bind hN.1 (Ev.now _))))
theorem rcheck_ev {s : Bool} {a d : List Int} {w : Int} {m : Nat} (g : Nm d w m) (hw : 0 < w) (hm : m ≤ 35184372088832) : Ev (fun k => ratio_Check.f k s a d) 0 := by
 unfold ratio_Check.f
 have := bitsOf_pos hw
 exact Ev.bind (g.bits hm) (Ev.congr (fun k => if_neg (by omega)) (Ev.now _))
theorem rcheck0_ev {s : Bool} {a d : List Int} {m : Nat} (g : Nm d 0 m) (hm : m ≤ 35184372088832) : Ev (fun k => ratio_Check.f k s a d) 9 := by
 unfold ratio_Check.f
 exact Ev.bind (g.bits hm) (Ev.congr (fun k => if_pos rfl) (Ev.now _))
theorem rnorm_ev {s : Bool} {a d : List Int} {x w : Int} {n m : Nat} (h : Wh s a x n) (g : Nm d w m) (hw : 0 < w) (hn : n < 10000000000) (hm : m < 10000000000) : Ev (fun k => ratio_Norm.f k s a d) ((rz x w).1, (rz x w).2.1, (rz x w).2.2, 0) := by
 unfold ratio_Norm.f
 exact Ev.bind (rcheck_ev g hw (by omega)) (Ev.congr (fun k => if_pos rfl) (Ev.bind (told_ev h g hw hn hm) (Ev.now _)))
theorem alive5_ev : Ev (fun k => vernierlaw05_alive.f k) true := by
 have h3 : Wh false [3] 3 1 := ⟨Nm.one (x := 3) (by decide) (by decide) (by decide), by decide⟩
 have h := rnorm_ev h3 (Nm.one (x := 6) (n := 1) (by decide) (by decide) (by decide)) (by decide) (by decide) (by decide)
 have e : rz 3 6 = (false, [1], [2]) := by
  unfold rz wz
  have hg : ((Int.gcd 3 6 : Nat) : Int) = 3 := by decide
  rw [hg]
  have e1 := dg_one one_lt_B (v := 1) (by decide) (by decide)
  have e2 := dg_one one_lt_B (v := 2) (by decide) (by decide)
  rw [show ((3 / 3 : Int).natAbs : Int) = 1 by decide, show (6 / 3 : Int) = 2 by decide, e1, e2]
  rfl
 rw [e] at h
 unfold vernierlaw05_alive.f
 refine Ev.bind h ?_
 refine Ev.congr (fun k => (if_pos rfl).trans ((if_pos rfl).trans ((if_pos (by decide)).trans ((if_pos rfl).trans ((if_pos rfl).trans (if_pos (by decide))))))) ?_
 exact Ev.now _
theorem rz_den {x w : Int} (hw : 0 < w) : 0 < w / ((Int.gcd x w : Nat) : Int) ∧ w / ((Int.gcd x w : Nat) : Int) ≤ w := by
 have hg := gcd_pos (x := x) hw
 have hgw : ((Int.gcd x w : Nat) : Int) ≤ w := Int.le_of_dvd hw (Int.gcd_dvd_right x w)
 refine ⟨?_, Int.ediv_le_self _ (Int.le_of_lt hw)⟩
 have := Int.le_ediv_of_mul_le hg (show 1 * ((Int.gcd x w : Nat) : Int) ≤ w by omega)
 omega
end Go.Proofs.Ytkjhjlnjkohlbaa.PR
end
section
namespace Go.Proofs.Ytkjhjlnjkohlbaa.PR
open Go.RowKit Go.Proofs.YtkjhjlnjkohlbaaW.PrintWords Go.Proofs.YtkjhjlnjkohlbaaW.PrintLast Go.Proofs.YtkjhjlnjkohlbaaW.PrintMore Go.Proofs.Ytkjhjlnjkohlbaa.Num
set_option linter.unusedVariables false
set_option linter.unusedSimpArgs false
def fit (a b : List Int) : Bool := decide (a.length ≤ 6) && decide (b.length ≤ 6)
theorem few_step (xs : List S28) (i : Nat) (hi : i < xs.length) (hx : xs.length < 100) {r : Bool} (h : fit (rd_T28 xs i).f0.f1 (rd_T28 xs i).f1 = true → Ev (fun k => vernierlaw05_few.l0 k xs (((i + 1 : Nat)) : Int)) r) :
  Ev (fun k => vernierlaw05_few.l0 k xs (i : Int)) (fit (rd_T28 xs i).f0.f1 (rd_T28 xs i).f1 && r) := by
 have hw : wrap64 ((i : Int) + 1) = ((i + 1 : Nat) : Int) := (w64 (by omega) (by omega)).trans (by omega)
 refine Ev.step (f := fun k => if (((rd_T28 xs i).f0.f1).length : Int) > 6 then (some false) else (if (((rd_T28 xs i).f1).length : Int) > 6 then (some false) else (vernierlaw05_few.l0 k xs (wrap64 ((i : Int) + 1))))) (fun k => ?_) ?_
 ·
  rw [vernierlaw05_few.l0, if_pos (by omega), if_pos (by omega)]
 rw [hw]
 unfold fit at h ⊢
 by_cases h1 : (rd_T28 xs i).f0.f1.length ≤ 6
 ·
  rw [decide_eq_true h1] at h ⊢
  refine Ev.congr (fun k => if_neg (by omega)) ?_
  by_cases h2 : (rd_T28 xs i).f1.length ≤ 6
  ·
   rw [decide_eq_true h2] at h ⊢
   exact Ev.congr (fun k => if_neg (by omega)) (h rfl)
  ·
   rw [decide_eq_false h2]
   exact Ev.congr (fun k => if_pos (by omega)) (Ev.now _)
 ·
  rw [decide_eq_false h1]
  exact Ev.congr (fun k => if_pos (by omega)) (Ev.now _)
theorem few_end (xs : List S28) (i : Nat) (hi : xs.length ≤ i) : Ev (fun k => vernierlaw05_few.l0 k xs (i : Int)) true := by
 refine Ev.step (f := fun _ => some true) (fun k => ?_) (Ev.now _)
 rw [vernierlaw05_few.l0, if_neg (by omega)]
theorem few2_ev (x y : S28) : Ev (fun k => vernierlaw05_few.f k [x, y]) (fit x.f0.f1 x.f1 && fit y.f0.f1 y.f1) := by
 refine few_step [x, y] 0 (by simp) (by simp) (fun _ => ?_)
 have h := few_step [x, y] 1 (by simp) (by simp) (r := true) (fun _ => few_end _ 2 (by simp))
 rw [Bool.and_true] at h
 exact h
structure Rt (s : Bool) (a d : List Int) (x w : Int) (n m : Nat) : Prop where
 num : Wh s a x n
 den : Nm d w m
 pos : 0 < w
theorem chk_ev {s t : Bool} {a d b e : List Int} {w v : Int} {m p : Nat} (g : Nm d w m) (h : Nm e v p) (hw : 0 < w) (hv : 0 < v) (hm : m ≤ 35184372088832) (hp : p ≤ 35184372088832) : Ev (fun k => ratio_checked.f k s a d t b e) 0 := by
 unfold ratio_checked.f
 exact Ev.bind (rcheck_ev g hw hm) (Ev.congr (fun k => if_pos rfl) (rcheck_ev h hv hp))
theorem chk0_ev {s t : Bool} {a d b e : List Int} {w v : Int} {m p : Nat} (g : Nm d w m) (h : Nm e v p) (hw : 0 ≤ w) (h0 : w = 0 ∨ v = 0) (hm : m ≤ 35184372088832) (hp : p ≤ 35184372088832) : Ev (fun k => ratio_checked.f k s a d t b e) 9 := by
 unfold ratio_checked.f
 by_cases hz : w = 0
 ·
  subst hz
  exact Ev.bind (rcheck0_ev g hm) (Ev.congr (fun k => if_neg (by decide)) (Ev.now _))
 ·
  have hv : v = 0 := by omega
  subst hv
  exact Ev.bind (rcheck_ev g (by omega) hm) (Ev.congr (fun k => if_pos rfl) (rcheck0_ev h hp))
theorem times_ev {s : Bool} {a e : List Int} {x v : Int} {n p : Nat} (h : Wh s a x n) (g : Nm e v p) (hp : n + p ≤ 17592186044416) : Ev (fun k => ratio_times.f k s a e) (wz (x * v)) ∧ Wh (wz (x * v)).1 (wz (x * v)).2 (x * v) (n + p) := by
 have wd : Wh false e v p := by have := Wh.of (s := false) g; simpa [sv] using this
 obtain ⟨e1, n1⟩ := h.mul wd hp
 unfold ratio_times.f
 exact ⟨Ev.bind e1 (Ev.now _), n1⟩
theorem mul_pos2 {a b : Int} (h : 0 < a) (g : 0 < b) : 0 < a * b := Int.mul_pos h g
variable {s t : Bool} {a d b e : List Int} {x w y v : Int} {n m q p : Nat}
theorem Rt.add (h : Rt s a d x w n m) (g : Rt t b e y v q p) (hs : n + m + q + p ≤ 1000000) :
  Ev (fun k => ratio_Add.f k s a d t b e) ((rz (x * v + y * w) (w * v)).1, (rz (x * v + y * w) (w * v)).2.1, (rz (x * v + y * w) (w * v)).2.2, 0) := by
 obtain ⟨e1, n1⟩ := times_ev h.num g.den (by omega)
 obtain ⟨e2, n2⟩ := times_ev g.num h.den (by omega)
 obtain ⟨e3, n3⟩ := n1.add (n + m + q + p) n2 (by omega) (by omega) (by omega)
 obtain ⟨e4, n4⟩ := h.den.mul g.den (by omega)
 have e5 := told_ev n3 n4 (mul_pos2 h.pos g.pos) (by omega) (by omega)
 unfold ratio_Add.f
 exact Ev.bind (chk_ev h.den g.den h.pos g.pos (by omega) (by omega)) (Ev.congr (fun k => if_pos rfl) (Ev.bind e1 (Ev.bind e2 (Ev.bind e3 (Ev.bind e4 (Ev.bind e5 (Ev.now _)))))))
theorem Rt.sub (h : Rt s a d x w n m) (g : Rt t b e y v q p) (hs : n + m + q + p ≤ 1000000) :
  Ev (fun k => ratio_Sub.f k s a d t b e) ((rz (x * v - y * w) (w * v)).1, (rz (x * v - y * w) (w * v)).2.1, (rz (x * v - y * w) (w * v)).2.2, 0) := by
 obtain ⟨e1, n1⟩ := g.num.neg (by omega)
 have g' : Rt (wz (-y)).1 (wz (-y)).2 e (-y) v q p := ⟨n1, g.den, g.pos⟩
 have h1 := h.add g' hs
 rw [show x * v + -y * w = x * v - y * w by rw [Int.neg_mul]; omega] at h1
 unfold ratio_Sub.f
 exact Ev.bind e1 (Ev.bind h1 (Ev.now _))
theorem Rt.mul (h : Rt s a d x w n m) (g : Rt t b e y v q p) (hs : n + m + q + p ≤ 1000000) :
  Ev (fun k => ratio_Mul.f k s a d t b e) ((rz (x * y) (w * v)).1, (rz (x * y) (w * v)).2.1, (rz (x * y) (w * v)).2.2, 0) := by
 obtain ⟨e1, n1⟩ := h.num.mul g.num (by omega)
 obtain ⟨e4, n4⟩ := h.den.mul g.den (by omega)
 have e5 := told_ev n1 n4 (mul_pos2 h.pos g.pos) (by omega) (by omega)
 unfold ratio_Mul.f
 exact Ev.bind (chk_ev h.den g.den h.pos g.pos (by omega) (by omega)) (Ev.congr (fun k => if_pos rfl) (Ev.bind e1 (Ev.bind e4 (Ev.bind e5 (Ev.now _)))))
theorem Rt.cmp (h : Rt s a d x w n m) (g : Rt t b e y v q p) (hs : n + m + q + p ≤ 1000000) : Ev (fun k => ratio_Cmp.f k s a d t b e) (sgn (x * v - y * w), 0) := by
 obtain ⟨e1, n1⟩ := times_ev h.num g.den (by omega)
 obtain ⟨e2, n2⟩ := times_ev g.num h.den (by omega)
 have e3 := n1.cmp (n + m + q + p) n2 (by omega) (by omega) (by omega)
 unfold ratio_Cmp.f
 exact Ev.bind (chk_ev h.den g.den h.pos g.pos (by omega) (by omega)) (Ev.congr (fun k => if_pos rfl) (Ev.bind e1 (Ev.bind e2 (Ev.bind e3 (Ev.now _)))))
theorem flip {z : Int} {n : Nat} (h : Wh (wz z).1 (wz z).2 z n) (u : Bool) : Wh ((wz z).1 != u) (wz z).2 (sv u z) n := by
 have ea : (sv u z).natAbs = z.natAbs := by unfold sv; split <;> omega
 refine ⟨ea ▸ h.nm, ?_⟩
 have h0 := h.val
 unfold sv at h0 ⊢
 cases u
 ·
  simp only [Bool.bne_false, Bool.false_eq_true, if_false]
  exact h0
 ·
  simp only [Bool.bne_true, if_true]
  cases hb : (wz z).1
  ·
   rw [hb] at h0
   simp only [Bool.false_eq_true, if_false, Bool.not_false, if_true] at h0 ⊢
   omega
  ·
   rw [hb] at h0
   simp only [if_true, Bool.not_true, Bool.false_eq_true, if_false] at h0 ⊢
   omega
theorem Wh.abs (g : Wh t b y q) : Nm b (sv t y) q := by
 have h := g.nm
 have hv := g.val
 have : ((y.natAbs : Nat) : Int) = sv t y := by
  unfold sv at hv ⊢
  split at hv <;> rename_i ht
  ·
   rw [if_pos ht]; omega
  ·
   rw [if_neg ht]; omega
 rw [← this]
 exact h
theorem Rt.div0 (h : Rt s a d x w n m) (g : Rt t b e 0 v q p) (hs : n + m + q + p ≤ 1000000) : Ev (fun k => ratio_Div.f k s a d t b e) (false, [], [], 7) := by
 have e1 := g.num.sign (by omega)
 unfold ratio_Div.f
 exact Ev.bind (chk_ev h.den g.den h.pos g.pos (by omega) (by omega)) (Ev.congr (fun k => if_pos rfl) (Ev.bind e1 (Ev.congr (fun k => if_pos rfl) (Ev.now _))))
theorem sgn_ne {y : Int} (h : y ≠ 0) : sgn y ≠ 0 := by
 unfold sgn
 split
 ·
  decide
 ·
  first | decide | (rw [if_neg h]; decide)
theorem Rt.div (h : Rt s a d x w n m) (g : Rt t b e y v q p) (hy : y ≠ 0) (hs : n + m + q + p ≤ 1000000) :
  Ev (fun k => ratio_Div.f k s a d t b e) ((rz (sv t (x * v)) (w * sv t y)).1, (rz (sv t (x * v)) (w * sv t y)).2.1, (rz (sv t (x * v)) (w * sv t y)).2.2, 0) ∧ 0 < sv t y := by
 have e1 := g.num.sign (by omega)
 obtain ⟨e2, n2⟩ := times_ev h.num g.den (by omega)
 have hb := g.num.abs
 have hp : 0 < sv t y := by
  have := hb.nonneg
  have : sv t y ≠ 0 := by unfold sv; split <;> omega
  omega
 obtain ⟨e3, n3⟩ := h.den.mul hb (by omega)
 have e4 := told_ev (flip n2 t) n3 (mul_pos2 h.pos hp) (by omega) (by omega)
 refine ⟨?_, hp⟩
 unfold ratio_Div.f
 exact Ev.bind (chk_ev h.den g.den h.pos g.pos (by omega) (by omega)) (Ev.congr (fun k => if_pos rfl) (Ev.bind e1 (Ev.congr (fun k => if_neg (sgn_ne hy)) (Ev.bind e2 (Ev.bind e3 (Ev.bind e4 (Ev.now _)))))))
theorem Rt.bad (hd : Nm d w m) (he : Nm e v p) (hm : m ≤ 1000000) (hp : p ≤ 1000000) (h0 : w = 0 ∨ v = 0) :
  Ev (fun k => ratio_Add.f k s a d t b e) (false, [], [], 9) ∧ Ev (fun k => ratio_Mul.f k s a d t b e) (false, [], [], 9) ∧ Ev (fun k => ratio_Div.f k s a d t b e) (false, [], [], 9) ∧ Ev (fun k => ratio_Cmp.f k s a d t b e) (0, 9) := by
 have c := fun (a b : List Int) (s t : Bool) => chk0_ev (s := s) (t := t) (a := a) (b := b) hd he hd.nonneg h0 (by omega) (by omega)
 refine ⟨?_, ?_, ?_, ?_⟩
 ·
  unfold ratio_Add.f
  exact Ev.bind (c _ _ _ _) (Ev.congr (fun k => if_neg (by decide)) (Ev.now _))
 ·
  unfold ratio_Mul.f
  exact Ev.bind (c _ _ _ _) (Ev.congr (fun k => if_neg (by decide)) (Ev.now _))
 ·
  unfold ratio_Div.f
  exact Ev.bind (c _ _ _ _) (Ev.congr (fun k => if_neg (by decide)) (Ev.now _))
 ·
  unfold ratio_Cmp.f
  exact Ev.bind (c _ _ _ _) (Ev.congr (fun k => if_neg (by decide)) (Ev.now _))
end Go.Proofs.Ytkjhjlnjkohlbaa.PR
end
