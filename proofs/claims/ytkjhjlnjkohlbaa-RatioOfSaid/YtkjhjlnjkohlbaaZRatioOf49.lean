/- Parts of a proof. -/
import Derived.Test.YtkjhjlnjkohlbaaZRatioOf39
import Derived.Test.YtkjhjlnjkohlbaaZRatioOf48
import Derived.LoopN
section
namespace Go.Proofs.Ytkjhjlnjkohlbaa.PR
open Go.RowKit Go.Proofs.YtkjhjlnjkohlbaaW.PrintWords Go.Proofs.YtkjhjlnjkohlbaaW.PrintLast Go.Proofs.YtkjhjlnjkohlbaaW.PrintMore Go.Proofs.Ytkjhjlnjkohlbaa.Num
set_option linter.unusedVariables false
set_option linter.unusedSimpArgs false
def rz (x w : Int) : Bool × List Int × List Int := ((wz (x / (Int.gcd x w : Nat))).1, (wz (x / (Int.gcd x w : Nat))).2, dg 18446744073709551616 (w / (Int.gcd x w : Nat)))
theorem gcd_pos {x w : Int} (hw : 0 < w) : 0 < ((Int.gcd x w : Nat) : Int) := by
 have := Int.gcd_pos_of_ne_zero_right x (show w ≠ 0 by omega)
 omega
theorem sv_div {s : Bool} {a : List Int} {x w : Int} {n : Nat} (h : Wh s a x n) (hw : 0 < w) : sv s ((x.natAbs : Int) / ((Int.gcd x w : Nat) : Int)) = x / ((Int.gcd x w : Nat) : Int) := by
 obtain ⟨c, hc⟩ := Int.gcd_dvd_left x w
 have hg := gcd_pos (x := x) hw
 have hv := h.val
 generalize ((Int.gcd x w : Nat) : Int) = g at *
 have e : x / g = c := by rw [hc]; exact Int.mul_ediv_cancel_left _ (by omega)
 have e2 : (x.natAbs : Int) = g * (c.natAbs : Int) := by
  rw [hc, Int.natAbs_mul]
  have : (g.natAbs : Int) = g := by omega
  rw [Int.natCast_mul, this]
 rw [e, e2, Int.mul_ediv_cancel_left _ (by omega)]
 rw [e2] at hv
 unfold sv at hv ⊢
 split at hv
 ·
  rename_i hs
  rw [if_pos hs]
  have : g * c = g * (-(c.natAbs : Int)) := by rw [← hc, hv]; grind
  have := Int.eq_of_mul_eq_mul_left (by omega) this
  omega
 ·
  rename_i hs
  rw [if_neg hs]
  have : g * c = g * (c.natAbs : Int) := by rw [← hc, hv]
  have := Int.eq_of_mul_eq_mul_left (by omega) this
  omega
theorem gcd_natAbs (x w : Int) : Int.gcd (x.natAbs : Int) w = Int.gcd x w := by
 unfold Int.gcd
 rw [Int.natAbs_natCast]
theorem told_ev {s : Bool} {a d : List Int} {x w : Int} {n m : Nat} (h : Wh s a x n) (g : Nm d w m) (hw : 0 < w) (hn : n < 10000000000) (hm : m < 10000000000) : Ev (fun k => ratio_told.f k s a d) (rz x w) := by
 have eg := h.nm.gcd (n + m) g (by omega) (by omega) (by omega)
 rw [gcd_natAbs] at eg
 have hg := gcd_pos (x := x) hw
 have hgw : ((Int.gcd x w : Nat) : Int) ≤ w := Int.le_of_dvd hw (Int.gcd_dvd_right x w)
 have ng := g.dg_le (Int.le_of_lt hg) hgw
 obtain ⟨e1, n1, _⟩ := h.nm.divmod ng hg (by omega) (by omega)
 obtain ⟨e2, n2, _⟩ := g.divmod ng hg (by omega) (by omega)
 have hN := (Wh.of (s := s) n1).norm (by omega)
 rw [sv_div h hw] at hN
 unfold ratio_told.f rz
 exact Ev.bind eg (Ev.bind e1 (Ev.bind e2 (Ev.bind hN.1 (Ev.now _))))
theorem rcheck_ev {s : Bool} {a d : List Int} {w : Int} {m : Nat} (g : Nm d w m) (hw : 0 < w) (hm : m ≤ 35184372088832) : Ev (fun k => ratio_Check.f k s a d) 0 := by
 unfold ratio_Check.f
 have := bitsOf_pos hw
 exact Ev.bind (g.bits hm) (Ev.congr (fun k => if_neg (by omega)) (Ev.now _))
theorem rcheck0_ev {s : Bool} {a d : List Int} {m : Nat} (g : Nm d 0 m) (hm : m ≤ 35184372088832) : Ev (fun k => ratio_Check.f k s a d) 9 := by
 unfold ratio_Check.f
 exact Ev.bind (g.bits hm) (Ev.congr (fun k => if_pos rfl) (Ev.now _))
theorem rnorm_ev {s : Bool} {a d : List Int} {x w : Int} {n m : Nat} (h : Wh s a x n) (g : Nm d w m) (hw : 0 < w) (hn : n < 10000000000) (hm : m < 10000000000) : Ev (fun k => ratio_Norm.f k s a d) ((rz x w).1, (rz x w).2.1, (rz x w).2.2, 0) := by
 unfold ratio_Norm.f
 exact Ev.bind (rcheck_ev g hw (by omega)) (Ev.congr (fun k => if_pos rfl) (Ev.bind (told_ev h g hw hn hm) (Ev.now _)))
theorem rnorm0_ev {s : Bool} {a d : List Int} {m : Nat} (g : Nm d 0 m) (hm : m ≤ 35184372088832) : Ev (fun k => ratio_Norm.f k s a d) (false, [], [], 9) := by
 unfold ratio_Norm.f
 exact Ev.bind (rcheck0_ev g hm) (Ev.congr (fun k => if_neg (by decide)) (Ev.now _))
theorem alive5_ev : Ev (fun k => vernierlaw05_alive.f k) true := by
 have h3 : Wh false [3] 3 1 := ⟨Nm.one (x := 3) (by decide) (by decide) (by decide), by decide⟩
 have h := rnorm_ev h3 (Nm.one (x := 6) (n := 1) (by decide) (by decide) (by decide)) (by decide) (by decide) (by decide)
 have e : rz 3 6 = (false, [1], [2]) := by
  unfold rz wz
  have hg : ((Int.gcd 3 6 : Nat) : Int) = 3 := by decide
  rw [hg]
  have e1 := dg_one one_lt_B (v := 1) (by decide) (by decide)
  have e2 := dg_one one_lt_B (v := 2) (by decide) (by decide)
  rw [show ((3 / 3 : Int).natAbs : Int) = 1 by decide, show (6 / 3 : Int) = 2 by decide, e1, e2]
  rfl
 rw [e] at h
 unfold vernierlaw05_alive.f
 refine Ev.bind h ?_
 refine Ev.congr (fun k => (if_pos rfl).trans ((if_pos rfl).trans ((if_pos (by decide)).trans ((if_pos rfl).trans ((if_pos rfl).trans (if_pos (by decide))))))) ?_
 exact Ev.now _
theorem rof_ev {s : Bool} {l : List Int} {v : Int} {n : Nat} (h : Nm l v n) (hn : n ≤ 1024) (a : Int) (h0 : -16384 ≤ a) (h1 : a ≤ 16384) :
  Ev (fun k => ratio_Of.f k s l a) ((rz (sv s (2 ^ (mx a 0).toNat * v)) (2 ^ (mx (-a) 0).toNat)).1, (rz (sv s (2 ^ (mx a 0).toNat * v)) (2 ^ (mx (-a) 0).toNat)).2.1, (rz (sv s (2 ^ (mx a 0).toNat * v)) (2 ^ (mx (-a) 0).toNat)).2.2, 0) := by
 have hl := h.len
 obtain ⟨p, hp⟩ := Int.eq_ofNat_of_zero_le (show 0 ≤ mx a 0 by unfold mx; split <;> omega)
 obtain ⟨q, hq⟩ := Int.eq_ofNat_of_zero_le (show 0 ≤ mx (-a) 0 by unfold mx; split <;> omega)
 have hp' : p ≤ 16384 := by unfold mx at hp; split at hp <;> omega
 have hq' : q ≤ 16384 := by unfold mx at hq; split at hq <;> omega
 have hc : Ev (fun _ => dyadic_Check.f s l a) 0 := by
  unfold dyadic_Check.f
  exact Ev.congr (fun _ => (if_neg (by omega)).trans ((if_neg (by omega)).trans (if_neg (by omega)))) (Ev.now _)
 unfold ratio_Of.f
 rw [w64 (x := -a) (by omega) (by omega), hp, hq, Int.toNat_natCast, Int.toNat_natCast]
 obtain ⟨e1, n1⟩ := h.Shl p (by omega) (by omega)
 obtain ⟨e2, n2⟩ := (Nm.one (x := 1) (n := 1) (by decide) (by decide) (by decide)).Shl q (by omega) (by omega)
 rw [Int.mul_one] at e2 n2
 have ht := told_ev (Wh.of (s := s) n1) n2 (two_pow_pos q) (by omega) (by omega)
 exact Ev.bind hc (Ev.congr (fun k => if_pos rfl) (Ev.bind e1 (Ev.bind e2 (Ev.bind ht (Ev.now _)))))
end Go.Proofs.Ytkjhjlnjkohlbaa.PR
end
section
namespace Go.Proofs.Ytkjhjlnjkohlbaa.PR
open Go.RowKit Go.Proofs.YtkjhjlnjkohlbaaW.PrintWords Go.Proofs.YtkjhjlnjkohlbaaW.PrintLast Go.Proofs.YtkjhjlnjkohlbaaW.PrintMore Go.Proofs.Ytkjhjlnjkohlbaa.Num
set_option linter.unusedVariables false
set_option linter.unusedSimpArgs false
theorem is_rz {x w n d : Int} {s' : Bool} {l' ld : List Int} {p q p0 q0 : Nat} (hw : 0 < w) (hx : (x.natAbs : Int) < 18446744073709551616 ^ p0) (nw : Nm (dg 18446744073709551616 w) w q0) (hn : Wh s' l' n p) (hd : Nm ld d q) (he : x * d = n * w)
  (b0 : p0 ≤ 1000000) (b1 : q0 ≤ 1000000) (b2 : p ≤ 1000000) (b3 : q ≤ 1000000) : Ev (fun k => vernierlaw05_is.f k (rz x w).1 (rz x w).2.1 (rz x w).2.2 s' l' ld) true := by
 have hg := gcd_pos (x := x) hw
 obtain ⟨X, hX⟩ := Int.gcd_dvd_left (a := x) (b := w)
 obtain ⟨W, hW⟩ := Int.gcd_dvd_right (a := x) (b := w)
 have hgg : ((Int.gcd x w : Nat) : Int) * ((Int.gcd X W : Nat) : Int) = ((Int.gcd x w : Nat) : Int) := by
  have h := congrArg (fun z : Nat => (z : Int)) (show Int.gcd x w = Int.gcd (((Int.gcd x w : Nat) : Int) * X) (((Int.gcd x w : Nat) : Int) * W) by rw [← hX, ← hW])
  rw [Int.gcd_mul_left] at h
  simpa using h.symm
 have eX : x / ((Int.gcd x w : Nat) : Int) = X := by
  conv => lhs; arg 1; rw [hX]
  exact Int.mul_ediv_cancel_left X (by omega)
 have eW : w / ((Int.gcd x w : Nat) : Int) = W := by
  conv => lhs; arg 1; rw [hW]
  exact Int.mul_ediv_cancel_left W (by omega)
 unfold rz
 rw [eX, eW]
 generalize ((Int.gcd x w : Nat) : Int) = g at *
 have h1 : ((Int.gcd X W : Nat) : Int) = 1 := by
  have : g * ((Int.gcd X W : Nat) : Int) = g * 1 := by omega
  exact Int.eq_of_mul_eq_mul_left (by omega) this
 have hW0 : 0 < W := by
  refine Int.lt_of_not_ge (fun h => ?_)
  have := Int.mul_nonneg (Int.le_of_lt hg) (show 0 ≤ -W by omega)
  rw [Int.mul_neg] at this
  omega
 have hWw : W ≤ w := by
  have := Int.mul_le_mul_of_nonneg_right (show 1 ≤ g by omega) (Int.le_of_lt hW0)
  omega
 have hXx : (X.natAbs : Int) ≤ (x.natAbs : Int) := by
  have e : (x.natAbs : Int) = g * (X.natAbs : Int) := by
   rw [hX, Int.natAbs_mul]
   have : (g.natAbs : Int) = g := by omega
   rw [Int.natCast_mul, this]
  have := Int.mul_le_mul_of_nonneg_right (show 1 ≤ g by omega) (show 0 ≤ (X.natAbs : Int) by omega)
  omega
 have hc : X * d = n * W := by
  have e1 : g * (X * d) = g * (n * W) := by
   have a1 : x * d = g * (X * d) := by rw [hX, Int.mul_assoc]
   have a2 : n * w = g * (n * W) := by rw [hW, ← Int.mul_assoc, Int.mul_comm n g, Int.mul_assoc]
   rw [← a1, ← a2, he]
  exact Int.eq_of_mul_eq_mul_left (by omega) e1
 have wX : Wh (wz X).1 (wz X).2 X p0 := Wh.made (Int.lt_of_le_of_lt hXx hx)
 have nW : Nm (dg 18446744073709551616 W) W q0 := nw.dg_le (Int.le_of_lt hW0) hWw
 have wd : Wh false ld d q := by have := Wh.of (s := false) hd; simpa [sv] using this
 have wW : Wh false (dg 18446744073709551616 W) W q0 := by have := Wh.of (s := false) nW; simpa [sv] using this
 obtain ⟨m1, n1⟩ := wX.mul wd (by omega)
 obtain ⟨m2, n2⟩ := hn.mul wW (by omega)
 have c := n1.cmp (p0 + q + p + q0) n2 (by omega) (by omega) (by omega)
 rw [hc, Int.sub_self] at c
 have eg := wX.nm.gcd (p0 + q0) nW (by omega) (by omega) (by omega)
 have hgl : (Int.gcd ((X.natAbs : Int)) W : Nat) = Int.gcd X W := gcd_natAbs X W
 have one : dg 18446744073709551616 (1 : Int) = [1] := by decide
 rw [hgl, h1, one] at eg
 obtain ⟨en, _⟩ := nW.norm (by omega)
 obtain ⟨ex, _⟩ := wX.norm (by omega)
 rw [hc] at m1
 unfold vernierlaw05_is.f
 refine Ev.bind eg (Ev.bind m1 (Ev.bind m2 (Ev.bind c ?_)))
 refine Ev.congr (fun k => (if_pos (show sgn (0 : Int) = 0 by decide)).trans ((if_pos (show ((([1] : List Int).length : Nat) : Int) = 1 by decide)).trans ((if_pos (show (0 : Int) < ((([1] : List Int).length : Nat) : Int) by decide)).trans (if_pos (show rd [1] 0 = 1 by decide))))) ?_
 refine Ev.bind en (Ev.bind (nW.same rfl (by omega)) (Ev.congr (fun k => if_pos rfl) ?_))
 refine Ev.bind ex (Ev.bind (wX.nm.same rfl (by omega)) (Ev.congr (fun k => if_pos rfl) (Ev.bind ex ?_)))
 rw [show ((wz X).1 == (wz X).1) = true from beq_self_eq_true _]
 exact Ev.now _
end Go.Proofs.Ytkjhjlnjkohlbaa.PR
end
section
namespace Go.Proofs.Ytkjhjlnjkohlbaa.PR
open Go.RowKit Go.Proofs.YtkjhjlnjkohlbaaW.PrintWords Go.Proofs.YtkjhjlnjkohlbaaW.PrintLast Go.Proofs.YtkjhjlnjkohlbaaW.PrintMore
set_option linter.unusedVariables false
set_option linter.unusedSimpArgs false
def ratio_checked.f (k : Nat) (a0 : Bool) (l1 l2 : List Int) (a3 : Bool) (l4 l5 : List Int) : Option Int :=
 (ratio_Check.f k a0 l1 l2).bind fun e => if e = 0 then ratio_Check.f k a3 l4 l5 else some e
end Go.Proofs.Ytkjhjlnjkohlbaa.PR
end
