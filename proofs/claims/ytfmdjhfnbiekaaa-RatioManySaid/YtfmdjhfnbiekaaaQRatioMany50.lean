/- What ratio's functions compute: fractions told without a common divisor. -/
import Derived.Test.YtfmdjhfnbiekaaaQRatioMany37
import Derived.Test.YtfmdjhfnbiekaaaQRatioMany38
import Derived.Test.YtfmdjhfnbiekaaaQRatioMany39
import Derived.Test.YtfmdjhfnbiekaaaQRatioMany45
import Derived.Test.YtfmdjhfnbiekaaaQRatioMany47
import Derived.Test.YtfmdjhfnbiekaaaQRatioMany48
import Derived.Test.YtfmdjhfnbiekaaaQRatioMany40
import Derived.Test.YtfmdjhfnbiekaaaQRatioMany41
import Derived.Test.YtfmdjhfnbiekaaaQRatioMany42
import Derived.Test.YtfmdjhfnbiekaaaQRatioMany43
import Derived.Test.YtfmdjhfnbiekaaaQRatioMany46
import Derived.Test.YtfmdjhfnbiekaaaQRatioMany49
namespace Go.Proofs.Ytfmdjhfnbiekaaa.PB
open Go.RowKit Go.Proofs.YtfmdjhfnbiekaaaW.PrintWords Go.Proofs.YtfmdjhfnbiekaaaW.PrintLast Go.Proofs.YtfmdjhfnbiekaaaW.PrintMore Go.Proofs.Ytfmdjhfnbiekaaa.Num
set_option linter.unusedVariables false
set_option linter.unusedSimpArgs false
def rz (x w : Int) : Bool × List Int × List Int := ((wz (x / (Int.gcd x w : Nat))).1, (wz (x / (Int.gcd x w : Nat))).2, dg 18446744073709551616 (w / (Int.gcd x w : Nat)))
theorem gcd_pos {x w : Int} (hw : 0 < w) : 0 < ((Int.gcd x w : Nat) : Int) := by
  have := Int.gcd_pos_of_ne_zero_right x (show w ≠ 0 by omega)
  omega
theorem sv_div {s : Bool} {a : List Int} {x w : Int} {n : Nat} (h : Wh s a x n) (hw : 0 < w) : sv s ((x.natAbs : Int) / ((Int.gcd x w : Nat) : Int)) = x / ((Int.gcd x w : Nat) : Int) := by
  obtain ⟨c, hc⟩ := Int.gcd_dvd_left x w
  have hg := gcd_pos (x := x) hw
  have hv := h.val
  generalize ((Int.gcd x w : Nat) : Int) = g at *
  have e : x / g = c := by rw [hc]; exact Int.mul_ediv_cancel_left _ (by omega)
  have e2 : (x.natAbs : Int) = g * (c.natAbs : Int) := by
    rw [hc, Int.natAbs_mul]
    have : (g.natAbs : Int) = g := by omega
    rw [Int.natCast_mul, this]
  rw [e, e2, Int.mul_ediv_cancel_left _ (by omega)]
  rw [e2] at hv
  unfold sv at hv ⊢
  split at hv
  · rename_i hs
    rw [if_pos hs]
    have : g * c = g * (-(c.natAbs : Int)) := by rw [← hc, hv]; grind
    have := Int.eq_of_mul_eq_mul_left (by omega) this
    omega
  · rename_i hs
    rw [if_neg hs]
    have : g * c = g * (c.natAbs : Int) := by rw [← hc, hv]
    have := Int.eq_of_mul_eq_mul_left (by omega) this
    omega
theorem gcd_natAbs (x w : Int) : Int.gcd (x.natAbs : Int) w = Int.gcd x w := by
  unfold Int.gcd
  rw [Int.natAbs_natCast]
theorem told_ev {s : Bool} {a d : List Int} {x w : Int} {n m : Nat} (h : Wh s a x n) (g : Nm d w m) (hw : 0 < w) (hn : n < 10000000000) (hm : m < 10000000000) : Ev (fun k => ratio_told.f k s a d) (rz x w) := by
  have eg := h.nm.gcd (n + m) g (by omega) (by omega) (by omega)
  rw [gcd_natAbs] at eg
  have hg := gcd_pos (x := x) hw
  have hgw : ((Int.gcd x w : Nat) : Int) ≤ w := Int.le_of_dvd hw (Int.gcd_dvd_right x w)
  have ng := g.dg_le (Int.le_of_lt hg) hgw
  obtain ⟨e1, n1, _⟩ := h.nm.divmod ng hg (by omega) (by omega)
  obtain ⟨e2, n2, _⟩ := g.divmod ng hg (by omega) (by omega)
  have hN := (Wh.of (s := s) n1).norm (by omega)
  rw [sv_div h hw] at hN
  unfold ratio_told.f rz
  exact Ev.bind eg (Ev.bind e1 (Ev.bind e2 (Ev.bind hN.1 (Ev.now _))))
theorem rcheck_ev {s : Bool} {a d : List Int} {w : Int} {m : Nat} (g : Nm d w m) (hw : 0 < w) (hm : m ≤ 35184372088832) : Ev (fun k => ratio_Check.f k s a d) 0 := by
  unfold ratio_Check.f
  have := bitsOf_pos hw
  exact Ev.bind (g.bits hm) (Ev.congr (fun k => if_neg (by omega)) (Ev.now _))
theorem rnorm_ev {s : Bool} {a d : List Int} {x w : Int} {n m : Nat} (h : Wh s a x n) (g : Nm d w m) (hw : 0 < w) (hn : n < 10000000000) (hm : m < 10000000000) : Ev (fun k => ratio_Norm.f k s a d) ((rz x w).1, (rz x w).2.1, (rz x w).2.2, 0) := by
  unfold ratio_Norm.f
  exact Ev.bind (rcheck_ev g hw (by omega)) (Ev.congr (fun k => if_pos rfl) (Ev.bind (told_ev h g hw hn hm) (Ev.now _)))
theorem alive5_ev : Ev (fun k => vernierlaw05_alive.f k) true := by
  have h3 : Wh false [3] 3 1 := ⟨Nm.one (x := 3) (by decide) (by decide) (by decide), by decide⟩
  have h := rnorm_ev h3 (Nm.one (x := 6) (n := 1) (by decide) (by decide) (by decide)) (by decide) (by decide) (by decide)
  have e : rz 3 6 = (false, [1], [2]) := by
    unfold rz wz
    have hg : ((Int.gcd 3 6 : Nat) : Int) = 3 := by decide
    rw [hg]
    have e1 := dg_one one_lt_B (v := 1) (by decide) (by decide)
    have e2 := dg_one one_lt_B (v := 2) (by decide) (by decide)
    rw [show ((3 / 3 : Int).natAbs : Int) = 1 by decide, show (6 / 3 : Int) = 2 by decide, e1, e2]
    rfl
  rw [e] at h
  unfold vernierlaw05_alive.f
  refine Ev.bind h ?_
  refine Ev.congr (fun k => (if_pos rfl).trans ((if_pos rfl).trans ((if_pos (by decide)).trans ((if_pos rfl).trans ((if_pos rfl).trans (if_pos (by decide))))))) ?_
  exact Ev.now _
theorem rz_den {x w : Int} (hw : 0 < w) : 0 < w / ((Int.gcd x w : Nat) : Int) ∧ w / ((Int.gcd x w : Nat) : Int) ≤ w := by
  have hg := gcd_pos (x := x) hw
  have hgw : ((Int.gcd x w : Nat) : Int) ≤ w := Int.le_of_dvd hw (Int.gcd_dvd_right x w)
  refine ⟨?_, Int.ediv_le_self _ (Int.le_of_lt hw)⟩
  have := Int.le_ediv_of_mul_le hg (show 1 * ((Int.gcd x w : Nat) : Int) ≤ w by omega)
  omega
theorem pow_nm {q : Nat} (hq : q ≤ 16384) : Nm (dg 18446744073709551616 (2 ^ q)) (2 ^ q) 300 := by
  have h := ((Nm.one (x := 1) (n := 1) (by decide) (by decide) (by decide)).Shl q (by omega) (by omega)).2
  rw [Int.mul_one] at h
  exact h.mono (by omega)
theorem rof_ev {s : Bool} {l : List Int} {v : Int} {n : Nat} (h : Nm l v n) (hn : n ≤ 1024) (a : Int) (h0 : -16384 ≤ a) (h1 : a ≤ 16384) :
    Ev (fun k => ratio_Of.f k s l a) ((rz (sv s (2 ^ (mx a 0).toNat * v)) (2 ^ (mx (-a) 0).toNat)).1, (rz (sv s (2 ^ (mx a 0).toNat * v)) (2 ^ (mx (-a) 0).toNat)).2.1, (rz (sv s (2 ^ (mx a 0).toNat * v)) (2 ^ (mx (-a) 0).toNat)).2.2, 0) := by
  have hl := h.len
  obtain ⟨p, hp⟩ := Int.eq_ofNat_of_zero_le (show 0 ≤ mx a 0 by unfold mx; split <;> omega)
  obtain ⟨q, hq⟩ := Int.eq_ofNat_of_zero_le (show 0 ≤ mx (-a) 0 by unfold mx; split <;> omega)
  have hp' : p ≤ 16384 := by unfold mx at hp; split at hp <;> omega
  have hq' : q ≤ 16384 := by unfold mx at hq; split at hq <;> omega
  have hc : Ev (fun _ => dyadic_Check.f s l a) 0 := by
    unfold dyadic_Check.f
    exact Ev.congr (fun _ => (if_neg (by omega)).trans ((if_neg (by omega)).trans (if_neg (by omega)))) (Ev.now _)
  unfold ratio_Of.f
  rw [w64 (x := -a) (by omega) (by omega), hp, hq, Int.toNat_natCast, Int.toNat_natCast]
  obtain ⟨e1, n1⟩ := h.Shl p (by omega) (by omega)
  obtain ⟨e2, n2⟩ := (Nm.one (x := 1) (n := 1) (by decide) (by decide) (by decide)).Shl q (by omega) (by omega)
  rw [Int.mul_one] at e2 n2
  have ht := told_ev (Wh.of (s := s) n1) n2 (two_pow_pos q) (by omega) (by omega)
  exact Ev.bind hc (Ev.congr (fun k => if_pos rfl) (Ev.bind e1 (Ev.bind e2 (Ev.bind ht (Ev.now _)))))
end Go.Proofs.Ytfmdjhfnbiekaaa.PB
