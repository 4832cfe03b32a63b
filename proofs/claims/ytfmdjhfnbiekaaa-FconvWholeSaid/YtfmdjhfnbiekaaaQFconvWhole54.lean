/- Any number's whole one, by any direction, and as an int, are as the page says: for all numbers and directions. -/
import Derived.Test.YtfmdjhfnbiekaaaQFconvWhole35
import Derived.Test.YtfmdjhfnbiekaaaQFconvWhole36
import Derived.Test.YtfmdjhfnbiekaaaQFconvWhole50
import Derived.Test.YtfmdjhfnbiekaaaQFconvWhole51
import Derived.Test.YtfmdjhfnbiekaaaQFconvWhole52
import Derived.Test.YtfmdjhfnbiekaaaQFconvWhole53
import Derived.Test.YtfmdjhfnbiekaaaQFconvWhole37
import Derived.Test.YtfmdjhfnbiekaaaQFconvWhole38
import Derived.Test.YtfmdjhfnbiekaaaQFconvWhole39
import Derived.Test.YtfmdjhfnbiekaaaQFconvWhole40
import Derived.Test.YtfmdjhfnbiekaaaQFconvWhole41
import Derived.Test.YtfmdjhfnbiekaaaQFconvWhole43
import Derived.Test.YtfmdjhfnbiekaaaQFconvWhole44
import Derived.Test.YtfmdjhfnbiekaaaQFconvWhole47
import Derived.Test.YtfmdjhfnbiekaaaQFconvWhole48
import Derived.Test.YtfmdjhfnbiekaaaQFconvWhole49
import Derived.Test.YtfmdjhfnbiekaaaQFconvWhole42
namespace Go.Proofs.Ytfmdjhfnbiekaaa.Pure
open Go.RowKit Go.Proofs.Ytfmdjhfnbiekaaa.PF Go.Proofs.YtfmdjhfnbiekaaaW.PrintWords Go.Proofs.YtfmdjhfnbiekaaaW.PrintLast Go.Proofs.YtfmdjhfnbiekaaaW.PrintMore Go.Proofs.Ytfmdjhfnbiekaaa.Num Go.Proofs.Ytfmdjhfnbiekaaa.Flt
set_option linter.unusedVariables false
theorem int_j1 {W fl g n : Int} {neg : Bool} (h0 : 0 ≤ W) (hW : Nd (dg 65536 W) W 100) (hn : (n, g) = if 4611686018427387904 < W then (0, 1) else (sv neg W, fl)) :
    Ev (fun k => vernierlaw13_FconvWhole.j1 k n g (dg 65536 W) fl neg false) true := by
  obtain ⟨e1, d1⟩ := (Nd.one (x := 1) (by decide) (by decide)).shl 62 (by omega) (by omega)
  have e62 : (2 : Int) ^ 62 * 1 = 4611686018427387904 := by decide
  rw [e62] at e1 d1
  have e2 := hW.cmp d1 (by omega) (by omega)
  have e3 := hW.limbs (by omega)
  refine Ev.step (f := _) (fun k => by rw [vernierlaw13_FconvWhole.j1, if_neg (by decide)]) ?_
  refine Ev.bind e1 (Ev.bind e2 ?_)
  by_cases h : 4611686018427387904 < W
  · rw [if_pos h] at hn
    simp only [Prod.mk.injEq] at hn
    refine Ev.congr (fun k => (if_pos (sgn_pos_iff.2 (by omega))).trans (if_pos hn.1)) ?_
    rw [hn.2]
    exact Ev.now _
  · rw [if_neg h] at hn
    simp only [Prod.mk.injEq] at hn
    refine Ev.congr (fun k => if_neg (fun c => by have := sgn_pos_iff.1 c; omega)) (Ev.bind e3 ?_)
    have hg : (g == fl) = true := beq_iff_eq.2 hn.2
    rw [hg]
    by_cases hz : W = 0
    · subst hz
      have hn0 : n = 0 := by rw [hn.1]; cases neg <;> rfl
      have el : ((dg 18446744073709551616 0).length : Int) = 0 := rfl
      refine Ev.congr (fun k => if_neg (by rw [el]; decide)) ?_
      by_cases hb : neg = true
      · exact Ev.congr (fun k => (if_pos hb).trans (if_pos (by rw [hn0]; rfl))) (Ev.now _)
      · exact Ev.congr (fun k => (if_neg hb).trans (if_pos hn0)) (Ev.now _)
    · have e1 : dg 18446744073709551616 W = [W] := dg_one one_lt_B (by omega) (by omega)
      rw [e1]
      have er : wrap64 (rd [W] 0) = W := (w64 (by show _ ≤ W; omega) (by show W ≤ _; omega)).trans rfl
      refine Ev.congr (fun k => (if_pos (by simp)).trans (if_pos (by simp))) ?_
      rw [er]
      by_cases hb : neg = true
      · refine Ev.congr (fun k => (if_pos hb).trans (if_pos ?_)) (Ev.now _)
        rw [hn.1, hb, w64 (by omega) (by omega)]
        rfl
      · refine Ev.congr (fun k => (if_neg hb).trans (if_pos ?_)) (Ev.now _)
        rw [hn.1, Bool.eq_false_iff.2 hb]
        rfl
theorem tells_fin {a mode : Int} (a0 : 0 ≤ a) (a1 : a < 18446744073709551616) (hf : fex a ≠ 2047) {t n g : Int} (t0 : 0 ≤ t) (t1 : t < 18446744073709551616) (t2 : fneg t = fneg a) (t3 : fex t ≠ 2047) (t4 : fman t * up2 (fxp t) = wval a mode * up2 (-fxp t)) (fl : Int)
    (hn : (n, g) = if 4611686018427387904 < wval a mode then (0, 1) else (sv (fneg a) (wval a mode), fl)) :
    Ev (fun k => vernierlaw13_FconvWhole.j0 k a t fl n g (dg 65536 (wval a mode)) fl) true := by
  obtain ⟨e1, d1⟩ := whole13_ev a0 a1 hf mode
  have mr := fman_range t
  have xr := fxp_range t
  have hs := rsplit_some t0 t1
  obtain ⟨e2, d2⟩ := word_ev (x := fman t) mr.1 (by omega)
  obtain ⟨p, hp⟩ : ∃ p : Nat, wrap64 (fxp t - mn (fxp t) 0) = (p : Int) := ⟨(fxp t - mn (fxp t) 0).toNat, by have := mn_le (fxp t) 0; rw [w64 (by omega) (by omega)]; omega⟩
  obtain ⟨q, hq⟩ : ∃ q : Nat, wrap64 (-(mn (fxp t) 0)) = (q : Int) := ⟨(-(mn (fxp t) 0)).toNat, by have := mn_le (fxp t) 0; rw [w64 (by omega) (by omega)]; omega⟩
  have hp' : 2 ^ p = up2 (fxp t) := by
    unfold up2
    congr 1
    have := mn_le (fxp t) 0
    rw [w64 (by omega) (by omega)] at hp
    unfold mn at hp
    split at hp <;> omega
  have hq' : 2 ^ q = up2 (-fxp t) := by
    unfold up2
    congr 1
    have := mn_le (fxp t) 0
    rw [w64 (by omega) (by omega)] at hq
    unfold mn at hq
    split at hq <;> omega
  have hpb : p ≤ 2000 ∧ q ≤ 2000 := by
    have := mn_le (fxp t) 0
    rw [w64 (by omega) (by omega)] at hp hq
    unfold mn at hp hq
    split at hp <;> split at hq <;> omega
  obtain ⟨e3, d3⟩ := d2.shl p (by omega) (by omega)
  obtain ⟨e4, d4⟩ := d1.shl q (by omega) (by omega)
  have e5 := d3.cmp d4 (by omega) (by omega)
  have hz : 2 ^ p * fman t - 2 ^ q * wval a mode = 0 := by
    rw [hp', hq', Int.mul_comm, t4, Int.mul_comm]
    omega
  rw [hz] at e5
  have hj := int_j1 (neg := fneg t) (fl := fl) (n := n) (g := g) (wval_nonneg a mode) d1 (by rw [t2]; exact hn)
  have hne : ¬ ((fneg t != decide (a ≥ 9223372036854775808)) = true) := by
    rw [t2]
    have : decide (a ≥ 9223372036854775808) = fneg a := rfl
    rw [this]
    simp
  refine Ev.step (f := _) (fun k => by rw [vernierlaw13_FconvWhole.j0]) ?_
  refine Ev.bind (g := fun _ => vernierref06_Split.f t) (Ev.congr (fun _ => hs) (Ev.now _)) ?_
  refine Ev.congr (fun k => (if_pos rfl).trans (if_neg hne)) (Ev.bind e2 ?_)
  rw [hp, hq]
  exact Ev.bind e3 (Ev.bind e4 (Ev.bind e5 hj))
theorem FconvWhole (a0 a1 : Int) (w0 : (Lit.int .u64 a0).wf = true) (w1 : (Lit.int .i64 a1).wf = true) : ∃ k, vernierlaw13_FconvWhole.f k a0 a1 = some true := by
  obtain ⟨h0, h1⟩ := u64_of_wf w0
  refine Ev.rounds ?_
  unfold vernierlaw13_FconvWhole.f
  refine Ev.bind alive13_ev (Ev.congr (fun k => if_pos rfl) ?_)
  have hcl := class_ev h0 h1
  have hrc := rclass_ev h0 h1
  have hcr := fcls_range a0
  by_cases hf : fex a0 = 2047
  · have hc2 : fcls a0 = 2 ∨ fcls a0 = 3 := by
      have : ¬ fcls a0 ≤ 1 := fun h => fcls_fin.1 h hf
      omega
    have hsp := split_bad h0 h1 hf
    have eW : Ev (fun k => fconv_Whole.f k a0 a1) (if fcls a0 = 3 then 9221120237041090560 else a0, 0) := by
      unfold fconv_Whole.f
      refine Ev.bind (g := fun _ => parts_Split.f a0) (Ev.congr (fun _ => hsp) (Ev.now _)) (Ev.bind hcl ?_)
      by_cases c : fcls a0 = 3
      · rw [if_pos c]
        exact Ev.congr (fun k => if_pos c) (Ev.now _)
      · rw [if_neg c]
        exact Ev.congr (fun k => (if_neg c).trans (if_neg (by omega))) (Ev.now _)
    have eI : Ev (fun k => fconv_ToInt.f k a0 a1) (0, 1) := by
      unfold fconv_ToInt.f
      exact Ev.bind hcl (Ev.congr (fun k => if_pos (by omega)) (Ev.now _))
    by_cases c : fcls a0 = 3
    · rw [if_pos c] at eW
      refine Ev.bind eW (Ev.bind eI (Ev.bind hrc (Ev.congr (fun k => (if_pos (by omega)).trans ((if_pos rfl).trans ((if_pos rfl).trans (if_pos rfl)))) ?_)))
      exact Ev.congr (fun k => (if_pos c).trans (if_pos rfl)) (Ev.now _)
    · rw [if_neg c] at eW
      refine Ev.bind eW (Ev.bind eI (Ev.bind hrc (Ev.congr (fun k => (if_pos (by omega)).trans ((if_pos rfl).trans ((if_pos rfl).trans (if_pos rfl)))) ?_)))
      refine Ev.congr (fun k => (if_neg c).trans (if_pos (by omega))) ?_
      have : (a0 == a0) = true := beq_self_eq_true _
      rw [this]
      exact Ev.now _
  · obtain ⟨t, e1, t0, t1, t2, t3, t4⟩ := fwhole_ev h0 h1 hf a1
    have e2 := toint_ev h0 h1 hf a1
    obtain ⟨e3, d3⟩ := whole13_ev h0 h1 hf a1
    have hc := (fcls_fin (a := a0)).2 hf
    obtain ⟨z, hz⟩ : ∃ z : Int × Int, (if 4611686018427387904 < wval a0 a1 then (0, 1) else (sv (fneg a0) (wval a0 a1), if wfl a0 = true then 16 else 0)) = z := ⟨_, rfl⟩
    rw [hz] at e2
    refine Ev.bind e1 (Ev.bind e2 (Ev.bind hrc (Ev.congr (fun k => if_neg (by omega)) (Ev.bind e3 ?_))))
    by_cases hw : wfl a0 = true
    · rw [hw, if_pos rfl] at hz
      rw [hw]
      exact Ev.congr (fun k => if_pos rfl) (tells_fin h0 h1 hf t0 t1 t2 t3 t4 16 hz.symm)
    · rw [if_neg hw] at hz ⊢
      exact Ev.congr (fun k => if_neg hw) (tells_fin h0 h1 hf t0 t1 t2 t3 t4 0 hz.symm)
end Go.Proofs.Ytfmdjhfnbiekaaa.Pure
