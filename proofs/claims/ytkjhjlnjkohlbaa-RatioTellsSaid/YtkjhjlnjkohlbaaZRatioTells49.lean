/- What natdiv.DivMod computes: the quotient and the rest. -/
import Derived.Test.YtkjhjlnjkohlbaaZRatioTells47
import Derived.Test.YtkjhjlnjkohlbaaZRatioTells48
namespace Go.Proofs.Ytkjhjlnjkohlbaa.PR
open Go.RowKit Go.Proofs.YtkjhjlnjkohlbaaW.PrintWords Go.Proofs.YtkjhjlnjkohlbaaW.PrintLast Go.Proofs.YtkjhjlnjkohlbaaW.PrintMore Go.Proofs.Ytkjhjlnjkohlbaa.Num
set_option linter.unusedVariables false
set_option linter.unusedSimpArgs false
theorem trial_ev {v w : Int} {n : Nat} (hw : 0 < w) (hv0 : 0 ≤ v) (hv : v < w * 18446744073709551616) (htop : 18446744073709551616 ≤ 2 * (dg 18446744073709551616 w).getD ((dg 18446744073709551616 w).length - 1) 0) (hn : (dg 18446744073709551616 v).length ≤ n) (hn' : n ≤ 4611686018427387904) (hm : (dg 18446744073709551616 w).length ≤ n) :
  ∃ q, Ev (fun k => natdiv_trial.f k (dg 18446744073709551616 v) (dg 18446744073709551616 w)) q ∧ 0 ≤ q ∧ q < 18446744073709551616 ∧ v < (q + 1) * w := by
 have nv := dg_nrm one_lt_B v
 have nw := dg_nrm one_lt_B w
 have vv := dg_val one_lt_B hv0
 have vw := dg_val one_lt_B (Int.le_of_lt hw)
 have hne : dg 18446744073709551616 w ≠ [] := fun e => by
  have := (dg_nil one_lt_B (Int.le_of_lt hw)).1 e
  omega
 have hlen : (dg 18446744073709551616 v).length ≤ (dg 18446744073709551616 w).length + 1 := by
  refine dg_len_le one_lt_B hv0 (Int.lt_of_lt_of_le hv ?_)
  have := V_lt B_pos nw.1
  rw [vw] at this
  rw [Int.pow_succ]
  exact Int.mul_le_mul_of_nonneg_right (Int.le_of_lt this) (by decide)
 have hpos : 0 < (dg 18446744073709551616 w).length := List.length_pos_iff.2 hne
 have tw := nw.1.getD B_pos ((dg 18446744073709551616 w).length - 1)
 unfold natdiv_trial.f
 rw [w64 (x := ((dg 18446744073709551616 w).length : Int) + 1) (by omega) (by omega), w64 (x := ((dg 18446744073709551616 w).length : Int) - 1) (by omega) (by omega)]
 by_cases h1 : (dg 18446744073709551616 v).length ≤ (dg 18446744073709551616 w).length
 ·
  refine ⟨1, Ev.congr (fun k => if_pos (by omega)) (Ev.now _), by decide, by decide, ?_⟩
  have := trial_one B_pos nv.1 nw.1 hne htop h1
  omega
 ·
  have hl : (dg 18446744073709551616 v).length = (dg 18446744073709551616 w).length + 1 := by omega
  have tv := nv.1.getD B_pos (dg 18446744073709551616 w).length
  have tv' := nv.1.getD B_pos ((dg 18446744073709551616 w).length - 1)
  have r1 : rd (dg 18446744073709551616 v) ((dg 18446744073709551616 w).length : Int) = (dg 18446744073709551616 v).getD (dg 18446744073709551616 w).length 0 := rd_nat _ _
  have r2 : rd (dg 18446744073709551616 w) (((dg 18446744073709551616 w).length : Int) - 1) = (dg 18446744073709551616 w).getD ((dg 18446744073709551616 w).length - 1) 0 := rd_of _ (by omega)
  have r3 : rd (dg 18446744073709551616 v) (((dg 18446744073709551616 w).length : Int) - 1) = (dg 18446744073709551616 v).getD ((dg 18446744073709551616 w).length - 1) 0 := rd_of _ (by omega)
  rw [r1, r2, r3]
  have ht := trial_two B_pos nv.1 nw.1 rfl hpos hl (by omega)
  rw [vv, vw] at ht
  by_cases h2 : (dg 18446744073709551616 v).getD (dg 18446744073709551616 w).length 0 ≥ (dg 18446744073709551616 w).getD ((dg 18446744073709551616 w).length - 1) 0
  ·
   refine ⟨18446744073709551615, Ev.congr (fun k => ?_) (Ev.now _), by decide, by decide, ?_⟩
   ·
    rw [if_neg (by omega), if_pos (by omega), if_pos (by omega), if_pos (by omega), if_pos (by omega), if_pos h2]
   ·
    omega
  ·
   obtain ⟨x, hx⟩ := div64_ev tv.1 (by omega) tv'.1 tv'.2 tw.2 htop
   refine ⟨_, Ev.congr (fun k => ?_) (Ev.bind (f := fun _ (p : Int × Int) => some p.1) hx (Ev.now _)), ?_, ?_, ht⟩
   ·
    rw [if_neg (by omega), if_pos (by omega), if_pos (by omega), if_pos (by omega), if_pos (by omega), if_neg h2, if_pos (by omega)]
   ·
    exact Int.ediv_nonneg (by omega) tw.1
   ·
    refine Int.ediv_lt_of_lt_mul (by omega) ?_
    have : ((dg 18446744073709551616 v).getD (dg 18446744073709551616 w).length 0 + 1) * 18446744073709551616 ≤ (dg 18446744073709551616 w).getD ((dg 18446744073709551616 w).length - 1) 0 * 18446744073709551616 := Int.mul_le_mul_of_nonneg_right (by omega) (by decide)
    omega
theorem div_of {v w q : Int} (hw : 0 < w) (h0 : w * q ≤ v) (h1 : v < (q + 1) * w) : q = v / w ∧ v - w * q = v % w := by
 have h2 : v / w = q := by
  have a := Int.ediv_lt_of_lt_mul hw h1
  have b := Int.le_ediv_of_mul_le hw (show q * w ≤ v by rw [Int.mul_comm]; exact h0)
  omega
 refine ⟨h2.symm, ?_⟩
 have := Int.emod_add_mul_ediv v w
 rw [h2] at this
 omega
theorem digit_loop {v w : Int} {n : Nat} (hw : 0 < w) (hv : Nm (dg 18446744073709551616 v) v n) (hwn : Nm (dg 18446744073709551616 w) w n) (hn : n < 17592186044416) : ∀ (m : Nat) (q : Int), q.toNat = m → 0 ≤ q → q < 18446744073709551616 → Aside0 (v < (q + 1) * w) →
  Ev (fun k => natdiv_digit.l0 k (dg 18446744073709551616 v) (dg 18446744073709551616 w) q (dg 18446744073709551616 (w * q))) (v / w, dg 18446744073709551616 (v % w))
 | m, q, hm, h0, h1, hI => by
  have h0' : 0 ≤ w * q := Int.mul_nonneg (Int.le_of_lt hw) h0
  have hq : Nm (dg 18446744073709551616 (w * q)) (w * q) (n + 1) := Nm.dg h0' (by
   rw [Int.pow_succ]
   have a := hwn.lt
   have b : w * q ≤ w * 18446744073709551616 := Int.mul_le_mul_of_nonneg_left (Int.le_of_lt h1) (Int.le_of_lt hw)
   have c : w * 18446744073709551616 < 18446744073709551616 ^ n * 18446744073709551616 := Int.mul_lt_mul_of_pos_right a (by decide)
   omega)
  have ec := hq.cmp hv (by omega) (by omega)
  refine Ev.step (f := fun k => (nat_Cmp.f k (dg 18446744073709551616 (w * q)) (dg 18446744073709551616 v)).bind fun t225 => (if t225 > 0 then ((nat_Sub.f k (dg 18446744073709551616 (w * q)) (dg 18446744073709551616 w)).bind fun t226 => (natdiv_digit.l0 k (dg 18446744073709551616 v) (dg 18446744073709551616 w) (IntKind.u64.wrap (q - 1)) t226)) else ((nat_Sub.f k (dg 18446744073709551616 v) (dg 18446744073709551616 (w * q))).bind fun t229 => (some (q, t229))))) (fun k => by simp only [natdiv_digit.l0]) ?_
  refine Ev.bind ec ?_
  by_cases hgt : w * q - v > 0
  ·
   refine Ev.congr (fun k => if_pos (sgn_pos_iff.2 hgt)) ?_
   have hq1 : 0 < q := by
    by_cases e : q = 0
    ·
     subst e
     have := hv.nonneg
     omega
    ·
     omega
   have hle : w ≤ w * q := by
    have : w * 1 ≤ w * q := Int.mul_le_mul_of_nonneg_left (by omega) (Int.le_of_lt hw)
    omega
   obtain ⟨es, ns⟩ := hq.sub_le hwn hle (by omega) (by omega)
   refine Ev.bind es ?_
   rw [u64w (x := q - 1) (by omega) (by omega), show w * q - w = w * (q - 1) by grind]
   refine digit_loop hw hv hwn hn (m - 1) (q - 1) (by omega) (by omega) (by omega) ⟨?_⟩
   have : (q - 1 + 1) * w = w * q := by grind
   omega
  ·
   refine Ev.congr (fun k => if_neg (fun h => hgt (sgn_pos_iff.1 h))) ?_
   obtain ⟨es, ns⟩ := hv.sub_le hq (by omega) (by omega) (by omega)
   have hd := div_of hw (show w * q ≤ v by omega) hI.out
   rw [← hd.1, ← hd.2]
   exact Ev.bind es (Ev.now _)
 termination_by m => m
 decreasing_by omega
theorem digit_ev {v w : Int} {n : Nat} (hw : 0 < w) (hv : Nm (dg 18446744073709551616 v) v n) (hwn : Nm (dg 18446744073709551616 w) w n) (hn : n < 17592186044416) (hvw : v < w * 18446744073709551616) (htop : 18446744073709551616 ≤ 2 * (dg 18446744073709551616 w).getD ((dg 18446744073709551616 w).length - 1) 0) :
  Ev (fun k => natdiv_digit.f k (dg 18446744073709551616 v) (dg 18446744073709551616 w)) (v / w, dg 18446744073709551616 (v % w)) := by
 have ec := hv.cmp hwn (by omega) (by omega)
 unfold natdiv_digit.f
 refine Ev.bind ec ?_
 by_cases hlt : v - w < 0
 ·
  refine Ev.congr (fun k => if_pos (sgn_neg_iff.2 hlt)) ?_
  rw [Int.ediv_eq_zero_of_lt hv.nonneg (by omega), Int.emod_eq_of_lt hv.nonneg (by omega)]
  exact Ev.now _
 ·
  refine Ev.congr (fun k => if_neg (fun h => hlt (sgn_neg_iff.1 h))) ?_
  obtain ⟨q, e1, q0, q1, q2⟩ := trial_ev hw hv.nonneg hvw htop hv.len (by omega) hwn.len
  obtain ⟨e2, n2⟩ := hwn.mul (Nm.one (x := q) (n := 1) q0 q1 (by omega)) (by omega)
  exact Ev.bind e1 (Ev.bind e2 (digit_loop hw hv hwn hn _ q rfl q0 q1 ⟨q2⟩))
theorem dmGo_ev {w : Int} {n : Nat} (hw : 0 < w) (hwn : Nm (dg 18446744073709551616 w) w n) (hn : n < 1000000000000) (htop : 18446744073709551616 ≤ 2 * (dg 18446744073709551616 w).getD ((dg 18446744073709551616 w).length - 1) 0) (l : List Int) (hl : Dig 18446744073709551616 l) : ∀ (i : Nat) (q : List Int) (R : Int), i ≤ l.length → q.length = l.length → Dig 18446744073709551616 q → 0 ≤ R → R < w → V 18446744073709551616 (q.drop i) * w + R = V 18446744073709551616 (l.drop i) →
  ∃ q', Ev (fun k => dmGo k l (dg 18446744073709551616 w) i q (dg 18446744073709551616 R)) (q', dg 18446744073709551616 (V 18446744073709551616 l % w)) ∧ q'.length = l.length ∧ Dig 18446744073709551616 q' ∧ V 18446744073709551616 q' = V 18446744073709551616 l / w
 | 0, q, R, hi, hq, dq, h0, h1, hI => by
  rw [List.drop_zero, List.drop_zero] at hI
  have c1 : w * V 18446744073709551616 q = V 18446744073709551616 q * w := Int.mul_comm ..
  have c2 : (V 18446744073709551616 q + 1) * w = V 18446744073709551616 q * w + w := by grind
  have hd := div_of (q := V 18446744073709551616 q) hw (v := V 18446744073709551616 l) (by omega) (by omega)
  refine ⟨q, ?_, hq, dq, hd.1⟩
  have e : V 18446744073709551616 l % w = R := by rw [← hd.2]; omega
  rw [e]
  exact Ev.congr (fun k => rfl) (Ev.now _)
 | i + 1, q, R, hi, hq, dq, h0, h1, hI => by
  have hR : Nm (dg 18446744073709551616 R) R n := hwn.dg_le h0 (Int.le_of_lt h1)
  have hx := hl.getD B_pos i
  have nc : Nm (l.getD i 0 :: dg 18446744073709551616 R) (l.getD i 0 + 18446744073709551616 * R) (n + 1) := ⟨Dig.cons hx.1 hx.2 hR.dig, by rw [V_cons, dg_val one_lt_B h0], by have := hR.len; simp only [List.length_cons]; omega⟩
  obtain ⟨e1, n1⟩ := nc.norm (by omega)
  have hb := rest_lt B_pos h0 h1 hx.1 hx.2
  have e2 := digit_ev hw n1 (hwn.mono (by omega)) (by omega) hb htop
  have hd0 : 0 ≤ (l.getD i 0 + 18446744073709551616 * R) / w := Int.ediv_nonneg n1.nonneg (Int.le_of_lt hw)
  have hd1 : (l.getD i 0 + 18446744073709551616 * R) / w < 18446744073709551616 := Int.ediv_lt_of_lt_mul hw (show _ < 18446744073709551616 * w by rw [Int.mul_comm 18446744073709551616 w]; exact hb)
  have hm0 := Int.emod_nonneg (l.getD i 0 + 18446744073709551616 * R) (show w ≠ 0 by omega)
  have hm1 := Int.emod_lt_of_pos (l.getD i 0 + 18446744073709551616 * R) hw
  obtain ⟨q', e3, g1, g2, g3⟩ := dmGo_ev hw hwn hn htop l hl i (q.set i ((l.getD i 0 + 18446744073709551616 * R) / w)) ((l.getD i 0 + 18446744073709551616 * R) % w) (by omega) (by simpa using hq) (dq.set i hd0 hd1) hm0 hm1 (by
   have a1 := V_drop_succ 18446744073709551616 (q.set i ((l.getD i 0 + 18446744073709551616 * R) / w)) i (by rw [List.length_set]; omega)
   rw [V_drop_set_le 18446744073709551616 _ q i (i + 1) (Nat.lt_succ_self i), getD_set q i i _ (by omega), if_pos rfl] at a1
   have a2 := V_drop_succ 18446744073709551616 l i (by omega)
   have a3 := Int.emod_add_mul_ediv (l.getD i 0 + 18446744073709551616 * R) w
   rw [a1, a2, ← hI]
   generalize (l.getD i 0 + 18446744073709551616 * R) / w = D at *
   generalize (l.getD i 0 + 18446744073709551616 * R) % w = M at *
   have b1 : (D + 18446744073709551616 * V 18446744073709551616 (q.drop (i + 1))) * w = w * D + 18446744073709551616 * (V 18446744073709551616 (q.drop (i + 1)) * w) := by grind
   omega)
  have hRl := hR.len
  refine ⟨q', Ev.congr (f := fun k => (nat_Norm.f k (l.getD i 0 :: dg 18446744073709551616 R)).bind fun r1 => (natdiv_digit.f k r1 (dg 18446744073709551616 w)).bind fun p => dmGo k l (dg 18446744073709551616 w) i (q.set i p.1) p.2) (fun k => ?_) (Ev.bind e1 (Ev.bind e2 e3)), g1, g2, g3⟩
  simp only [dmGo]
  rw [if_pos (by omega), rd_nat]
theorem top_shift {w : Int} (hw : 0 < w) {s : Nat} (hs : (s : Int) = 64 - bitsOf ((dg 18446744073709551616 w).getD ((dg 18446744073709551616 w).length - 1) 0)) : s < 64 ∧ (dg 18446744073709551616 (2 ^ s * w)).length ≤ (dg 18446744073709551616 w).length ∧ 18446744073709551616 ≤ 2 * (dg 18446744073709551616 (2 ^ s * w)).getD ((dg 18446744073709551616 (2 ^ s * w)).length - 1) 0 := by
 have nw := dg_nrm one_lt_B w
 have vw := dg_val one_lt_B (Int.le_of_lt hw)
 have hne : dg 18446744073709551616 w ≠ [] := fun e => by
  have := (dg_nil one_lt_B (Int.le_of_lt hw)).1 e
  omega
 have hpos : 0 < (dg 18446744073709551616 w).length := List.length_pos_iff.2 hne
 have tw := nw.1.getD B_pos ((dg 18446744073709551616 w).length - 1)
 have ht : (dg 18446744073709551616 w).getD ((dg 18446744073709551616 w).length - 1) 0 ≠ 0 := nw.2.resolve_left hne
 have hl := V_last (B := 18446744073709551616) hne
 have hr := V_lt B_pos (nw.1.take ((dg 18446744073709551616 w).length - 1))
 have hr0 := V_nonneg B_pos (nw.1.take ((dg 18446744073709551616 w).length - 1))
 rw [List.length_take, Nat.min_eq_left (by omega)] at hr
 rw [vw] at hl
 have hB := pow_succ_pred 18446744073709551616 hpos
 generalize (dg 18446744073709551616 w).length = n at *
 generalize (dg 18446744073709551616 w).getD (n - 1) 0 = t at *
 generalize V 18446744073709551616 ((dg 18446744073709551616 w).take (n - 1)) = r at *
 have hb := bitsOf_spec tw.1
 have hbp := bitsOf_pos (show 0 < t by omega)
 have hb64 : bitsOf t ≤ 64 := bitsOf_le tw.1 (n := 64) (by omega)
 obtain ⟨b, eb⟩ := Int.eq_ofNat_of_zero_le (bitsOf_nonneg t)
 rw [eb] at hs hb hbp hb64
 have h1 : t < 2 ^ b := by simpa using hb.2.2.1
 have h2 : (2 : Int) ^ (b - 1) ≤ t := by
  rcases hb.2.2.2 with h | h
  ·
   omega
  ·
   simpa using h
 have hs' : s = 64 - b := by omega
 have p0 : (0 : Int) < 2 ^ s := two_pow_pos s
 have e1 : (2 : Int) ^ s * 2 ^ b = 18446744073709551616 := by rw [← Int.pow_add, hs', show 64 - b + b = 64 by omega]; rfl
 have e2 : (2 : Int) ^ s * 2 ^ (b - 1) = 9223372036854775808 := by rw [← Int.pow_add, hs', show 64 - b + (b - 1) = 63 by omega]; rfl
 have hP := pow_pos' B_pos (n - 1)
 have hlt : 2 ^ s * w < 18446744073709551616 ^ n := by
  have a : w < 18446744073709551616 ^ (n - 1) * 2 ^ b := by
   have : 18446744073709551616 ^ (n - 1) * (t + 1) ≤ 18446744073709551616 ^ (n - 1) * 2 ^ b := Int.mul_le_mul_of_nonneg_left (by omega) (Int.le_of_lt hP)
   have e : 18446744073709551616 ^ (n - 1) * (t + 1) = 18446744073709551616 ^ (n - 1) * t + 18446744073709551616 ^ (n - 1) := by grind
   omega
  have b' : 2 ^ s * w < 2 ^ s * (18446744073709551616 ^ (n - 1) * 2 ^ b) := Int.mul_lt_mul_of_pos_left a p0
  have c : (2 : Int) ^ s * (18446744073709551616 ^ (n - 1) * 2 ^ b) = 18446744073709551616 ^ (n - 1) * (2 ^ s * 2 ^ b) := by grind
  rw [c, e1, ← hB] at b'
  exact b'
 have hge : 18446744073709551616 ^ (n - 1) * 9223372036854775808 ≤ 2 ^ s * w := by
  have a : 18446744073709551616 ^ (n - 1) * 2 ^ (b - 1) ≤ w := by
   have : 18446744073709551616 ^ (n - 1) * 2 ^ (b - 1) ≤ 18446744073709551616 ^ (n - 1) * t := Int.mul_le_mul_of_nonneg_left h2 (Int.le_of_lt hP)
   omega
  have b' : 2 ^ s * (18446744073709551616 ^ (n - 1) * 2 ^ (b - 1)) ≤ 2 ^ s * w := Int.mul_le_mul_of_nonneg_left a (Int.le_of_lt p0)
  have c : (2 : Int) ^ s * (18446744073709551616 ^ (n - 1) * 2 ^ (b - 1)) = 18446744073709551616 ^ (n - 1) * (2 ^ s * 2 ^ (b - 1)) := by grind
  rw [c, e2] at b'
  exact b'
 have hW : 0 < 2 ^ s * w := Int.mul_pos p0 hw
 have nW := dg_nrm one_lt_B (2 ^ s * w)
 have vW := dg_val one_lt_B (Int.le_of_lt hW)
 have hlen := dg_len_le one_lt_B (Int.le_of_lt hW) hlt
 have hneW : dg 18446744073709551616 (2 ^ s * w) ≠ [] := fun e => by
  have := (dg_nil one_lt_B (Int.le_of_lt hW)).1 e
  omega
 have hposW : 0 < (dg 18446744073709551616 (2 ^ s * w)).length := List.length_pos_iff.2 hneW
 have hlW := V_last (B := 18446744073709551616) hneW
 have hrW := V_lt B_pos (nW.1.take ((dg 18446744073709551616 (2 ^ s * w)).length - 1))
 rw [List.length_take, Nat.min_eq_left (by omega)] at hrW
 rw [vW] at hlW
 refine ⟨by omega, hlen, ?_⟩
 have hlenW : (dg 18446744073709551616 (2 ^ s * w)).length = n := by
  by_cases e : (dg 18446744073709551616 (2 ^ s * w)).length = n
  ·
   exact e
  ·
   exfalso
   have a := V_lt B_pos nW.1
   rw [vW] at a
   have b' := pow_le B_pos (show (dg 18446744073709551616 (2 ^ s * w)).length ≤ n - 1 by omega)
   have : (18446744073709551616 : Int) ^ (n - 1) * 1 ≤ 18446744073709551616 ^ (n - 1) * 9223372036854775808 := Int.mul_le_mul_of_nonneg_left (by omega) (Int.le_of_lt hP)
   omega
 rw [hlenW] at hlW hrW ⊢
 generalize (dg 18446744073709551616 (2 ^ s * w)).getD (n - 1) 0 = T at *
 generalize V 18446744073709551616 ((dg 18446744073709551616 (2 ^ s * w)).take (n - 1)) = R at *
 by_cases hT : 9223372036854775808 ≤ T
 ·
  omega
 ·
  exfalso
  have a : 18446744073709551616 ^ (n - 1) * (T + 1) ≤ 18446744073709551616 ^ (n - 1) * 9223372036854775808 := Int.mul_le_mul_of_nonneg_left (by omega) (Int.le_of_lt hP)
  have e : 18446744073709551616 ^ (n - 1) * (T + 1) = 18446744073709551616 ^ (n - 1) * T + 18446744073709551616 ^ (n - 1) := by grind
  omega
theorem Nm.divmod {a b v w n m} (h : Nm a v n) (g : Nm b w m) (hw : 0 < w) (hn : n < 100000000000) (hm : m < 100000000000) :
  Ev (fun k => natdiv_DivMod.f k a b) (Num.dg 18446744073709551616 (v / w), Num.dg 18446744073709551616 (v % w), 0) ∧ Nm (Num.dg 18446744073709551616 (v / w)) (v / w) n ∧ Nm (Num.dg 18446744073709551616 (v % w)) (v % w) m := by
 have hv0 := h.nonneg
 have q0 : 0 ≤ v / w := Int.ediv_nonneg hv0 (Int.le_of_lt hw)
 have q1 : v / w ≤ v := Int.ediv_le_self _ hv0
 have r0 := Int.emod_nonneg v (show w ≠ 0 by omega)
 have r1 := Int.emod_lt_of_pos v hw
 refine ⟨?_, h.dg_le q0 q1, g.dg_le r0 (Int.le_of_lt r1)⟩
 obtain ⟨e1, n1⟩ := g.norm (by omega)
 have nw := dg_nrm one_lt_B w
 have hne : Num.dg 18446744073709551616 w ≠ [] := fun e => by
  have := (dg_nil one_lt_B (Int.le_of_lt hw)).1 e
  omega
 have hpos : 0 < (Num.dg 18446744073709551616 w).length := List.length_pos_iff.2 hne
 have tw := nw.1.getD B_pos ((Num.dg 18446744073709551616 w).length - 1)
 have hb64 : bitsOf ((Num.dg 18446744073709551616 w).getD ((Num.dg 18446744073709551616 w).length - 1) 0) ≤ 64 := bitsOf_le tw.1 (n := 64) (by omega)
 have hb0 := bitsOf_nonneg ((Num.dg 18446744073709551616 w).getD ((Num.dg 18446744073709551616 w).length - 1) 0)
 obtain ⟨s, hs⟩ := Int.eq_ofNat_of_zero_le (show 0 ≤ 64 - bitsOf ((Num.dg 18446744073709551616 w).getD ((Num.dg 18446744073709551616 w).length - 1) 0) by omega)
 obtain ⟨s64, hsl, htop⟩ := top_shift hw hs.symm
 obtain ⟨e2, n2⟩ := n1.shl s (by omega) (by omega)
 obtain ⟨e3, n3⟩ := h.shl s (by omega) (by omega)
 have n2' : Nm (Num.dg 18446744073709551616 (2 ^ s * w)) (2 ^ s * w) m := ⟨n2.dig, n2.val, Nat.le_trans hsl n1.len⟩
 have p0 : (0 : Int) < 2 ^ s := two_pow_pos s
 have hW : 0 < 2 ^ s * w := Int.mul_pos p0 hw
 obtain ⟨q, e4, lq, dq, vq⟩ := dmGo_ev hW n2' (by omega) htop (Num.dg 18446744073709551616 (2 ^ s * v)) n3.dig (Num.dg 18446744073709551616 (2 ^ s * v)).length (List.replicate (Num.dg 18446744073709551616 (2 ^ s * v)).length 0) 0 (Nat.le_refl _) (by simp) (Dig.replicate B_pos _) (Int.le_refl _) hW (by
  have l0 : (Num.dg 18446744073709551616 (2 ^ s * v)).length ≤ (Num.dg 18446744073709551616 (2 ^ s * v)).length := Nat.le_refl _
  rw [V_drop_all _ _ l0, V_drop_all _ _ (by simp)]; omega)
 rw [n3.val, Int.mul_emod_mul_of_pos _ _ p0] at e4
 rw [n3.val, Int.mul_ediv_mul_of_pos _ _ p0] at vq
 have l3 := n3.len
 have nq : Nm q (v / w) (Num.dg 18446744073709551616 (2 ^ s * v)).length := ⟨dq, vq, Nat.le_of_eq lq⟩
 obtain ⟨e5, n5⟩ := nq.norm (by omega)
 have n6 : Nm (Num.dg 18446744073709551616 (2 ^ s * (v % w))) (2 ^ s * (v % w)) m := n2'.dg_le (Int.mul_nonneg (Int.le_of_lt p0) r0) (Int.mul_le_mul_of_nonneg_left (Int.le_of_lt r1) (Int.le_of_lt p0))
 obtain ⟨e7, n7⟩ := n6.shr s (by omega) (by omega)
 rw [Int.mul_ediv_cancel_left _ (by omega)] at e7
 have elz : bits_LeadingZeros64.f (rd (Num.dg 18446744073709551616 w) (((Num.dg 18446744073709551616 w).length : Int) - 1)) = some (s : Int) := by
  rw [rd_of (n := (Num.dg 18446744073709551616 w).length - 1) _ (by omega)]
  unfold bits_LeadingZeros64.f
  rw [len64_some tw.1 tw.2]
  simp only [Option.bind_some]
  rw [hs, w64 (by omega) (by omega)]
 unfold natdiv_DivMod.f
 refine Ev.bind e1 (Ev.congr (fun k => if_neg (by omega)) ?_)
 refine Ev.bind (g := fun _ => bits_LeadingZeros64.f (rd (Num.dg 18446744073709551616 w) (((Num.dg 18446744073709551616 w).length : Int) - 1))) (Ev.congr (fun _ => elz) (Ev.now _)) ?_
 refine Ev.bind e2 ?_
 refine Ev.bind e3 ?_
 refine Ev.congr (fun k => if_pos (by omega)) ?_
 refine Ev.bind e4 ?_
 exact Ev.bind e5 (Ev.bind e7 (Ev.now _))
end Go.Proofs.Ytkjhjlnjkohlbaa.PR
