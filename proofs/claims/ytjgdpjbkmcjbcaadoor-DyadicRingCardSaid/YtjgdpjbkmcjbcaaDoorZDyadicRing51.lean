/- Parts of a proof. -/
import Derived.Test.YtjgdpjbkmcjbcaaDoorZDyadicRing50
import Derived.Test.YtjgdpjbkmcjbcaaDoorZDyadicRing41
section
namespace Go.Proofs.YtjgdpjbkmcjbcaaDoor.PG
open Go.RowKit Go.Proofs.YtjgdpjbkmcjbcaaDoorW.PrintWords Go.Proofs.YtjgdpjbkmcjbcaaDoorW.PrintLast Go.Proofs.YtjgdpjbkmcjbcaaDoorW.PrintMore Go.Proofs.YtjgdpjbkmcjbcaaDoor.Num Go.Proofs.YtjgdpjbkmcjbcaaDoor.Flt
set_option linter.unusedVariables false
set_option linter.unusedSimpArgs false
theorem alive4_ev : Ev (fun k => vernierlaw04_alive.f k) true := by
 have e := dof_ev (a := 12) (e := 0) (by decide) (by decide) (by decide) (by decide)
 have hd : dt 12 0 = (false, [3], 2, 0) := by decide +kernel
 rw [hd] at e
 unfold vernierlaw04_alive.f
 exact Ev.bind e (Ev.congr (fun k => (if_pos rfl).trans ((if_pos rfl).trans ((if_pos (by decide)).trans (if_pos rfl)))) (Ev.now _))
theorem dt_any {z x : Int} {n : Nat} (hz : (z.natAbs : Int) < 18446744073709551616 ^ n) (hn : n ≤ 100000) (hx0 : -1000000 ≤ x) (hx1 : x ≤ 1000000) :
  dt z x = (false, [], 0, 4) ∨ ∃ (y e : Int) (t : Nat), dt z x = ((wz y).1, (wz y).2, e, 0) ∧ Wh (wz y).1 (wz y).2 y 1024 ∧ -16384 ≤ e ∧ e ≤ 16384 ∧ (z = 0 ∧ y = 0 ∧ e = 0 ∨ y ≠ 0 ∧ z ≠ 0 ∧ z = y * 2 ^ t ∧ e = x + t ∧ t < 64 * n ∧ y = oz z) := by
 by_cases h0 : z = 0
 ·
  right
  refine ⟨0, 0, 0, ?_, ⟨Nm.nil, rfl⟩, by omega, by omega, .inl ⟨h0, rfl, rfl⟩⟩
  rw [h0]
  rfl
 ·
  obtain ⟨h1, h2, h3⟩ := oz_abs h0
  have hv := od_val (v := (z.natAbs : Int)) (by omega)
  have ht := t2_lt (by omega) hz
  have hw := Wh.made (z := oz z) (n := n) (by rw [h1]; omega)
  rw [dt_wz h0, w64 (by omega) (by omega)]
  by_cases hd : dmay (wz (oz z)).2 (x + t2 (z.natAbs : Int))
  ·
   right
   rw [if_pos hd]
   exact ⟨oz z, x + t2 (z.natAbs : Int), t2 (z.natAbs : Int), rfl, ⟨⟨hw.nm.dig, hw.nm.val, hd.2.2⟩, hw.val⟩, hd.1, hd.2.1, .inr ⟨h3, h0, oz_val h0, rfl, ht, rfl⟩⟩
  ·
   left
   rw [if_neg hd]
end Go.Proofs.YtjgdpjbkmcjbcaaDoor.PG
end
section
namespace Go.Proofs.YtjgdpjbkmcjbcaaDoor.Pure
open Go.RowKit Go.Proofs.YtjgdpjbkmcjbcaaDoor.PG Go.Proofs.YtjgdpjbkmcjbcaaDoorW.PrintWords Go.Proofs.YtjgdpjbkmcjbcaaDoorW.PrintLast Go.Proofs.YtjgdpjbkmcjbcaaDoorW.PrintMore Go.Proofs.YtjgdpjbkmcjbcaaDoor.Num Go.Proofs.YtjgdpjbkmcjbcaaDoor.Flt
set_option linter.unusedVariables false
theorem ev_uniq {α : Type} {g : Nat → Option α} {r s : α} (h : Ev g r) (h' : Ev g s) : r = s := by
 obtain ⟨K, hK⟩ := h
 obtain ⟨K', hK'⟩ := h'
 have a := hK (max K K') (Nat.le_max_left _ _)
 have b := hK' (max K K') (Nat.le_max_right _ _)
 exact Option.some.inj (a.symm.trans b)
def isNum (X : Bool × List Int × Int × Int) : Prop := ∃ z, Wh X.1 X.2.1 z 1024 ∧ -16384 ≤ X.2.2.1 ∧ X.2.2.1 ≤ 16384
theorem num0 (e : Int) : isNum (false, [], 0, e) := ⟨0, ⟨Nm.nil, rfl⟩, show (-16384 : Int) ≤ 0 by decide, show (0 : Int) ≤ 16384 by decide⟩
theorem dt_num {z x : Int} {n : Nat} (hz : (z.natAbs : Int) < 18446744073709551616 ^ n) (hn : n ≤ 100000) (hx0 : -1000000 ≤ x) (hx1 : x ≤ 1000000) : isNum (dt z x) := by
 rcases dt_any hz hn hx0 hx1 with h | ⟨y, e, t, h, w, e0, e1, _⟩
 ·
  rw [h]; exact num0 4
 ·
  rw [h]; exact ⟨y, w, e0, e1⟩
theorem add_any {s1 s2 : Bool} {l1 l2 : List Int} {v1 v2 e1 e2 : Int} {n1 n2 : Nat} (h1 : Nm l1 v1 n1) (h2 : Nm l2 v2 n2) :
  ∃ X, Ev (fun k => dyadic_Add.f k s1 l1 e1 s2 l2 e2) X ∧ isNum X ∧ (X.2.2.2 = 0 → dmay l1 e1 ∧ dmay l2 e2) := by
 by_cases h : dmay l1 e1 ∧ dmay l2 e2
 ·
  obtain ⟨d1, d2⟩ := h
  have w1 : Wh s1 l1 (sv s1 v1) 1024 := Wh.of ⟨h1.dig, h1.val, d1.2.2⟩
  have w2 : Wh s2 l2 (sv s2 v2) 1024 := Wh.of ⟨h2.dig, h2.val, d2.2.2⟩
  have e := dadd_ev w1 w2 d1.1 d1.2.1 d2.1 d2.2.1
  have hm := mn_le' e1 e2
  obtain ⟨m1, m2, _, y1, y2⟩ := level_ev w1 w2 d1.1 d1.2.1 d2.1 d2.2.1
  have a1 := d1.1
  have a2 := d1.2.1
  have b1 := d2.1
  have b2 := d2.2.1
  refine ⟨_, e, dt_num (n := 2050) ?_ (by omega) (by omega) (by omega), fun _ => ⟨d1, d2⟩⟩
  have l3 := y1.lt
  have l4 := y2.lt
  have hpw : (18446744073709551616 : Int) ^ 2049 * 2 ≤ 18446744073709551616 ^ 2050 := by rw [Int.pow_succ]; have := pow_pos' B_pos 2049; omega
  generalize (18446744073709551616 : Int) ^ 2050 = P1 at *
  generalize (18446744073709551616 : Int) ^ 2049 = P0 at *
  omega
 ·
  exact ⟨_, dadd_no h, num0 9, fun h0 => absurd h0 (show ¬ (9 : Int) = 0 by decide)⟩
theorem mul_any {s1 s2 : Bool} {l1 l2 : List Int} {v1 v2 e1 e2 : Int} {n1 n2 : Nat} (h1 : Nm l1 v1 n1) (h2 : Nm l2 v2 n2) :
  ∃ X, Ev (fun k => dyadic_Mul.f k s1 l1 e1 s2 l2 e2) X ∧ isNum X ∧ (X.2.2.2 = 0 → dmay l1 e1 ∧ dmay l2 e2) := by
 by_cases h : dmay l1 e1 ∧ dmay l2 e2
 ·
  obtain ⟨d1, d2⟩ := h
  have w1 : Wh s1 l1 (sv s1 v1) 1024 := Wh.of ⟨h1.dig, h1.val, d1.2.2⟩
  have w2 : Wh s2 l2 (sv s2 v2) 1024 := Wh.of ⟨h2.dig, h2.val, d2.2.2⟩
  have e := dmul_ev w1 w2 d1.1 d1.2.1 d2.1 d2.2.1
  obtain ⟨_, w3⟩ := w1.mul w2 (by omega)
  have a1 := d1.1
  have a2 := d1.2.1
  have b1 := d2.1
  have b2 := d2.2.1
  exact ⟨_, e, dt_num (n := 2048) w3.lt (by omega) (by omega) (by omega), fun _ => ⟨d1, d2⟩⟩
 ·
  exact ⟨_, dmul_no h, num0 9, fun h0 => absurd h0 (show ¬ (9 : Int) = 0 by decide)⟩
theorem told_val {z x : Int} {n : Nat} (hz : (z.natAbs : Int) < 18446744073709551616 ^ n) (hn : n ≤ 100000) (hx0 : -200000 ≤ x) (hx1 : x ≤ 1000000) (h0 : (dt z x).2.2.2 = 0) :
  ∃ y e, dt z x = ((wz y).1, (wz y).2, e, 0) ∧ Wh (wz y).1 (wz y).2 y 1024 ∧ -16384 ≤ e ∧ e ≤ 16384 ∧ vl y e = vl z x := by
 rcases dt_any hz hn (by omega) hx1 with h | ⟨y, e, t, h, w, e0, e1, hy⟩
 ·
  rw [h] at h0
  exact absurd h0 (show ¬ (4 : Int) = 0 by decide)
 ·
  exact ⟨y, e, h, w, e0, e1, dt_any_vl hx0 hy⟩
theorem DyadicRing (a0_0 : Bool) (l0_1 : List Int) (a0_2 : Int) (a1_0 : Bool) (l1_1 : List Int) (a1_2 : Int) (a2_0 : Bool) (l2_1 : List Int) (a2_2 : Int)
  (y0_1 : l0_1.length * 8 ≤ 140737488351232) (w0_1 : ∀ n ∈ l0_1, (Lit.int .u64 n).wf = true) (w0_2 : (Lit.int .i64 a0_2).wf = true)
  (y1_1 : l1_1.length * 8 ≤ 140737488351232) (w1_1 : ∀ n ∈ l1_1, (Lit.int .u64 n).wf = true) (w1_2 : (Lit.int .i64 a1_2).wf = true)
  (y2_1 : l2_1.length * 8 ≤ 140737488351232) (w2_1 : ∀ n ∈ l2_1, (Lit.int .u64 n).wf = true) (w2_2 : (Lit.int .i64 a2_2).wf = true) :
  ∃ k, vernierlaw04_DyadicRing.f k a0_0 l0_1 a0_2 a1_0 l1_1 a1_2 a2_0 l2_1 a2_2 = some true := by
 refine Ev.rounds ?_
 have na := Nm.of_wf (n := l0_1.length) w0_1 (Nat.le_refl _)
 have nb := Nm.of_wf (n := l1_1.length) w1_1 (Nat.le_refl _)
 have nc := Nm.of_wf (n := l2_1.length) w2_1 (Nat.le_refl _)
 generalize V 18446744073709551616 l0_1 = va at na
 generalize V 18446744073709551616 l1_1 = vb at nb
 generalize V 18446744073709551616 l2_1 = vc at nc
 obtain ⟨S, eS, ⟨zs, wS, _, _⟩, hS⟩ := add_any (s1 := a1_0) (s2 := a2_0) (e1 := a1_2) (e2 := a2_2) nb nc
 obtain ⟨L, eL, ⟨zl, wL, _, _⟩, hL⟩ := mul_any (s1 := a0_0) (s2 := S.1) (e1 := a0_2) (e2 := S.2.2.1) na wS.nm
 obtain ⟨P, eP, ⟨zp, wP, _, _⟩, hP⟩ := mul_any (s1 := a0_0) (s2 := a1_0) (e1 := a0_2) (e2 := a1_2) na nb
 obtain ⟨Q, eQ, ⟨zq, wQ, _, _⟩, hQ⟩ := mul_any (s1 := a0_0) (s2 := a2_0) (e1 := a0_2) (e2 := a2_2) na nc
 obtain ⟨R, eR, ⟨zr, wR, _, _⟩, hR⟩ := add_any (s1 := P.1) (s2 := Q.1) (e1 := P.2.2.1) (e2 := Q.2.2.1) wP.nm wQ.nm
 unfold vernierlaw04_DyadicRing.f
 refine Ev.bind alive4_ev (Ev.congr (fun k => if_pos rfl) ?_)
 refine Ev.bind eS (Ev.bind eL (Ev.bind eP (Ev.bind eQ (Ev.bind eR ?_))))
 by_cases c1 : S.2.2.2 = 0
 ·
  by_cases c2 : L.2.2.2 = 0
  ·
   by_cases c3 : P.2.2.2 = 0
   ·
    by_cases c4 : Q.2.2.2 = 0
    ·
     by_cases c5 : R.2.2.2 = 0
     ·
      refine Ev.congr (fun k => (if_pos c1).trans ((if_pos c2).trans ((if_pos c3).trans ((if_pos c4).trans (if_pos c5))))) ?_
      obtain ⟨db, dc⟩ := hS c1
      obtain ⟨da, ds⟩ := hL c2
      have wa : Wh a0_0 l0_1 (sv a0_0 va) 1024 := Wh.of ⟨na.dig, na.val, da.2.2⟩
      have wb : Wh a1_0 l1_1 (sv a1_0 vb) 1024 := Wh.of ⟨nb.dig, nb.val, db.2.2⟩
      have wc : Wh a2_0 l2_1 (sv a2_0 vc) 1024 := Wh.of ⟨nc.dig, nc.val, dc.2.2⟩
      have a1 := da.1
      have a2 := da.2.1
      have b1 := db.1
      have b2 := db.2.1
      have c1' := dc.1
      have c2' := dc.2.1
      generalize sv a0_0 va = za at wa
      generalize sv a1_0 vb = zb at wb
      generalize sv a2_0 vc = zc at wc
      have xS := dadd_ev wb wc db.1 db.2.1 dc.1 dc.2.1
      have gS := ev_uniq eS xS
      have hm := mn_le' a1_2 a2_2
      have bS : (((zb * up2 (a1_2 - mn a1_2 a2_2) + zc * up2 (a2_2 - mn a1_2 a2_2)).natAbs : Nat) : Int) < 18446744073709551616 ^ 2050 := by
       obtain ⟨m1, m2, _, y1, y2⟩ := level_ev wb wc db.1 db.2.1 dc.1 dc.2.1
       have l3 := y1.lt
       have l4 := y2.lt
       have hpw : (18446744073709551616 : Int) ^ 2049 * 2 ≤ 18446744073709551616 ^ 2050 := by rw [Int.pow_succ]; have := pow_pos' B_pos 2049; omega
       generalize (18446744073709551616 : Int) ^ 2050 = P1 at *
       generalize (18446744073709551616 : Int) ^ 2049 = P0 at *
       omega
      rw [gS] at c1
      obtain ⟨ys, es, tS, uS, s0, s1, vS⟩ := told_val bS (by omega) (by omega) (by omega) c1
      rw [vl_sum zb zc a1_2 a2_2 (by omega) (by omega)] at vS
      rw [tS] at gS
      subst gS
      have xL := dmul_ev wa uS a1 a2 s0 s1
      have gL := ev_uniq eL xL
      have bL := (wa.mul uS (by omega)).2.lt
      rw [gL] at c2
      obtain ⟨yl, el, tL, uL, _, _, vL⟩ := told_val bL (by omega) (by omega) (by omega) c2
      have xP := dmul_ev wa wb a1 a2 b1 b2
      have gP := ev_uniq eP xP
      have bP := (wa.mul wb (by omega)).2.lt
      rw [gP] at c3
      obtain ⟨yp, ep, tP, uP, p0, p1, vP⟩ := told_val bP (by omega) (by omega) (by omega) c3
      rw [tP] at gP
      subst gP
      have xQ := dmul_ev wa wc a1 a2 c1' c2'
      have gQ := ev_uniq eQ xQ
      have bQ := (wa.mul wc (by omega)).2.lt
      rw [gQ] at c4
      obtain ⟨yq, eq, tQ, uQ, q0, q1, vQ⟩ := told_val bQ (by omega) (by omega) (by omega) c4
      rw [tQ] at gQ
      subst gQ
      have xR := dadd_ev uP uQ p0 p1 q0 q1
      have gR := ev_uniq eR xR
      have hm2 := mn_le' ep eq
      have vR := vl_sum yp yq ep eq (by omega) (by omega)
      have key : vl (za * ys) (a0_2 + es) = vl (yp * up2 (ep - mn ep eq) + yq * up2 (eq - mn ep eq)) (mn ep eq) := by
       have k1 := vl_mul za ys a0_2 es (by omega) (by omega)
       have k2 := vl_mul za zb a0_2 a1_2 (by omega) (by omega)
       have k3 := vl_mul za zc a0_2 a2_2 (by omega) (by omega)
       rw [vR, vP, vQ]
       have hU := up2_pos 200000
       refine Int.eq_of_mul_eq_mul_right (show up2 200000 ≠ 0 by omega) ?_
       rw [k1, Int.add_mul, k2, k3, vS, Int.mul_add]
      have hdt := dt_vl key (by omega) (by omega)
      have gLR : L = R := by rw [gL, gR, hdt]
      rw [gL, tL] at eL
      subst gLR
      rw [gL, tL]
      exact Ev.bind (dsame_ev (s := (wz yl).1) uL.nm (by omega) el) (Ev.now _)
     ·
      exact Ev.congr (fun k => (if_pos c1).trans ((if_pos c2).trans ((if_pos c3).trans ((if_pos c4).trans (if_neg c5))))) (Ev.now _)
    ·
     exact Ev.congr (fun k => (if_pos c1).trans ((if_pos c2).trans ((if_pos c3).trans (if_neg c4)))) (Ev.now _)
   ·
    exact Ev.congr (fun k => (if_pos c1).trans ((if_pos c2).trans (if_neg c3))) (Ev.now _)
  ·
   exact Ev.congr (fun k => (if_pos c1).trans (if_neg c2)) (Ev.now _)
 ·
  exact Ev.congr (fun k => if_neg c1) (Ev.now _)
end Go.Proofs.YtjgdpjbkmcjbcaaDoor.Pure
end
