/- Parts of a proof. -/
import Derived.Test.YtjgdpjbkmcjbcaaDoorZDyadicTells50
import Derived.Test.YtjgdpjbkmcjbcaaDoorZDyadicTells43
section
namespace Go.Proofs.YtjgdpjbkmcjbcaaDoor.Flt
open Go.Proofs.YtjgdpjbkmcjbcaaDoor.Num
set_option linter.unusedVariables false
set_option linter.unusedSimpArgs false
def up2 (a : Int) : Int := 2 ^ a.toNat
theorem up2_nat (n : Nat) : up2 (n : Int) = 2 ^ n := by unfold up2; rw [Int.toNat_natCast]
end Go.Proofs.YtjgdpjbkmcjbcaaDoor.Flt
end
section
namespace Go.Proofs.YtjgdpjbkmcjbcaaDoor.PG
open Go.RowKit Go.Proofs.YtjgdpjbkmcjbcaaDoorW.PrintWords Go.Proofs.YtjgdpjbkmcjbcaaDoorW.PrintLast Go.Proofs.YtjgdpjbkmcjbcaaDoorW.PrintMore Go.Proofs.YtjgdpjbkmcjbcaaDoor.Num Go.Proofs.YtjgdpjbkmcjbcaaDoor.Flt
set_option linter.unusedVariables false
set_option linter.unusedSimpArgs false
def t2F : Nat → Int → Nat
 | 0, _ => 0
 | f + 1, v => if v % 2 = 0 then t2F f (v / 2) + 1 else 0
def t2 (v : Int) : Nat := t2F v.toNat v
def od (v : Int) : Int := v / 2 ^ t2 v
theorem t2F_spec : ∀ (f : Nat) (v : Int), 0 < v → v.toNat ≤ f → ∃ m, 0 ≤ m ∧ Odd2 v (t2F f v) m
 | 0, v, h0, h1 => by omega
 | f + 1, v, h0, h1 => by
  unfold t2F
  by_cases h : v % 2 = 0
  ·
   rw [if_pos h]
   obtain ⟨m, hm, ho⟩ := t2F_spec f (v / 2) (by omega) (by omega)
   refine ⟨m, hm, ?_⟩
   unfold Odd2 at ho ⊢
   rw [Int.pow_succ, Int.mul_assoc, Int.mul_left_comm, ← ho]
   omega
  ·
   rw [if_neg h]
   refine ⟨v / 2, by omega, ?_⟩
   unfold Odd2
   rw [Int.pow_zero, Int.one_mul]
   omega
theorem t2_odd {v : Int} (h : 0 < v) : ∃ m, 0 ≤ m ∧ Odd2 v (t2 v) m := t2F_spec _ v h (Nat.le_refl _)
theorem t2_eq {v m : Int} {t : Nat} (hm : 0 ≤ m) (h : Odd2 v t m) : t2 v = t := by
 obtain ⟨m', _, h'⟩ := t2_odd (odd2_pos h hm)
 exact (h'.uniq h).1
theorem od_eq {v m : Int} {t : Nat} (hm : 0 ≤ m) (h : Odd2 v t m) : od v = 2 * m + 1 := by
 unfold od
 rw [t2_eq hm h]
 exact odd2_div h
theorem od_val {v : Int} (h : 0 < v) : v = od v * 2 ^ t2 v ∧ 0 < od v ∧ od v ≤ v := by
 obtain ⟨m, hm, ho⟩ := t2_odd h
 have e := od_eq hm ho
 refine ⟨?_, by omega, ?_⟩
 ·
  rw [e]
  unfold Odd2 at ho
  rw [Int.mul_comm]
  exact ho
 ·
  unfold od
  exact Int.ediv_le_self _ (by omega)
def dt (z x : Int) : Bool × List Int × Int × Int :=
 if z = 0 then (false, [], 0, 0) else dtold (decide (z < 0)) (dg 18446744073709551616 (od (z.natAbs : Int))) (wrap64 (x + t2 (z.natAbs : Int)))
theorem told_wh {s : Bool} {l : List Int} {z : Int} {n : Nat} (h : Wh s l z n) (hn : n ≤ 10000000) (x : Int) : Ev (fun k => dyadic_told.f k s l x) (dt z x) := by
 unfold dt
 by_cases hz : z = 0
 ·
  rw [if_pos hz]
  have := h.nm
  rw [hz] at this
  exact dtold0_ev this hn x
 ·
  rw [if_neg hz]
  obtain ⟨m, hm, ho⟩ := t2_odd (v := (z.natAbs : Int)) (by omega)
  have e := dtold_ev (s := s) h.nm hn ho hm x
  have hs : decide (z < 0) = s := by
   have hv := h.val
   cases s
   ·
    simp only [sv, Bool.false_eq_true, if_false] at hv
    exact decide_eq_false (by omega)
   ·
    simp only [sv, if_true] at hv
    exact decide_eq_true (by omega)
  rw [hs, od_eq hm ho]
  exact e
theorem rdT0 (a b : S36) : rd_T36 [a, b] 0 = a := rfl
theorem rdT1 (a b : S36) : rd_T36 [a, b] 1 = b := rfl
theorem lenT (a b : S36) : (([a, b] : List S36).length : Int) = 2 := rfl
theorem w01 : wrap64 (0 + 1) = 1 := w64 (by decide) (by decide)
theorem w12 : wrap64 (1 + 1) = 2 := w64 (by decide) (by decide)
theorem checked_ok {s1 s2 : Bool} {l1 l2 : List Int} {e1 e2 : Int} (h1 : dmay l1 e1) (h2 : dmay l2 e2) : Ev (fun k => dyadic_checked.f k [(⟨s1, l1, e1⟩ : S36), (⟨s2, l2, e2⟩ : S36)]) 0 := by
 unfold dyadic_checked.f
 rw [lenT]
 refine Ev.step (f := fun k => dyadic_checked.l0 k [(⟨s1, l1, e1⟩ : S36), (⟨s2, l2, e2⟩ : S36)] 2 1) (fun k => ?_) (Ev.step (f := fun k => dyadic_checked.l0 k [(⟨s1, l1, e1⟩ : S36), (⟨s2, l2, e2⟩ : S36)] 2 2) (fun k => ?_) (Ev.step (f := fun _ => some 0) (fun k => ?_) (Ev.now _)))
 ·
  rw [dyadic_checked.l0, lenT, if_pos (by decide), if_pos (by decide), if_pos (by decide), rdT0, check_ok h1, Option.bind_some, if_pos rfl, w01]
 ·
  rw [dyadic_checked.l0, lenT, if_pos (by decide), if_pos (by decide), if_pos (by decide), rdT1, check_ok h2, Option.bind_some, if_pos rfl, w12]
 ·
  rw [dyadic_checked.l0, if_neg (by decide)]
theorem checked_no {s1 s2 : Bool} {l1 l2 : List Int} {e1 e2 : Int} (h : ¬ (dmay l1 e1 ∧ dmay l2 e2)) : Ev (fun k => dyadic_checked.f k [(⟨s1, l1, e1⟩ : S36), (⟨s2, l2, e2⟩ : S36)]) 9 := by
 unfold dyadic_checked.f
 rw [lenT]
 by_cases h1 : dmay l1 e1
 ·
  refine Ev.step (f := fun k => dyadic_checked.l0 k [(⟨s1, l1, e1⟩ : S36), (⟨s2, l2, e2⟩ : S36)] 2 1) (fun k => ?_) (Ev.step (f := fun _ => some 9) (fun k => ?_) (Ev.now _))
  ·
   rw [dyadic_checked.l0, lenT, if_pos (by decide), if_pos (by decide), if_pos (by decide), rdT0, check_ok h1, Option.bind_some, if_pos rfl, w01]
  ·
   rw [dyadic_checked.l0, lenT, if_pos (by decide), if_pos (by decide), if_pos (by decide), rdT1, check_no (fun h2 => h ⟨h1, h2⟩), Option.bind_some, if_neg (by decide)]
 ·
  refine Ev.step (f := fun _ => some 9) (fun k => ?_) (Ev.now _)
  rw [dyadic_checked.l0, lenT, if_pos (by decide), if_pos (by decide), if_pos (by decide), rdT0, check_no h1, Option.bind_some, if_neg (by decide)]
theorem mn_le' (a b : Int) : mn a b ≤ a ∧ mn a b ≤ b ∧ (mn a b = a ∨ mn a b = b) := by unfold mn; split <;> omega
theorem Wh.may {s l z e} (h : Wh s l z 1024) (h0 : -16384 ≤ e) (h1 : e ≤ 16384) : dmay l e := ⟨h0, h1, h.nm.len⟩
theorem sv_mul (s : Bool) (v p : Int) : sv s v * p = sv s (v * p) := by
 cases s
 ·
  rfl
 ·
  exact Int.neg_mul _ _
theorem Wh.shl {s l z n} (h : Wh s l z n) (k : Nat) (hn : n ≤ 1000000) (hk : k ≤ 65536) : ∃ l', Ev (fun i => natdiv_Shl.f i l (k : Int)) (l', 0) ∧ Wh s l' (z * 2 ^ k) (1025 + n) := by
 obtain ⟨e, n'⟩ := h.nm.Shl k (by omega) hk
 refine ⟨_, e, ?_⟩
 have hw := Wh.of (s := s) n'
 have hv : sv s (2 ^ k * (z.natAbs : Int)) = z * 2 ^ k := by
  rw [Int.mul_comm, ← sv_mul, ← h.val]
 rw [hv] at hw
 exact hw.mono (by omega)
theorem level_ev {s1 s2 : Bool} {l1 l2 : List Int} {z1 z2 e1 e2 : Int} (h1 : Wh s1 l1 z1 1024) (h2 : Wh s2 l2 z2 1024) (a0 : -16384 ≤ e1) (a1 : e1 ≤ 16384) (b0 : -16384 ≤ e2) (b1 : e2 ≤ 16384) :
  ∃ m1 m2, Ev (fun k => dyadic_level.f k s1 l1 e1 s2 l2 e2) (s1, m1, s2, m2, mn e1 e2) ∧ Wh s1 m1 (z1 * up2 (e1 - mn e1 e2)) 2049 ∧ Wh s2 m2 (z2 * up2 (e2 - mn e1 e2)) 2049 := by
 have hm := mn_le' e1 e2
 obtain ⟨j1, hj1⟩ : ∃ k : Nat, e1 - mn e1 e2 = k := ⟨(e1 - mn e1 e2).toNat, by omega⟩
 obtain ⟨j2, hj2⟩ : ∃ k : Nat, e2 - mn e1 e2 = k := ⟨(e2 - mn e1 e2).toNat, by omega⟩
 obtain ⟨m1, x1, w1⟩ := h1.shl j1 (by omega) (by omega)
 obtain ⟨m2, x2, w2⟩ := h2.shl j2 (by omega) (by omega)
 refine ⟨m1, m2, ?_, by rw [hj1, up2_nat]; exact w1, by rw [hj2, up2_nat]; exact w2⟩
 unfold dyadic_level.f
 rw [w64 (x := e1 - mn e1 e2) (by omega) (by omega), w64 (x := e2 - mn e1 e2) (by omega) (by omega), hj1, hj2]
 exact Ev.bind (g := fun _ => dyadic_signed.f s1 l1 e1) (a := (s1, l1)) (Ev.now _) (Ev.bind (g := fun _ => dyadic_signed.f s2 l2 e2) (a := (s2, l2)) (Ev.now _) (Ev.bind x1 (Ev.bind x2 (Ev.now _))))
theorem dadd_ev {s1 s2 : Bool} {l1 l2 : List Int} {z1 z2 e1 e2 : Int} (h1 : Wh s1 l1 z1 1024) (h2 : Wh s2 l2 z2 1024) (a0 : -16384 ≤ e1) (a1 : e1 ≤ 16384) (b0 : -16384 ≤ e2) (b1 : e2 ≤ 16384) :
  Ev (fun k => dyadic_Add.f k s1 l1 e1 s2 l2 e2) (dt (z1 * up2 (e1 - mn e1 e2) + z2 * up2 (e2 - mn e1 e2)) (mn e1 e2)) := by
 obtain ⟨m1, m2, x, w1, w2⟩ := level_ev h1 h2 a0 a1 b0 b1
 obtain ⟨x2, w3⟩ := w1.add 2049 w2 (by omega) (by omega) (by omega)
 unfold dyadic_Add.f
 exact Ev.bind (checked_ok (h1.may a0 a1) (h2.may b0 b1)) (Ev.congr (fun k => if_pos rfl) (Ev.bind x (Ev.bind x2 (Ev.bind (told_wh w3 (by omega) _) (Ev.now _)))))
theorem dadd_no {s1 s2 : Bool} {l1 l2 : List Int} {e1 e2 : Int} (h : ¬ (dmay l1 e1 ∧ dmay l2 e2)) : Ev (fun k => dyadic_Add.f k s1 l1 e1 s2 l2 e2) (false, [], 0, 9) := by
 unfold dyadic_Add.f
 exact Ev.bind (checked_no h) (Ev.congr (fun k => if_neg (by decide)) (Ev.now _))
theorem dmul_ev {s1 s2 : Bool} {l1 l2 : List Int} {z1 z2 e1 e2 : Int} (h1 : Wh s1 l1 z1 1024) (h2 : Wh s2 l2 z2 1024) (a0 : -16384 ≤ e1) (a1 : e1 ≤ 16384) (b0 : -16384 ≤ e2) (b1 : e2 ≤ 16384) :
  Ev (fun k => dyadic_Mul.f k s1 l1 e1 s2 l2 e2) (dt (z1 * z2) (e1 + e2)) := by
 obtain ⟨x2, w3⟩ := h1.mul h2 (by omega)
 have ht := told_wh w3 (by omega) (e1 + e2)
 unfold dyadic_Mul.f
 rw [w64 (x := e1 + e2) (by omega) (by omega)]
 refine Ev.bind (checked_ok (h1.may a0 a1) (h2.may b0 b1)) (Ev.congr (fun k => if_pos rfl) ?_)
 exact Ev.bind (g := fun _ => dyadic_signed.f s1 l1 e1) (a := (s1, l1)) (Ev.now _) (Ev.bind (g := fun _ => dyadic_signed.f s2 l2 e2) (a := (s2, l2)) (Ev.now _) (Ev.bind x2 (Ev.bind ht (Ev.now _))))
theorem dmul_no {s1 s2 : Bool} {l1 l2 : List Int} {e1 e2 : Int} (h : ¬ (dmay l1 e1 ∧ dmay l2 e2)) : Ev (fun k => dyadic_Mul.f k s1 l1 e1 s2 l2 e2) (false, [], 0, 9) := by
 unfold dyadic_Mul.f
 exact Ev.bind (checked_no h) (Ev.congr (fun k => if_neg (by decide)) (Ev.now _))
theorem Wh.flip {s l z n} (h : Wh s l z n) : Wh (!s) l (-z) n := by
 have hv := h.val
 refine ⟨by rw [Int.natAbs_neg]; exact h.nm, ?_⟩
 rw [Int.natAbs_neg]
 cases s <;> simp [sv] at hv ⊢ <;> omega
theorem dsub_ev {s1 s2 : Bool} {l1 l2 : List Int} {z1 z2 e1 e2 : Int} (h1 : Wh s1 l1 z1 1024) (h2 : Wh s2 l2 z2 1024) (a0 : -16384 ≤ e1) (a1 : e1 ≤ 16384) (b0 : -16384 ≤ e2) (b1 : e2 ≤ 16384) :
  Ev (fun k => dyadic_Sub.f k s1 l1 e1 s2 l2 e2) (dt (z1 * up2 (e1 - mn e1 e2) - z2 * up2 (e2 - mn e1 e2)) (mn e1 e2)) := by
 have e := dadd_ev h1 h2.flip a0 a1 b0 b1
 rw [Int.neg_mul, ← Int.sub_eq_add_neg] at e
 unfold dyadic_Sub.f
 exact Ev.bind e (Ev.now _)
theorem dsub_no {s1 s2 : Bool} {l1 l2 : List Int} {e1 e2 : Int} (h : ¬ (dmay l1 e1 ∧ dmay l2 e2)) : Ev (fun k => dyadic_Sub.f k s1 l1 e1 s2 l2 e2) (false, [], 0, 9) := by
 unfold dyadic_Sub.f
 exact Ev.bind (dadd_no h) (Ev.now _)
theorem dcmp_ev {s1 s2 : Bool} {l1 l2 : List Int} {z1 z2 e1 e2 : Int} (h1 : Wh s1 l1 z1 1024) (h2 : Wh s2 l2 z2 1024) (a0 : -16384 ≤ e1) (a1 : e1 ≤ 16384) (b0 : -16384 ≤ e2) (b1 : e2 ≤ 16384) :
  Ev (fun k => dyadic_Cmp.f k s1 l1 e1 s2 l2 e2) (sgn (z1 * up2 (e1 - mn e1 e2) - z2 * up2 (e2 - mn e1 e2)), 0) := by
 obtain ⟨m1, m2, x, w1, w2⟩ := level_ev h1 h2 a0 a1 b0 b1
 have x2 := w1.cmp 2049 w2 (by omega) (by omega) (by omega)
 unfold dyadic_Cmp.f
 exact Ev.bind (checked_ok (h1.may a0 a1) (h2.may b0 b1)) (Ev.congr (fun k => if_pos rfl) (Ev.bind x (Ev.bind x2 (Ev.now _))))
theorem dcmp_no {s1 s2 : Bool} {l1 l2 : List Int} {e1 e2 : Int} (h : ¬ (dmay l1 e1 ∧ dmay l2 e2)) : Ev (fun k => dyadic_Cmp.f k s1 l1 e1 s2 l2 e2) (0, 9) := by
 unfold dyadic_Cmp.f
 exact Ev.bind (checked_no h) (Ev.congr (fun k => if_neg (by decide)) (Ev.now _))
theorem sv_parts {s : Bool} {w : Int} (hw : 0 < w) : sv s w ≠ 0 ∧ decide (sv s w < 0) = s ∧ ((sv s w).natAbs : Int) = w := by
 unfold sv
 cases s
 ·
  simp only [Bool.false_eq_true, if_false]
  exact ⟨by omega, decide_eq_false (by omega), by omega⟩
 ·
  simp only [if_true]
  exact ⟨by omega, decide_eq_true (by omega), by omega⟩
theorem dof_ev {a e : Int} (h0 : -9223372036854775808 ≤ a) (h1 : a ≤ 9223372036854775807) (he : -16384 ≤ e) (he' : e ≤ 16384) : Ev (fun k => dyadic_Of.f k a e) (dt a e) := by
 obtain ⟨eo, wo⟩ := wof_ev h0 h1
 have ht := told_wh wo (by omega) e
 unfold dyadic_Of.f
 refine Ev.congr (fun k => if_neg (by omega)) ?_
 rw [decide_eq_false (show ¬ e > 16384 by omega)]
 exact Ev.step (f := _) (fun k => by rw [dyadic_Of.j0, if_neg (by decide)]) (Ev.bind eo (Ev.bind ht (Ev.now _)))
end Go.Proofs.YtjgdpjbkmcjbcaaDoor.PG
end
section
namespace Go.Proofs.YtjgdpjbkmcjbcaaDoor.PG
open Go.RowKit Go.Proofs.YtjgdpjbkmcjbcaaDoorW.PrintWords Go.Proofs.YtjgdpjbkmcjbcaaDoorW.PrintLast Go.Proofs.YtjgdpjbkmcjbcaaDoorW.PrintMore Go.Proofs.YtjgdpjbkmcjbcaaDoor.Num Go.Proofs.YtjgdpjbkmcjbcaaDoor.Flt
set_option linter.unusedVariables false
set_option linter.unusedSimpArgs false
theorem is_yes {s1 s2 : Bool} {l1 l2 : List Int} {e1 e2 : Int} (h1 : dmay l1 e1) (h2 : dmay l2 e2) (ws : Bool) {wv : Int} {n : Nat} (hw : Nm (dg 18446744073709551616 wv) wv n) (hn : n ≤ 4611686018427387904) (we : Int) : Ev (fun k => vernierlaw04_is.f k s1 l1 e1 s2 l2 e2 ws (dg 18446744073709551616 wv) we 0 ws (dg 18446744073709551616 wv) we true) true := by
 unfold vernierlaw04_is.f
 have m1 : Ev (fun _ => vernierlaw04_may.f s1 l1 e1) true := Ev.congr (fun _ => (may_some s1 l1 e1).trans (by rw [decide_eq_true h1])) (Ev.now _)
 have m2 : Ev (fun _ => vernierlaw04_may.f s2 l2 e2) true := Ev.congr (fun _ => (may_some s2 l2 e2).trans (by rw [decide_eq_true h2])) (Ev.now _)
 refine Ev.bind m1 (Ev.congr (fun k => if_pos rfl) (Ev.bind m2 ?_))
 exact Ev.step (f := _) (fun k => by rw [vernierlaw04_is.j0, show (!true) = false from rfl, if_neg (by decide), if_pos rfl, if_pos rfl]) (Ev.bind (dsame_ev hw hn we) (Ev.now _))
theorem is_range {s1 s2 : Bool} {l1 l2 : List Int} {e1 e2 : Int} (h1 : dmay l1 e1) (h2 : dmay l2 e2) (ws : Bool) (wl : List Int) (we : Int) : Ev (fun k => vernierlaw04_is.f k s1 l1 e1 s2 l2 e2 false [] 0 4 ws wl we false) true := by
 unfold vernierlaw04_is.f
 have m1 : Ev (fun _ => vernierlaw04_may.f s1 l1 e1) true := Ev.congr (fun _ => (may_some s1 l1 e1).trans (by rw [decide_eq_true h1])) (Ev.now _)
 have m2 : Ev (fun _ => vernierlaw04_may.f s2 l2 e2) true := Ev.congr (fun _ => (may_some s2 l2 e2).trans (by rw [decide_eq_true h2])) (Ev.now _)
 refine Ev.bind m1 (Ev.congr (fun k => if_pos rfl) (Ev.bind m2 ?_))
 exact Ev.step (f := _) (fun k => by rw [vernierlaw04_is.j0, show (!true) = false from rfl, if_neg (by decide), if_neg (by decide), if_pos rfl]) (Ev.bind dsame0_ev (Ev.now _))
theorem alive4_ev : Ev (fun k => vernierlaw04_alive.f k) true := by
 have e := dof_ev (a := 12) (e := 0) (by decide) (by decide) (by decide) (by decide)
 have hd : dt 12 0 = (false, [3], 2, 0) := by decide +kernel
 rw [hd] at e
 unfold vernierlaw04_alive.f
 exact Ev.bind e (Ev.congr (fun k => (if_pos rfl).trans ((if_pos rfl).trans ((if_pos (by decide)).trans (if_pos rfl)))) (Ev.now _))
theorem told_is {s : Bool} {w x : Int} {n m : Nat} (hw : Nm (dg 18446744073709551616 w) w n) (hn : n ≤ 4611686018427387904) (nd : Nd (dg 65536 w) w m) (hm : m ≤ 100000000) (hx : -9223372036854775808 ≤ x) (hx' : x ≤ 9223372036854775807) :
  ∃ (ws : Bool) (wl : List Int) (we : Int) (ok : Bool), Ev (fun k => vernierlaw04_told.f k s (dg 65536 w) x) (ws, wl, we, ok) ∧
   ∀ (s1 s2 : Bool) (l1 l2 : List Int) (e1 e2 : Int), dmay l1 e1 → dmay l2 e2 → Ev (fun k => vernierlaw04_is.f k s1 l1 e1 s2 l2 e2 (dt (sv s w) x).1 (dt (sv s w) x).2.1 (dt (sv s w) x).2.2.1 (dt (sv s w) x).2.2.2 ws wl we ok) true := by
 have h0 := hw.nonneg
 by_cases hz : w = 0
 ·
  refine ⟨_, _, _, _, by rw [hz]; exact rtold0_ev s x, ?_⟩
  intro s1 s2 l1 l2 e1 e2 h1 h2
  have hd : dt (sv s w) x = (false, [], 0, 0) := by
   rw [hz]
   unfold dt
   rw [if_pos (by cases s <;> rfl)]
  rw [hd]
  exact is_yes h1 h2 false (wv := 0) (n := 0) Nm.nil (by omega) 0
 ·
  obtain ⟨t, ht, ho⟩ := t2_odd (v := w) (by omega)
  have e := rtold_ev s nd hm ho ht x hx hx'
  obtain ⟨p1, p2, p3⟩ := sv_parts (s := s) (w := w) (by omega)
  have hod := od_eq ht ho
  have hov := od_val (v := w) (by omega)
  have hwo := hw.dg_le (w := od w) (by omega) hov.2.2
  have hd : dt (sv s w) x = dtold s (dg 18446744073709551616 (od w)) (wrap64 (x + t2 w)) := by
   unfold dt
   rw [if_neg p1, p2, p3]
  rw [← hod] at e
  refine ⟨_, _, _, _, e, ?_⟩
  intro s1 s2 l1 l2 e1 e2 h1 h2
  rw [hd]
  unfold dtold
  by_cases hmay : dmay (dg 18446744073709551616 (od w)) (wrap64 (x + t2 w))
  ·
   rw [if_pos hmay, decide_eq_true hmay]
   exact is_yes h1 h2 s hwo hn _
  ·
   rw [if_neg hmay, decide_eq_false hmay]
   exact is_range h1 h2 _ _ _
end Go.Proofs.YtjgdpjbkmcjbcaaDoor.PG
end
section
namespace Go.Proofs.YtjgdpjbkmcjbcaaDoor.Pure
open Go.RowKit Go.Proofs.YtjgdpjbkmcjbcaaDoor.PG Go.Proofs.YtjgdpjbkmcjbcaaDoorW.PrintWords Go.Proofs.YtjgdpjbkmcjbcaaDoorW.PrintLast Go.Proofs.YtjgdpjbkmcjbcaaDoorW.PrintMore Go.Proofs.YtjgdpjbkmcjbcaaDoor.Num Go.Proofs.YtjgdpjbkmcjbcaaDoor.Flt
set_option linter.unusedVariables false
theorem ev_one {α : Type} {g : Nat → Option α} {r s : α} (h : Ev g r) (h' : Ev g s) : r = s := by
 obtain ⟨K, hK⟩ := h
 obtain ⟨K', hK'⟩ := h'
 have a := hK (max K K') (Nat.le_max_left _ _)
 have b := hK' (max K K') (Nat.le_max_right _ _)
 exact Option.some.inj (a.symm.trans b)
theorem told_sgn {s : Bool} {w x : Int} {m : Nat} (nd : Nd (dg 65536 w) w m) (hm : m ≤ 100000) (hx : -9223372036854775808 ≤ x) (hx' : x ≤ 9223372036854775807) :
  ∃ (ws : Bool) (wl : List Int) (we : Int) (ok : Bool), Ev (fun k => vernierlaw04_told.f k s (dg 65536 w) x) (ws, wl, we, ok) ∧
   (∀ (s1 s2 : Bool) (l1 l2 : List Int) (e1 e2 : Int), dmay l1 e1 → dmay l2 e2 → Ev (fun k => vernierlaw04_is.f k s1 l1 e1 s2 l2 e2 (dt (sv s w) x).1 (dt (sv s w) x).2.1 (dt (sv s w) x).2.2.1 (dt (sv s w) x).2.2.2 ws wl we ok) true) ∧
   ((w = 0 ∧ wl = []) ∨ (0 < w ∧ 0 < wl.length ∧ ws = s)) := by
 have h0 := nd.nonneg
 have hl : w < 18446744073709551616 ^ m := Int.lt_of_lt_of_le nd.lt (by rw [← pow_DB]; exact pow_le D_pos (by omega))
 have hw : Nm (dg 18446744073709551616 w) w m := Nm.dg h0 hl
 obtain ⟨ws, wl, we, ok, et, hi⟩ := told_is (s := s) hw (by omega) nd (by omega) hx hx'
 refine ⟨ws, wl, we, ok, et, hi, ?_⟩
 by_cases hz : w = 0
 ·
  left
  have et' := et
  rw [hz] at et'
  have e := ev_one et' (rtold0_ev s x)
  exact ⟨hz, congrArg (fun p => p.2.1) e⟩
 ·
  right
  obtain ⟨t, ht, ho⟩ := t2_odd (v := w) (by omega)
  have e := ev_one et (rtold_ev s nd (by omega) ho ht x hx hx')
  have e1 : ws = s := congrArg (fun p => p.1) e
  have e2 : wl = dg 18446744073709551616 (2 * t + 1) := congrArg (fun p => p.2.1) e
  refine ⟨by omega, ?_, e1⟩
  rw [e2]
  refine List.length_pos_iff.2 (fun h => ?_)
  have := (dg_nil one_lt_B (show 0 ≤ 2 * t + 1 by omega)).1 h
  omega
theorem signed_is {s1 s2 : Bool} {V1 V2 x : Int} {n : Nat} (d1 : Nd (dg 65536 V1) V1 n) (d2 : Nd (dg 65536 V2) V2 n) (hn : n ≤ 90000) (hx : -9223372036854775808 ≤ x) (hx' : x ≤ 9223372036854775807) :
  ∃ (ws : Bool) (wl : List Int) (we : Int) (ok : Bool), Ev (fun k => vernierlaw04_signed.f k s1 (dg 65536 V1) s2 (dg 65536 V2) x) (ws, wl, we, ok) ∧
   (∀ (s1' s2' : Bool) (l1 l2 : List Int) (e1 e2 : Int), dmay l1 e1 → dmay l2 e2 → Ev (fun k => vernierlaw04_is.f k s1' l1 e1 s2' l2 e2 (dt (sv s1 V1 + sv s2 V2) x).1 (dt (sv s1 V1 + sv s2 V2) x).2.1 (dt (sv s1 V1 + sv s2 V2) x).2.2.1 (dt (sv s1 V1 + sv s2 V2) x).2.2.2 ws wl we ok) true) ∧
   ((sv s1 V1 + sv s2 V2 = 0 ∧ wl = []) ∨ (sv s1 V1 + sv s2 V2 ≠ 0 ∧ 0 < wl.length ∧ ws = decide (sv s1 V1 + sv s2 V2 < 0))) := by
 have g1 := d1.nonneg
 have g2 := d2.nonneg
 have fin : ∀ (s' : Bool) (w : Int) (m : Nat), Nd (dg 65536 w) w m → m ≤ 100000 → sv s1 V1 + sv s2 V2 = sv s' w →
   (∀ X, Ev (fun k => vernierlaw04_told.f k s' (dg 65536 w) x) X → Ev (fun k => vernierlaw04_signed.f k s1 (dg 65536 V1) s2 (dg 65536 V2) x) X) →
   ∃ (ws : Bool) (wl : List Int) (we : Int) (ok : Bool), Ev (fun k => vernierlaw04_signed.f k s1 (dg 65536 V1) s2 (dg 65536 V2) x) (ws, wl, we, ok) ∧
   (∀ (s1' s2' : Bool) (l1 l2 : List Int) (e1 e2 : Int), dmay l1 e1 → dmay l2 e2 → Ev (fun k => vernierlaw04_is.f k s1' l1 e1 s2' l2 e2 (dt (sv s1 V1 + sv s2 V2) x).1 (dt (sv s1 V1 + sv s2 V2) x).2.1 (dt (sv s1 V1 + sv s2 V2) x).2.2.1 (dt (sv s1 V1 + sv s2 V2) x).2.2.2 ws wl we ok) true) ∧
   ((sv s1 V1 + sv s2 V2 = 0 ∧ wl = []) ∨ (sv s1 V1 + sv s2 V2 ≠ 0 ∧ 0 < wl.length ∧ ws = decide (sv s1 V1 + sv s2 V2 < 0))) := by
  intro s' w m nd hm hz hs
  obtain ⟨ws, wl, we, ok, et, hi, ho⟩ := told_sgn (s := s') nd hm hx hx'
  rw [hz]
  refine ⟨ws, wl, we, ok, hs _ et, hi, ?_⟩
  rcases ho with ⟨h, hl⟩ | ⟨h, hl, hw⟩
  ·
   exact .inl ⟨by rw [h]; cases s' <;> rfl, hl⟩
  ·
   obtain ⟨p1, p2, _⟩ := sv_parts (s := s') (w := w) h
   exact .inr ⟨p1, hl, hw.trans p2.symm⟩
 by_cases c : s1 = s2
 ·
  subst c
  obtain ⟨e, nd⟩ := d1.add n d2 (Nat.le_refl _) (Nat.le_refl _) (by omega)
  refine fin s1 (V1 + V2) (n + 1) nd (by omega) (by cases s1 <;> simp [sv] <;> omega) (fun X hX => ?_)
  unfold vernierlaw04_signed.f
  exact Ev.congr (fun k => if_pos (by simp)) (Ev.bind e (Ev.bind hX (Ev.now _)))
 ·
  have ec := d1.cmp d2 (by omega) (by omega)
  have hne : ¬ (s1 == s2) = true := fun h => c (beq_iff_eq.1 h)
  obtain ⟨e, nd⟩ := d1.sub n d2 (Nat.le_refl _) (Nat.le_refl _) (by omega)
  by_cases l : sgn (V1 - V2) < 0
  ·
   have l' := sgn_neg_iff.1 l
   refine fin s2 _ n nd (by omega) ?_ (fun X hX => ?_)
   ·
    cases s1 <;> cases s2 <;> simp [sv] at c ⊢ <;> omega
   ·
    unfold vernierlaw04_signed.f
    exact Ev.congr (fun k => if_neg hne) (Ev.bind ec (Ev.congr (fun k => if_pos l) (Ev.bind e (Ev.bind hX (Ev.now _)))))
  ·
   have l' : ¬ V1 - V2 < 0 := fun h => l (sgn_neg_iff.2 h)
   refine fin s1 _ n nd (by omega) ?_ (fun X hX => ?_)
   ·
    cases s1 <;> cases s2 <;> simp [sv] at c ⊢ <;> omega
   ·
    unfold vernierlaw04_signed.f
    exact Ev.congr (fun k => if_neg hne) (Ev.bind ec (Ev.congr (fun k => if_neg l) (Ev.bind e (Ev.bind hX (Ev.now _)))))
theorem tells_no {s1 s2 : Bool} {l1 l2 : List Int} {e1 e2 : Int} : Ev (fun k => vernierlaw04_DyadicTells.j0 k 9 9 9 0 9 true s1 l1 e1 s2 l2 e2 false [] 0 false [] 0 false [] 0) true :=
 Ev.step (f := _) (fun k => by rw [vernierlaw04_DyadicTells.j0, if_pos rfl, if_pos rfl, if_pos rfl, if_pos rfl, if_pos rfl, if_pos rfl])
  (Ev.bind dsame0_ev (Ev.congr (fun k => if_pos rfl) (Ev.bind dsame0_ev (Ev.congr (fun k => if_pos rfl) (Ev.bind dsame0_ev (Ev.now _))))))
theorem tells_main {s1 s2 : Bool} {l1 l2 : List Int} {v1 v2 e1 e2 : Int} (h1 : Nm l1 v1 1024) (h2 : Nm l2 v2 1024) (a0 : -16384 ≤ e1) (a1 : e1 ≤ 16384) (b0 : -16384 ≤ e2) (b1 : e2 ≤ 16384) :
  Ev (fun k => vernierlaw04_DyadicTells.f k s1 l1 e1 s2 l2 e2) true := by
 have w1 : Wh s1 l1 (sv s1 v1) 1024 := Wh.of h1
 have w2 : Wh s2 l2 (sv s2 v2) 1024 := Wh.of h2
 have m1 : dmay l1 e1 := w1.may a0 a1
 have m2 : dmay l2 e2 := w2.may b0 b1
 have eA := dadd_ev w1 w2 a0 a1 b0 b1
 have eS := dsub_ev w1 w2 a0 a1 b0 b1
 have eM := dmul_ev w1 w2 a0 a1 b0 b1
 have eC := dcmp_ev w1 w2 a0 a1 b0 b1
 obtain ⟨r1, d1⟩ := h1.of (by omega)
 obtain ⟨r2, d2⟩ := h2.of (by omega)
 have hm := mn_le' e1 e2
 obtain ⟨j1, hj1⟩ : ∃ k : Nat, e1 - mn e1 e2 = k := ⟨(e1 - mn e1 e2).toNat, by omega⟩
 obtain ⟨j2, hj2⟩ : ∃ k : Nat, e2 - mn e1 e2 = k := ⟨(e2 - mn e1 e2).toNat, by omega⟩
 obtain ⟨x1, y1⟩ := d1.shl j1 (by omega) (by omega)
 obtain ⟨x2, y2⟩ := d2.shl j2 (by omega) (by omega)
 obtain ⟨xp, yp⟩ := d1.mul d2 (by omega)
 rw [hj1, hj2, up2_nat, up2_nat, sv_mul, sv_mul, Int.mul_comm v1, Int.mul_comm v2] at eA eS eC
 have z1 := y1.mono (m := 10000) (by omega)
 have z2 := y2.mono (m := 10000) (by omega)
 generalize 2 ^ j1 * v1 = V1 at *
 generalize 2 ^ j2 * v2 = V2 at *
 generalize hxm : mn e1 e2 = xm at *
 obtain ⟨ys, yl, ye, yo, gA, iA, _⟩ := signed_is (s1 := s1) (s2 := s2) (x := xm) z1 z2 (by omega) (by omega) (by omega)
 obtain ⟨ss, sl, se, so, gS, iS, oS⟩ := signed_is (s1 := s1) (s2 := !s2) (x := xm) z1 z2 (by omega) (by omega) (by omega)
 obtain ⟨ps, pl, pe, po, gP, iP, _⟩ := told_sgn (s := s1 != s2) (x := e1 + e2) yp (by omega) (by omega) (by omega)
 have hneg : sv (!s2) V2 = -sv s2 V2 := by cases s2 <;> simp [sv]
 rw [hneg, ← Int.sub_eq_add_neg] at iS oS
 have hprod : sv (s1 != s2) (v1 * v2) = sv s1 v1 * sv s2 v2 := by cases s1 <;> cases s2 <;> simp [sv, Int.mul_neg, Int.neg_mul]
 rw [hprod] at iP
 have fA := iA s1 s2 l1 l2 e1 e2 m1 m2
 have fS := iS s1 s2 l1 l2 e1 e2 m1 m2
 have fP := iP s1 s2 l1 l2 e1 e2 m1 m2
 generalize dt (sv s1 V1 + sv s2 V2) xm = A at *
 generalize dt (sv s1 V1 - sv s2 V2) xm = S at *
 generalize dt (sv s1 v1 * sv s2 v2) (e1 + e2) = P at *
 generalize hD : sv s1 V1 - sv s2 V2 = D at *
 have last : ∀ big : Bool, Ev (fun k => vernierlaw04_DyadicTells.j1 k A.2.2.2 S.2.2.2 P.2.2.2 (sgn D) 0 xm (dg 65536 V1) (dg 65536 V2) big s1 l1 e1 s2 l2 e2 A.1 A.2.1 A.2.2.1 S.1 S.2.1 S.2.2.1 P.1 P.2.1 P.2.2.1) true := by
  intro big
  cases big
  ·
   refine Ev.step (f := _) (fun k => by rw [vernierlaw04_DyadicTells.j1, if_neg (by decide), w64 (x := e1 + e2) (by omega) (by omega)]) ?_
   refine Ev.bind gA (Ev.bind gS (Ev.bind r1 (Ev.bind r2 (Ev.bind xp (Ev.bind gP ?_)))))
   rcases oS with ⟨o1, o2⟩ | ⟨o1, o2, o3⟩
   ·
    have hs : sgn D = 0 := sgn_zero_iff.2 o1
    rw [hs]
    refine Ev.congr (fun k => if_neg (by rw [o2]; exact (show ¬ ((([] : List Int).length : Int) > 0) by decide))) ?_
    exact Ev.bind fA (Ev.congr (fun k => if_pos rfl) (Ev.bind fS (Ev.congr (fun k => if_pos rfl) (Ev.bind fP (Ev.congr (fun k => (if_pos rfl).trans (if_pos rfl)) (Ev.now _))))))
   ·
    refine Ev.congr (fun k => if_pos (by show (0 : Int) < (sl.length : Int); omega)) ?_
    by_cases c : D < 0
    ·
     have hs : sgn D = -1 := by unfold sgn; rw [if_pos c]
     rw [hs]
     refine Ev.congr (fun k => if_pos (by rw [o3]; exact decide_eq_true c)) ?_
     exact Ev.bind fA (Ev.congr (fun k => if_pos rfl) (Ev.bind fS (Ev.congr (fun k => if_pos rfl) (Ev.bind fP (Ev.congr (fun k => (if_pos rfl).trans (if_pos rfl)) (Ev.now _))))))
    ·
     have hs : sgn D = 1 := by unfold sgn; rw [if_neg c, if_neg o1]
     rw [hs]
     refine Ev.congr (fun k => if_neg (by rw [o3, decide_eq_false c]; exact Bool.false_ne_true)) ?_
     exact Ev.bind fA (Ev.congr (fun k => if_pos rfl) (Ev.bind fS (Ev.congr (fun k => if_pos rfl) (Ev.bind fP (Ev.congr (fun k => (if_pos rfl).trans (if_pos rfl)) (Ev.now _))))))
  ·
   exact Ev.step (f := _) (fun k => by rw [vernierlaw04_DyadicTells.j1, if_pos rfl]) (Ev.now _)
 have may1 : Ev (fun _ => vernierlaw04_may.f s1 l1 e1) true := Ev.congr (fun _ => (may_some s1 l1 e1).trans (by rw [decide_eq_true m1])) (Ev.now _)
 have may2 : Ev (fun _ => vernierlaw04_may.f s2 l2 e2) true := Ev.congr (fun _ => (may_some s2 l2 e2).trans (by rw [decide_eq_true m2])) (Ev.now _)
 unfold vernierlaw04_DyadicTells.f
 refine Ev.bind alive4_ev (Ev.congr (fun k => if_pos rfl) ?_)
 refine Ev.bind eA (Ev.bind eS (Ev.bind eM (Ev.bind eC (Ev.bind may1 (Ev.congr (fun k => if_pos rfl) (Ev.bind may2 ?_))))))
 refine Ev.step (f := _) (fun k => by rw [vernierlaw04_DyadicTells.j0, show (!true) = false from rfl, if_neg (by decide), hxm, w64 (x := e1 - xm) (by omega) (by omega), w64 (x := e2 - xm) (by omega) (by omega), hj1, hj2]) ?_
 refine Ev.bind r1 (Ev.bind x1 (Ev.bind r2 (Ev.bind x2 ?_)))
 by_cases c : ((dg 65536 V1).length : Int) > 3000
 ·
  exact Ev.congr (fun k => if_pos c) (last true)
 ·
  exact Ev.congr (fun k => if_neg c) (last _)
theorem DyadicTells (a0_0 : Bool) (l0_1 : List Int) (a0_2 : Int) (a1_0 : Bool) (l1_1 : List Int) (a1_2 : Int)
  (y0_1 : l0_1.length * 8 ≤ 140737488351232) (w0_1 : ∀ n ∈ l0_1, (Lit.int .u64 n).wf = true) (w0_2 : (Lit.int .i64 a0_2).wf = true)
  (y1_1 : l1_1.length * 8 ≤ 140737488351232) (w1_1 : ∀ n ∈ l1_1, (Lit.int .u64 n).wf = true) (w1_2 : (Lit.int .i64 a1_2).wf = true) :
  ∃ k, vernierlaw04_DyadicTells.f k a0_0 l0_1 a0_2 a1_0 l1_1 a1_2 = some true := by
 refine Ev.rounds ?_
 by_cases h : dmay l0_1 a0_2 ∧ dmay l1_1 a1_2
 ·
  obtain ⟨h1, h2⟩ := h
  exact tells_main (Nm.of_wf w0_1 h1.2.2) (Nm.of_wf w1_1 h2.2.2) h1.1 h1.2.1 h2.1 h2.2.1
 ·
  unfold vernierlaw04_DyadicTells.f
  refine Ev.bind alive4_ev (Ev.congr (fun k => if_pos rfl) ?_)
  refine Ev.bind (dadd_no h) (Ev.bind (dsub_no h) (Ev.bind (dmul_no h) (Ev.bind (dcmp_no h) ?_)))
  by_cases h1 : dmay l0_1 a0_2
  ·
   have h2 : ¬ dmay l1_1 a1_2 := fun g => h ⟨h1, g⟩
   refine Ev.bind (g := fun _ => vernierlaw04_may.f a0_0 l0_1 a0_2) (a := true) (Ev.congr (fun _ => (may_some a0_0 l0_1 a0_2).trans (by rw [decide_eq_true h1])) (Ev.now _)) (Ev.congr (fun k => if_pos rfl) ?_)
   exact Ev.bind (g := fun _ => vernierlaw04_may.f a1_0 l1_1 a1_2) (a := false) (Ev.congr (fun _ => (may_some a1_0 l1_1 a1_2).trans (by rw [decide_eq_false h2])) (Ev.now _)) tells_no
  ·
   refine Ev.bind (g := fun _ => vernierlaw04_may.f a0_0 l0_1 a0_2) (a := false) (Ev.congr (fun _ => (may_some a0_0 l0_1 a0_2).trans (by rw [decide_eq_false h1])) (Ev.now _)) (Ev.congr (fun k => if_neg (by decide)) tells_no)
end Go.Proofs.YtjgdpjbkmcjbcaaDoor.Pure
end
