/- Parts of a proof. -/
import Derived.Test.YtkjhjlnjkohlbaaZRatioOf50
section
namespace Go.Proofs.Ytkjhjlnjkohlbaa.PR
open Go.RowKit Go.Proofs.YtkjhjlnjkohlbaaW.PrintWords Go.Proofs.YtkjhjlnjkohlbaaW.PrintLast Go.Proofs.YtkjhjlnjkohlbaaW.PrintMore Go.Proofs.Ytkjhjlnjkohlbaa.Num
set_option linter.unusedVariables false
set_option linter.unusedSimpArgs false
def fit (a b : List Int) : Bool := decide (a.length ≤ 6) && decide (b.length ≤ 6)
theorem few_step (xs : List S28) (i : Nat) (hi : i < xs.length) (hx : xs.length < 100) {r : Bool} (h : fit (rd_T28 xs i).f0.f1 (rd_T28 xs i).f1 = true → Ev (fun k => vernierlaw05_few.l0 k xs (((i + 1 : Nat)) : Int)) r) :
  Ev (fun k => vernierlaw05_few.l0 k xs (i : Int)) (fit (rd_T28 xs i).f0.f1 (rd_T28 xs i).f1 && r) := by
 have hw : wrap64 ((i : Int) + 1) = ((i + 1 : Nat) : Int) := (w64 (by omega) (by omega)).trans (by omega)
 refine Ev.step (f := fun k => if (((rd_T28 xs i).f0.f1).length : Int) > 6 then (some false) else (if (((rd_T28 xs i).f1).length : Int) > 6 then (some false) else (vernierlaw05_few.l0 k xs (wrap64 ((i : Int) + 1))))) (fun k => ?_) ?_
 ·
  rw [vernierlaw05_few.l0, if_pos (by omega), if_pos (by omega)]
 rw [hw]
 unfold fit at h ⊢
 by_cases h1 : (rd_T28 xs i).f0.f1.length ≤ 6
 ·
  rw [decide_eq_true h1] at h ⊢
  refine Ev.congr (fun k => if_neg (by omega)) ?_
  by_cases h2 : (rd_T28 xs i).f1.length ≤ 6
  ·
   rw [decide_eq_true h2] at h ⊢
   exact Ev.congr (fun k => if_neg (by omega)) (h rfl)
  ·
   rw [decide_eq_false h2]
   exact Ev.congr (fun k => if_pos (by omega)) (Ev.now _)
 ·
  rw [decide_eq_false h1]
  exact Ev.congr (fun k => if_pos (by omega)) (Ev.now _)
theorem few_end (xs : List S28) (i : Nat) (hi : xs.length ≤ i) : Ev (fun k => vernierlaw05_few.l0 k xs (i : Int)) true := by
 refine Ev.step (f := fun _ => some true) (fun k => ?_) (Ev.now _)
 rw [vernierlaw05_few.l0, if_neg (by omega)]
theorem few1_ev (x : S28) : Ev (fun k => vernierlaw05_few.f k [x]) (fit x.f0.f1 x.f1) := by
 have h := few_step [x] 0 (by simp) (by simp) (r := true) (fun _ => few_end _ 1 (by simp))
 rw [Bool.and_true] at h
 exact h
structure Rt (s : Bool) (a d : List Int) (x w : Int) (n m : Nat) : Prop where
 num : Wh s a x n
 den : Nm d w m
 pos : 0 < w
theorem chk_ev {s t : Bool} {a d b e : List Int} {w v : Int} {m p : Nat} (g : Nm d w m) (h : Nm e v p) (hw : 0 < w) (hv : 0 < v) (hm : m ≤ 35184372088832) (hp : p ≤ 35184372088832) : Ev (fun k => ratio_checked.f k s a d t b e) 0 := by
 unfold ratio_checked.f
 exact Ev.bind (rcheck_ev g hw hm) (Ev.congr (fun k => if_pos rfl) (rcheck_ev h hv hp))
theorem times_ev {s : Bool} {a e : List Int} {x v : Int} {n p : Nat} (h : Wh s a x n) (g : Nm e v p) (hp : n + p ≤ 17592186044416) : Ev (fun k => ratio_times.f k s a e) (wz (x * v)) ∧ Wh (wz (x * v)).1 (wz (x * v)).2 (x * v) (n + p) := by
 have wd : Wh false e v p := by have := Wh.of (s := false) g; simpa [sv] using this
 obtain ⟨e1, n1⟩ := h.mul wd hp
 unfold ratio_times.f
 exact ⟨Ev.bind e1 (Ev.now _), n1⟩
theorem mul_pos2 {a b : Int} (h : 0 < a) (g : 0 < b) : 0 < a * b := Int.mul_pos h g
variable {s t : Bool} {a d b e : List Int} {x w y v : Int} {n m q p : Nat}
theorem Rt.add (h : Rt s a d x w n m) (g : Rt t b e y v q p) (hs : n + m + q + p ≤ 1000000) :
  Ev (fun k => ratio_Add.f k s a d t b e) ((rz (x * v + y * w) (w * v)).1, (rz (x * v + y * w) (w * v)).2.1, (rz (x * v + y * w) (w * v)).2.2, 0) := by
 obtain ⟨e1, n1⟩ := times_ev h.num g.den (by omega)
 obtain ⟨e2, n2⟩ := times_ev g.num h.den (by omega)
 obtain ⟨e3, n3⟩ := n1.add (n + m + q + p) n2 (by omega) (by omega) (by omega)
 obtain ⟨e4, n4⟩ := h.den.mul g.den (by omega)
 have e5 := told_ev n3 n4 (mul_pos2 h.pos g.pos) (by omega) (by omega)
 unfold ratio_Add.f
 exact Ev.bind (chk_ev h.den g.den h.pos g.pos (by omega) (by omega)) (Ev.congr (fun k => if_pos rfl) (Ev.bind e1 (Ev.bind e2 (Ev.bind e3 (Ev.bind e4 (Ev.bind e5 (Ev.now _)))))))
theorem Rt.mul (h : Rt s a d x w n m) (g : Rt t b e y v q p) (hs : n + m + q + p ≤ 1000000) :
  Ev (fun k => ratio_Mul.f k s a d t b e) ((rz (x * y) (w * v)).1, (rz (x * y) (w * v)).2.1, (rz (x * y) (w * v)).2.2, 0) := by
 obtain ⟨e1, n1⟩ := h.num.mul g.num (by omega)
 obtain ⟨e4, n4⟩ := h.den.mul g.den (by omega)
 have e5 := told_ev n1 n4 (mul_pos2 h.pos g.pos) (by omega) (by omega)
 unfold ratio_Mul.f
 exact Ev.bind (chk_ev h.den g.den h.pos g.pos (by omega) (by omega)) (Ev.congr (fun k => if_pos rfl) (Ev.bind e1 (Ev.bind e4 (Ev.bind e5 (Ev.now _)))))
theorem zero5_ev : Ev (fun _ => vernierlaw05_zero.f false [] []) true := by
 have e : wrap64 ((([] : List Int).length : Int) + (([] : List Int).length : Int)) = 0 := (w64 (by decide) (by decide)).trans rfl
 refine Ev.congr (fun _ => ?_) (Ev.now _)
 unfold vernierlaw05_zero.f
 rw [if_pos e]
 rfl
end Go.Proofs.Ytkjhjlnjkohlbaa.PR
end
section
namespace Go.Proofs.Ytkjhjlnjkohlbaa.Pure
open Go.RowKit Go.Proofs.Ytkjhjlnjkohlbaa.PR Go.Proofs.YtkjhjlnjkohlbaaW.PrintWords Go.Proofs.YtkjhjlnjkohlbaaW.PrintLast Go.Proofs.YtkjhjlnjkohlbaaW.PrintMore Go.Proofs.Ytkjhjlnjkohlbaa.Num
set_option linter.unusedVariables false
theorem of_tail {s : Bool} {a d : List Int} {n m : Nat} (ha : Nm a (V 18446744073709551616 a) n) (hd : Nm d (V 18446744073709551616 d) m) (hn : n ≤ 6) (hm : m ≤ 6) (x : Bool × List Int × List Int × Int)
  (hx : Ev (fun k => ratio_Norm.f k s a d) x) (hx0 : V 18446744073709551616 d = 0 → x = (false, [], [], 9)) (hx1 : 0 < V 18446744073709551616 d → x = ((rz (sv s (V 18446744073709551616 a)) (V 18446744073709551616 d)).1, (rz (sv s (V 18446744073709551616 a)) (V 18446744073709551616 d)).2.1, (rz (sv s (V 18446744073709551616 a)) (V 18446744073709551616 d)).2.2, 0)) :
  Ev (fun k => vernierlaw05_RatioOf.j1 k x.2.2.2 (!true) s a d x.1 x.2.1 x.2.2.1) true := by
 apply Ev.step
 ·
  intro k
  rw [vernierlaw05_RatioOf.j1, if_neg (by decide)]
 refine Ev.bind (hd.bits (by omega)) ?_
 have h0 := hd.nonneg
 by_cases hz : V 18446744073709551616 d = 0
 ·
  rw [hx0 hz]
  rw [hz] at hd ⊢
  refine Ev.congr (fun k => (if_pos bitsOf_zero).trans (if_pos rfl)) (Ev.bind (rcheck0_ev hd (by omega)) (Ev.congr (fun k => if_pos rfl) (Ev.bind zero5_ev (Ev.now _))))
 ·
  have hp : 0 < V 18446744073709551616 d := by omega
  have hb := bitsOf_pos hp
  rw [hx1 hp]
  have hw := Wh.of (s := s) ha
  refine Ev.congr (fun k => (if_neg (by omega)).trans (if_pos rfl)) (Ev.bind (rcheck_ev hd hp (by omega)) (Ev.congr (fun k => if_pos rfl) (Ev.bind ?_ (Ev.now _))))
  exact is_rz hp hw.lt (hd.norm (by omega)).2 hw hd rfl (by omega) (by omega) (by omega) (by omega)
theorem RatioOf (a0_0 : Bool) (l0_1 : List Int) (a0_2 : Int) (a1_0 : Bool) (l1_1 : List Int) (l1_2 : List Int) (y0 : l0_1.length * 8 ≤ 140737488351232) (w0 : ∀ n ∈ l0_1, (Lit.int .u64 n).wf = true) (w1 : (Lit.int .i64 a0_2).wf = true) (y2 : l1_1.length * 8 ≤ 140737488351232) (w2 : ∀ n ∈ l1_1, (Lit.int .u64 n).wf = true) (y3 : l1_2.length * 8 ≤ 140737488351232) (w3 : ∀ n ∈ l1_2, (Lit.int .u64 n).wf = true) : ∃ k, vernierlaw05_RatioOf.f k a0_0 l0_1 a0_2 a1_0 l1_1 l1_2 = some true := by
 refine Ev.rounds ?_
 unfold vernierlaw05_RatioOf.f
 refine Ev.bind alive5_ev (Ev.congr (fun k => if_pos rfl) ?_)
 have out : Ev (fun k => vernierlaw05_RatioOf.j0 k true a0_0 l0_1 a0_2 a1_0 l1_1 l1_2) true := by
  refine Ev.step (f := fun _ => some true) (fun k => ?_) (Ev.now _)
  rw [vernierlaw05_RatioOf.j0, if_pos rfl]
 by_cases hl : l0_1.length > 6
 ·
  exact Ev.congr (fun k => if_pos (by omega)) out
 refine Ev.congr (fun k => if_neg (by omega)) (Ev.bind (few1_ev _) ?_)
 show Ev (fun k => vernierlaw05_RatioOf.j0 k (!fit l1_1 l1_2) a0_0 l0_1 a0_2 a1_0 l1_1 l1_2) true
 by_cases hf : fit l1_1 l1_2 = true
 case neg =>
  rw [Bool.not_eq_true] at hf
  rw [hf]
  exact out
 rw [hf]
 unfold fit at hf
 rw [Bool.and_eq_true, decide_eq_true_eq, decide_eq_true_eq] at hf
 have n0 := Nm.of_wf (n := 6) w0 (by omega)
 have n1 := Nm.of_wf (n := 6) w2 hf.1
 have n2 := Nm.of_wf (n := 6) w3 hf.2
 clear out
 have t0 : -400 < Int.tmod a0_2 400 := Int.lt_tmod_of_pos a0_2 (by decide)
 have t1 : Int.tmod a0_2 400 < 400 := Int.tmod_lt_of_pos a0_2 (by decide)
 apply Ev.step
 ·
  intro k
  rw [vernierlaw05_RatioOf.j0, if_neg (by decide)]
 generalize Int.tmod a0_2 400 = e at t0 t1
 obtain ⟨p, hp⟩ := Int.eq_ofNat_of_zero_le (show 0 ≤ mx e 0 by unfold mx; split <;> omega)
 obtain ⟨q, hq⟩ := Int.eq_ofNat_of_zero_le (show 0 ≤ mx (-e) 0 by unfold mx; split <;> omega)
 have hp' : p ≤ 400 := by unfold mx at hp; split at hp <;> omega
 have hq' : q ≤ 400 := by unfold mx at hq; split at hq <;> omega
 have h1 := rof_ev (s := a0_0) n0 (by omega) e (by omega) (by omega)
 rw [hp, hq, Int.toNat_natCast, Int.toNat_natCast] at h1
 rw [w64 (x := -e) (by omega) (by omega), hp, hq]
 obtain ⟨e2, m2⟩ := n0.Shl p (by omega) (by omega)
 obtain ⟨e3, m3⟩ := (Nm.one (x := 1) (n := 1) (by decide) (by decide) (by decide)).Shl q (by omega) (by omega)
 rw [Int.mul_one] at e3 m3
 have hx : ∃ x, Ev (fun k => ratio_Norm.f k a1_0 l1_1 l1_2) x ∧ (V 18446744073709551616 l1_2 = 0 → x = (false, [], [], 9)) ∧ (0 < V 18446744073709551616 l1_2 → x = ((rz (sv a1_0 (V 18446744073709551616 l1_1)) (V 18446744073709551616 l1_2)).1, (rz (sv a1_0 (V 18446744073709551616 l1_1)) (V 18446744073709551616 l1_2)).2.1, (rz (sv a1_0 (V 18446744073709551616 l1_1)) (V 18446744073709551616 l1_2)).2.2, 0)) := by
  have h0 := n2.nonneg
  by_cases hz : V 18446744073709551616 l1_2 = 0
  ·
   refine ⟨_, rnorm0_ev (hz ▸ n2) (by omega), fun _ => rfl, fun h => absurd h (by omega)⟩
  ·
   exact ⟨_, rnorm_ev (Wh.of n1) n2 (by omega) (by omega) (by omega), fun h => absurd h hz, fun _ => rfl⟩
 obtain ⟨x, hx, hx0, hx1⟩ := hx
 have ht := of_tail (s := a1_0) n1 n2 (by omega) (by omega) x hx hx0 hx1
 have hW := Wh.of (s := a0_0) m2
 have hi := is_rz (two_pow_pos q) hW.lt m3 hW m3 rfl (by omega) (by omega) (by omega) (by omega)
 refine Ev.bind h1 (Ev.bind hx (Ev.bind e2 (Ev.bind e3 (Ev.congr (fun k => if_pos rfl) (Ev.bind hi ?_)))))
 exact ht
end Go.Proofs.Ytkjhjlnjkohlbaa.Pure
end
