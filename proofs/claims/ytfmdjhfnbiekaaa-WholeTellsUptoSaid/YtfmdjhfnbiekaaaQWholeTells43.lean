/- Sums, differences, products and which one is greater of whole numbers are as of what is above 0 and what is below: for all numbers of at most 1048576 words. -/
import Derived.Test.YtfmdjhfnbiekaaaQWholeTells33
import Derived.Test.YtfmdjhfnbiekaaaQWholeTells34
import Derived.Test.YtfmdjhfnbiekaaaQWholeTells35
import Derived.Test.YtfmdjhfnbiekaaaQWholeTells36
import Derived.Test.YtfmdjhfnbiekaaaQWholeTells37
import Derived.Test.YtfmdjhfnbiekaaaQWholeTells38
import Derived.Test.YtfmdjhfnbiekaaaQWholeTells39
import Derived.Test.YtfmdjhfnbiekaaaQWholeTells40
import Derived.Test.YtfmdjhfnbiekaaaQWholeTells41
import Derived.Test.YtfmdjhfnbiekaaaQWholeTells42
namespace Go.Proofs.Ytfmdjhfnbiekaaa.Pure
open Go.RowKit Go.Proofs.Ytfmdjhfnbiekaaa.PW Go.Proofs.YtfmdjhfnbiekaaaW.PrintWords Go.Proofs.YtfmdjhfnbiekaaaW.PrintLast Go.Proofs.YtfmdjhfnbiekaaaW.PrintMore Go.Proofs.Ytfmdjhfnbiekaaa.Num
set_option linter.unusedVariables false
theorem parts_ev {s : Bool} {l : List Int} {v : Int} {n : Nat} (h : Nm l v n) (hn : n ≤ 4398046511103) :
    ∃ P Q, Ev (fun k => vernierlaw03_parts.f k s l) (dg 65536 P, dg 65536 Q) ∧ Nd (dg 65536 P) P (4 * n) ∧ Nd (dg 65536 Q) Q (4 * n) ∧ sv s v = P - Q := by
  obtain ⟨e, d⟩ := h.of hn
  cases s with
  | true =>
    refine ⟨0, v, ?_, Nd.nil, d, by simp [sv]⟩
    unfold vernierlaw03_parts.f
    exact Ev.congr (fun k => if_pos rfl) (Ev.bind e (Ev.now _))
  | false =>
    refine ⟨v, 0, ?_, d, Nd.nil, by simp [sv]⟩
    unfold vernierlaw03_parts.f
    exact Ev.congr (fun k => if_neg (by decide)) (Ev.bind e (Ev.now _))
theorem sgn_lt0 (x : Int) : decide (sgn x < 0) = decide (x < 0) := by
  have := sgn_neg_iff (x := x)
  by_cases h : x < 0
  · rw [decide_eq_true h, decide_eq_true (this.2 h)]
  · rw [decide_eq_false h, decide_eq_false (fun e => h (this.1 e))]
theorem made_ev {p q : List Int} {P Q : Int} {n m : Nat} (c : Nat) (h : Nd p P n) (g : Nd q Q m) (hn : n ≤ c) (hm : m ≤ c) (hc : c ≤ 100000000) : Ev (fun k => vernierlaw03_made.f k p q) (wz (P - Q)) := by
  have e1 := h.cmp g (by omega) (by omega)
  obtain ⟨e2, n2⟩ := h.sub c g hn hm (by omega)
  unfold vernierlaw03_made.f
  refine Ev.bind e1 (Ev.bind e2 (Ev.bind (n2.limbs (by omega)) ?_))
  unfold wz
  exact Ev.congr (fun k => by rw [sgn_lt0 (P - Q)]) (Ev.now _)
theorem whole_rest {a2 u : Int} {s t : Bool} {l0 l1 : List Int} {x y P Q C : Int} (h0 : Wh s l0 x 1048576) (h1 : Wh t l1 y 1048576) (hP : Nd (dg 65536 P) P 4194304) (hQ : Nd (dg 65536 Q) Q 4194304) (hx : x = P - Q) (hC : C = sgn (x - y))
    (ha : -9223372036854775808 ≤ a2) (ha' : a2 ≤ 9223372036854775807) (hu : u = (a2.natAbs : Int)) :
    Ev (fun k => vernierlaw03_WholeTells.j0 k a2 (dg 65536 P) (dg 65536 Q) C u s l0 t l1 (wz (x + y)).1 (wz (x + y)).2 (wz (x - y)).1 (wz (x - y)).2 (wz (x * y)).1 (wz (x * y)).2) true := by
  obtain ⟨e1, m1⟩ := h0.add 1048576 h1 (by omega) (by omega) (by omega)
  obtain ⟨e2, m2⟩ := h0.sub 1048576 h1 (by omega) (by omega) (by omega)
  obtain ⟨e3, m3⟩ := h0.mul h1 (by omega)
  have e4 := h0.cmp 1048576 h1 (by omega) (by omega) (by omega)
  have e5 := h0.sign (by omega)
  have e6 := hP.cmp hQ (by omega) (by omega)
  obtain ⟨e7, m7⟩ := h0.norm (by omega)
  have e8 := made_ev 4194304 hP hQ (by omega) (by omega) (by omega)
  obtain ⟨e9, m9⟩ := h0.neg (by omega)
  have e10 := made_ev 4194304 hQ hP (by omega) (by omega) (by omega)
  obtain ⟨e11, m11⟩ := wof_ev ha ha'
  have nu : Nm [u] u 1 := Nm.one (by omega) (by omega) (by omega)
  obtain ⟨ew, dw⟩ := nu.of (by omega)
  have hw : Ev (fun k => vernierref01_Word.f k u) (dg 65536 u) := by
    unfold vernierref01_Word.f
    exact Ev.bind ew (Ev.now _)
  have elim := dw.limbs (by omega)
  subst hC
  refine Ev.step (f := _) (fun k => by rw [vernierlaw03_WholeTells.j0]) ?_
  refine Ev.bind hw (Ev.bind elim ?_)
  refine Ev.bind e1 (Ev.bind (m1.same rfl (by omega)) (Ev.congr (fun k => if_pos rfl) ?_))
  refine Ev.bind e2 (Ev.bind (m2.same rfl (by omega)) (Ev.congr (fun k => if_pos rfl) ?_))
  refine Ev.bind e3 (Ev.bind (m3.same rfl (by omega)) (Ev.congr (fun k => if_pos rfl) ?_))
  refine Ev.bind e4 (Ev.congr (fun k => if_pos rfl) ?_)
  refine Ev.bind e5 (Ev.bind e6 (Ev.congr (fun k => if_pos (by rw [hx])) ?_))
  refine Ev.bind e7 (Ev.bind e8 (Ev.bind (m7.same hx (by omega)) (Ev.congr (fun k => if_pos rfl) ?_)))
  refine Ev.bind e9 (Ev.bind e10 (Ev.bind (m9.same (show -x = Q - P by omega) (by omega)) (Ev.congr (fun k => if_pos rfl) ?_)))
  have hsame := m11.same (y := a2) rfl (by omega)
  have hz : wz a2 = (decide (a2 < 0), dg 18446744073709551616 u) := by rw [hu]; rfl
  refine Ev.bind e11 ?_
  refine Ev.bind (a := true) ?_ (Ev.congr (fun k => if_pos rfl) (Ev.bind alive3_ev (Ev.now _)))
  rw [hz] at hsame ⊢
  exact hsame
theorem WholeTells (a0_0 : Bool) (l0_1 : List Int) (a1_0 : Bool) (l1_1 : List Int) (a2 : Int) (y0 : l0_1.length ≤ 1048576) (w0 : ∀ n ∈ l0_1, (Lit.int .u64 n).wf = true) (y1 : l1_1.length ≤ 1048576) (w1 : ∀ n ∈ l1_1, (Lit.int .u64 n).wf = true)
    (w2 : (Lit.int .i64 a2).wf = true) : ∃ k, vernierlaw03_WholeTells.f k a0_0 l0_1 a1_0 l1_1 a2 = some true := by
  have hi : -9223372036854775808 ≤ a2 ∧ a2 ≤ 9223372036854775807 := by
    simp [Lit.wf, IntKind.min, IntKind.max, IntKind.signed, IntKind.bits] at w2
    omega
  have v0 := Nm.of_wf (n := 1048576) w0 y0
  have v1 := Nm.of_wf (n := 1048576) w1 y1
  have n0 := Wh.of (s := a0_0) v0
  have n1 := Wh.of (s := a1_0) v1
  obtain ⟨P, Q, e0, hP, hQ, hx⟩ := parts_ev (s := a0_0) v0 (by omega)
  obtain ⟨R, S, e1, hR, hS, hy⟩ := parts_ev (s := a1_0) v1 (by omega)
  generalize sv a0_0 (V 18446744073709551616 l0_1) = x at n0 hx
  generalize sv a1_0 (V 18446744073709551616 l1_1) = y at n1 hy
  refine Ev.rounds ?_
  unfold vernierlaw03_WholeTells.f
  refine Ev.bind e0 (Ev.bind e1 ?_)
  obtain ⟨a1, b1⟩ := hP.add 4194304 hR (by omega) (by omega) (by omega)
  obtain ⟨a2', b2⟩ := hQ.add 4194304 hS (by omega) (by omega) (by omega)
  have c1 := made_ev 4194305 b1 b2 (by omega) (by omega) (by omega)
  rw [show P + R - (Q + S) = x + y by omega] at c1
  obtain ⟨a3, b3⟩ := hP.add 4194304 hS (by omega) (by omega) (by omega)
  obtain ⟨a4, b4⟩ := hQ.add 4194304 hR (by omega) (by omega) (by omega)
  have c2 := made_ev 4194305 b3 b4 (by omega) (by omega) (by omega)
  rw [show P + S - (Q + R) = x - y by omega] at c2
  obtain ⟨a5, b5⟩ := hP.mul hR (by omega)
  obtain ⟨a6, b6⟩ := hQ.mul hS (by omega)
  obtain ⟨a7, b7⟩ := b5.add 8388608 b6 (by omega) (by omega) (by omega)
  obtain ⟨a8, b8⟩ := hP.mul hS (by omega)
  obtain ⟨a9, b9⟩ := hQ.mul hR (by omega)
  obtain ⟨a10, b10⟩ := b8.add 8388608 b9 (by omega) (by omega) (by omega)
  have c3 := made_ev 8388609 b7 b10 (by omega) (by omega) (by omega)
  have hprod : P * R + Q * S - (P * S + Q * R) = x * y := by rw [hx, hy]; grind
  rw [hprod] at c3
  have c4 := b3.cmp b4 (by omega) (by omega)
  rw [show P + S - (Q + R) = x - y by omega] at c4
  refine Ev.bind a1 (Ev.bind a2' (Ev.bind c1 (Ev.bind a3 (Ev.bind a4 (Ev.bind c2 (Ev.bind a5 (Ev.bind a6 (Ev.bind a7 ?_))))))))
  refine Ev.bind a8 (Ev.bind a9 (Ev.bind a10 (Ev.bind c3 (Ev.bind a3 (Ev.bind a4 (Ev.bind c4 ?_))))))
  by_cases hneg : a2 < 0
  · refine Ev.congr (fun k => if_pos hneg) ?_
    refine whole_rest n0 n1 hP hQ hx rfl hi.1 hi.2 ?_
    rw [IntKind.wrap_u64, IntKind.wrap_u64]
    omega
  · refine Ev.congr (fun k => if_neg hneg) ?_
    refine whole_rest n0 n1 hP hQ hx rfl hi.1 hi.2 ?_
    rw [IntKind.wrap_u64]
    omega
end Go.Proofs.Ytfmdjhfnbiekaaa.Pure
