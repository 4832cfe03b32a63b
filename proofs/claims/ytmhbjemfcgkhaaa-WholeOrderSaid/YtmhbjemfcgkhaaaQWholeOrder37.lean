/- The row of the law WholeOrder: whatever the input, the law answers true and the input reads as it did. -/
import Derived.Test.YtmhbjemfcgkhaaaRows
import Derived.Test.YtmhbjemfcgkhaaaQWholeOrder1
import Derived.Test.YtmhbjemfcgkhaaaQWholeOrder29
import Derived.Test.YtmhbjemfcgkhaaaQWholeOrder36
import Derived.Lib.SmallJoins
import Derived.Carry
namespace Go.Proofs.Ytmhbjemfcgkhaaa.wholeOrder
open Go.ChangeShapes Go.WideShapes Go.ChangeAt Go.RowKit Go.Proofs.Ytmhbjemfcgkhaaa.RowIn Go.Proofs.YtmhbjemfcgkhaaaW.PrintWords
set_option linter.unusedVariables false
set_option linter.unusedSimpArgs false
theorem own : ownKnob Try.prog.godebug = none := by kernel_rfl
theorem laidOut : laidOutB Try.prog = true := by kernel_rfl
theorem array2 {α : Type} {cs : Array α} (h : cs.size = 2) : ∃ c0 c1, cs = #[c0, c1] := by
  obtain ⟨l⟩ := cs
  match l, h with
  | [c0, c1], _ => exact ⟨c0, c1, rfl⟩
set_option maxHeartbeats 4000000 in
set_option maxRecDepth 100000 in
theorem lifted (os : Os) (started : os.Started) (H : Type) (enc : TypeId × Value → H) :
    ReturnsInHanded {} Try.checked os 7 .any (Rows.wholeOrderSpec.pre6 enc Try.prog Try.f7 Rows.wholeOrderRow.domain false) (Rows.wholeOrderSpec.post enc Try.prog Try.f7 false true false false) := by
  refine returnsInHanded_of_change_sized (C := Try.checked) own started (by kernel_rfl) Try.func7
    (ChangeSpec.witness6 (enc := enc) (C := Try.checked) false ⟨#[], #[.agg #[.bool false, .slice none 0 0], .agg #[.bool false, .slice none 0 0], .agg #[.bool false, .slice none 0 0]], []⟩ 8 (by kernel_rfl) (by kernel_rfl) (by kernel_rfl) (by kernel_rfl)) ?_
  intro W base args ds gs before hval0 hW hcnd hsz0 _
  have hsz : (DataW.weightsEach Try.prog (Try.f7.params.toList ++ Rows.wholeOrderSpec.plain.varTypes Try.prog) (ds ++ gs)).all (· ≤ reachBytes) = true := hsz0
  have hval : ∀ (j : Nat) t v, Try.f7.params[j]? = some t → args[j]? = some v → Value.okWide Try.prog W .any base t v := hval0
  have hW' := hW
  obtain ⟨p, q, hA0, hV, rfl, hfz, hnd⟩ := hW
  have hA : DataW.TrodAll enc Try.prog W 0 (fun _ => true) true Try.f7.params.toList args.toList ds p := hA0
  rw [Try.params7] at hA hval hsz
  obtain ⟨v0, vs0, d0, ds0, p0, q0, hargs, rfl, rfl, h0, r0⟩ := trodAll_cons hA
  obtain ⟨v1, vs1, d1, ds1, p1, q1, rfl, rfl, rfl, h1, r1⟩ := trodAll_cons r0
  obtain ⟨v2, vs2, d2, ds2, p2, q2, rfl, rfl, rfl, h2, r2⟩ := trodAll_cons r1
  obtain ⟨rfl, rfl, rfl⟩ := trodAll_nil r2
  obtain rfl : args = #[v0, v1, v2] := by cases args; simp_all
  obtain ⟨rfl, rfl⟩ := trodVars_none hV
  have k0 := h0
  have lt0 : ∀ x ∈ p0, x.block < W.heap.size := by obtain ⟨m, hm⟩ := k0; exact DataW.trod_lt m _ _ _ hm
  have Q0 : light Try.prog 41 d0 := light_of (j := 0) hsz rfl rfl
  obtain ⟨cs0, rfl, sz0⟩ := okWide_struct Try.underlying41 (hval 0 41 v0 rfl rfl)
  obtain ⟨g0_0, g0_1, rfl⟩ := array2 (sz0.trans (show Try.prog.cellsOf 41 = 2 by kernel_rfl))
  obtain ⟨f0, h0⟩ := h0
  simp only [Value.cells] at h0
  obtain ⟨y0_0, y0_1, n0, x0, _, t0_0, t0_1⟩ := trod_struct2 Try.underlying41 h0
  simp only [show Try.prog.cellsOf 4 = 1 by kernel_rfl, List.drop_succ_cons, List.drop_zero, List.take_succ_cons, List.take_zero] at t0_0
  simp only [show Try.prog.cellsOf 22 = 1 by kernel_rfl, List.drop_succ_cons, List.drop_zero, List.take_succ_cons, List.take_zero] at t0_1
  have k0 := congrArg Prod.fst x0
  simp only at k0
  have q0_0 : light Try.prog 4 y0_0.1 := light_part (j := 0) Try.underlying41 (k0 ▸ Q0) rfl rfl
  have q0_1 : light Try.prog 22 y0_1.1 := light_part (j := 1) Try.underlying41 (k0 ▸ Q0) rfl rfl
  obtain ⟨a0_0, e0_0, x0_0⟩ := DataW.trod_bool Try.underlying4 t0_0
  obtain rfl := (List.cons.inj e0_0).1
  obtain ⟨A0_1, c0_1, l0_1, e0_1, hr0_1, hc0_1, w0_1, b0_1, s0_1⟩ := ints_in Try.underlying22 Try.underlying29 (by kernel_rfl) t0_1
  obtain rfl := (List.cons.inj e0_1).1
  have y0_1 : l0_1.length * 8 ≤ 140737488351232 := by
    have z := s0_1 q0_1
    rwa [show Try.prog.bytesOf 29 = 8 by kernel_rfl] at z
  have k1 := h1
  have lt1 : ∀ x ∈ p1, x.block < W.heap.size := by obtain ⟨m, hm⟩ := k1; exact DataW.trod_lt m _ _ _ hm
  have Q1 : light Try.prog 41 d1 := light_of (j := 1) hsz rfl rfl
  obtain ⟨cs1, rfl, sz1⟩ := okWide_struct Try.underlying41 (hval 1 41 v1 rfl rfl)
  obtain ⟨g1_0, g1_1, rfl⟩ := array2 (sz1.trans (show Try.prog.cellsOf 41 = 2 by kernel_rfl))
  obtain ⟨f1, h1⟩ := h1
  simp only [Value.cells] at h1
  obtain ⟨y1_0, y1_1, n1, x1, _, t1_0, t1_1⟩ := trod_struct2 Try.underlying41 h1
  simp only [show Try.prog.cellsOf 4 = 1 by kernel_rfl, List.drop_succ_cons, List.drop_zero, List.take_succ_cons, List.take_zero] at t1_0
  simp only [show Try.prog.cellsOf 22 = 1 by kernel_rfl, List.drop_succ_cons, List.drop_zero, List.take_succ_cons, List.take_zero] at t1_1
  have k1 := congrArg Prod.fst x1
  simp only at k1
  have q1_0 : light Try.prog 4 y1_0.1 := light_part (j := 0) Try.underlying41 (k1 ▸ Q1) rfl rfl
  have q1_1 : light Try.prog 22 y1_1.1 := light_part (j := 1) Try.underlying41 (k1 ▸ Q1) rfl rfl
  obtain ⟨a1_0, e1_0, x1_0⟩ := DataW.trod_bool Try.underlying4 t1_0
  obtain rfl := (List.cons.inj e1_0).1
  obtain ⟨A1_1, c1_1, l1_1, e1_1, hr1_1, hc1_1, w1_1, b1_1, s1_1⟩ := ints_in Try.underlying22 Try.underlying29 (by kernel_rfl) t1_1
  obtain rfl := (List.cons.inj e1_1).1
  have y1_1 : l1_1.length * 8 ≤ 140737488351232 := by
    have z := s1_1 q1_1
    rwa [show Try.prog.bytesOf 29 = 8 by kernel_rfl] at z
  have k2 := h2
  have lt2 : ∀ x ∈ p2, x.block < W.heap.size := by obtain ⟨m, hm⟩ := k2; exact DataW.trod_lt m _ _ _ hm
  have Q2 : light Try.prog 41 d2 := light_of (j := 2) hsz rfl rfl
  obtain ⟨cs2, rfl, sz2⟩ := okWide_struct Try.underlying41 (hval 2 41 v2 rfl rfl)
  obtain ⟨g2_0, g2_1, rfl⟩ := array2 (sz2.trans (show Try.prog.cellsOf 41 = 2 by kernel_rfl))
  obtain ⟨f2, h2⟩ := h2
  simp only [Value.cells] at h2
  obtain ⟨y2_0, y2_1, n2, x2, _, t2_0, t2_1⟩ := trod_struct2 Try.underlying41 h2
  simp only [show Try.prog.cellsOf 4 = 1 by kernel_rfl, List.drop_succ_cons, List.drop_zero, List.take_succ_cons, List.take_zero] at t2_0
  simp only [show Try.prog.cellsOf 22 = 1 by kernel_rfl, List.drop_succ_cons, List.drop_zero, List.take_succ_cons, List.take_zero] at t2_1
  have k2 := congrArg Prod.fst x2
  simp only at k2
  have q2_0 : light Try.prog 4 y2_0.1 := light_part (j := 0) Try.underlying41 (k2 ▸ Q2) rfl rfl
  have q2_1 : light Try.prog 22 y2_1.1 := light_part (j := 1) Try.underlying41 (k2 ▸ Q2) rfl rfl
  obtain ⟨a2_0, e2_0, x2_0⟩ := DataW.trod_bool Try.underlying4 t2_0
  obtain rfl := (List.cons.inj e2_0).1
  obtain ⟨A2_1, c2_1, l2_1, e2_1, hr2_1, hc2_1, w2_1, b2_1, s2_1⟩ := ints_in Try.underlying22 Try.underlying29 (by kernel_rfl) t2_1
  obtain rfl := (List.cons.inj e2_1).1
  have y2_1 : l2_1.length * 8 ≤ 140737488351232 := by
    have z := s2_1 q2_1
    rwa [show Try.prog.bytesOf 29 = 8 by kernel_rfl] at z
  clear hA0 hval0
  obtain ⟨kk, hh⟩ := Pure.WholeOrder a0_0 l0_1 a1_0 l1_1 a2_0 l2_1 y0_1 w0_1 y1_1 w1_1 y2_1 w2_1
  refine (PA.vernierlaw03_WholeOrder.calls kk a0_0 A0_1 c0_1 l0_1 a1_0 A1_1 c1_1 l1_1 a2_0 A2_1 c2_1 l2_1 true W hr0_1 hc0_1 hr1_1 hc1_1 hr2_1 hc2_1 hh).mono fun e W' ⟨he, bel⟩ => ?_
  subst he
  exact ⟨_, rfl, _, _, _, [], _, [], hW', trodAll_mk1 (shut_bool Try.underlying4 _), (trodAll_cons_mk (Below.trod laidOut (by kernel_rfl) (of_decide_eq_true (by kernel_rfl)) k0 bel lt0) (trodAll_cons_mk (Below.trod laidOut (by kernel_rfl) (of_decide_eq_true (by kernel_rfl)) k1 bel lt1) (trodAll_cons_mk (Below.trod laidOut (by kernel_rfl) (of_decide_eq_true (by kernel_rfl)) k2 bel lt2) trodAll_mk0))), rfl, bel.frame _, fun h => by cases h⟩
theorem over : Rows.wholeOrderRow.holds Try.pinned (OpenSpec.ofChange Rows.wholeOrderSpec) :=
  OpenClaim.holds_of_wide 7 Try.f7 rfl rfl rfl rfl rfl rfl rfl ⟨rfl, rfl, rfl, rfl, rfl⟩ rfl rfl rfl rfl rfl (by kernel_rfl) Try.func7 (by kernel_rfl)
    (of_decide_eq_true (by kernel_rfl)) (by unfold Func.isWrapper; first | (rw [if_pos (by decide +kernel)]; kernel_rfl) | (rw [if_neg (by decide +kernel)]; exact ⟨rfl, rfl⟩))
    (fun os started H enc _ => lifted os started H enc)
theorem proved : Rows.WholeOrderSaid := over
#print axioms proved
end Go.Proofs.Ytmhbjemfcgkhaaa.wholeOrder
namespace Go.Proofs.Ytmhbjemfcgkhaaa
theorem wholeOrder_holds : Rows.WholeOrderSaid := wholeOrder.proved
end Go.Proofs.Ytmhbjemfcgkhaaa
