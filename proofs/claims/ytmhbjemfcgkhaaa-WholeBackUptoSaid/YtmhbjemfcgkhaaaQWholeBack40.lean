/- The row of the law WholeBack: whatever the input, where what it reads is of bulk at most 1048576, the law answers true and the input reads as it did. -/
import Derived.Test.YtmhbjemfcgkhaaaRows
import Derived.Test.YtmhbjemfcgkhaaaQWholeBack1
import Derived.Test.YtmhbjemfcgkhaaaQWholeBack32
import Derived.Test.YtmhbjemfcgkhaaaQWholeBack39
import Derived.Lib.SmallJoins
import Derived.Carry
namespace Go.Proofs.Ytmhbjemfcgkhaaa.wholeBackUpto
open Go.ChangeShapes Go.WideShapes Go.ChangeAt Go.RowKit Go.Proofs.Ytmhbjemfcgkhaaa.RowIn Go.Proofs.YtmhbjemfcgkhaaaW.PrintWords
set_option linter.unusedVariables false
set_option linter.unusedSimpArgs false
theorem own : ownKnob Try.prog.godebug = none := by kernel_rfl
theorem laidOut : laidOutB Try.prog = true := by kernel_rfl
theorem array2 {α : Type} {cs : Array α} (h : cs.size = 2) : ∃ c0 c1, cs = #[c0, c1] := by
  obtain ⟨l⟩ := cs
  match l, h with
  | [c0, c1], _ => exact ⟨c0, c1, rfl⟩
set_option maxHeartbeats 4000000 in
set_option maxRecDepth 100000 in
theorem lifted (os : Os) (started : os.Started) (H : Type) (enc : TypeId × Value → H) (F : Stop.Interp) :
    ReturnsInHanded {} Try.checked os 8 .any ((Rows.OpenSpec.upto Rows.wholeBackSpec).pre6 enc Try.prog Try.f8 Rows.wholeBackUptoRow.domain false) (((Rows.OpenSpec.upto Rows.wholeBackSpec).at F).post enc Try.prog Try.f8 false true false false) := by
  refine returnsInHanded_of_cond (C := Try.checked) (s := Rows.OpenSpec.upto Rows.wholeBackSpec) (k := Rows.uptoSmall) rfl own started (by kernel_rfl) Try.func8
    (OpenSpec.witness (enc := enc) (C := Try.checked) (s := Rows.OpenSpec.upto Rows.wholeBackSpec) (k := Rows.uptoSmall) rfl false ⟨#[], #[.agg #[.bool false, .slice none 0 0], .agg #[.bool false, .slice none 0 0], .agg #[.bool false, .slice none 0 0]], []⟩ 8 (by kernel_rfl) (by kernel_rfl) (by kernel_rfl)
      (x := ([.agg [.lit (.bool false), .nil], .agg [.lit (.bool false), .nil], .agg [.lit (.bool false), .nil]], [], [])) (by kernel_rfl) rfl (by kernel_rfl)) ?_
  intro W base args ds gs before hval0 hW _ hk _
  have hval : ∀ (j : Nat) t v, Try.f8.params[j]? = some t → args[j]? = some v → Value.okWide Try.prog W .any base t v := hval0
  have hW' := hW
  obtain ⟨p, q, hA0, hV, rfl, hfz, hnd⟩ := hW
  have hA : DataW.TrodAll enc Try.prog W 0 (fun _ => true) true Try.f8.params.toList args.toList ds p := hA0
  rw [Try.params8] at hA hval
  obtain ⟨v0, vs0, d0, ds0, p0, q0, hargs, rfl, rfl, h0, r0⟩ := trodAll_cons hA
  obtain ⟨v1, vs1, d1, ds1, p1, q1, rfl, rfl, rfl, h1, r1⟩ := trodAll_cons r0
  obtain ⟨v2, vs2, d2, ds2, p2, q2, rfl, rfl, rfl, h2, r2⟩ := trodAll_cons r1
  obtain ⟨rfl, rfl, rfl⟩ := trodAll_nil r2
  obtain rfl : args = #[v0, v1, v2] := by cases args; simp_all
  obtain ⟨rfl, rfl⟩ := trodVars_none hV
  have k0 := h0
  have lt0 : ∀ x ∈ p0, x.block < W.heap.size := by obtain ⟨m, hm⟩ := k0; exact DataW.trod_lt m _ _ _ hm
  have Q0 : Rows.uptoBulk d0 ≤ 1048576 := small_of hk (by simp)
  obtain ⟨cs0, rfl, sz0⟩ := okWide_struct Try.underlying41 (hval 0 41 v0 rfl rfl)
  obtain ⟨g0_0, g0_1, rfl⟩ := array2 (sz0.trans (show Try.prog.cellsOf 41 = 2 by kernel_rfl))
  obtain ⟨f0, h0⟩ := h0
  simp only [Value.cells] at h0
  obtain ⟨y0_0, y0_1, n0, x0, _, t0_0, t0_1⟩ := trod_struct2 Try.underlying41 h0
  simp only [show Try.prog.cellsOf 4 = 1 by kernel_rfl, List.drop_succ_cons, List.drop_zero, List.take_succ_cons, List.take_zero] at t0_0
  simp only [show Try.prog.cellsOf 22 = 1 by kernel_rfl, List.drop_succ_cons, List.drop_zero, List.take_succ_cons, List.take_zero] at t0_1
  have k0 := congrArg Prod.fst x0
  simp only at k0
  have q0_0 : Rows.uptoBulk y0_0.1 ≤ 1048576 := bulk_part (k0 ▸ Q0) (by simp)
  have q0_1 : Rows.uptoBulk y0_1.1 ≤ 1048576 := bulk_part (k0 ▸ Q0) (by simp)
  obtain ⟨a0_0, e0_0, x0_0⟩ := DataW.trod_bool Try.underlying4 t0_0
  obtain rfl := (List.cons.inj e0_0).1
  obtain ⟨A0_1, c0_1, l0_1, e0_1, hr0_1, hc0_1, w0_1, b0_1, s0_1⟩ := ints_in Try.underlying22 Try.underlying29 (by kernel_rfl) t0_1
  obtain rfl := (List.cons.inj e0_1).1
  have y0_1 : l0_1.length ≤ 1048576 := Nat.le_trans b0_1 q0_1
  have k1 := h1
  have lt1 : ∀ x ∈ p1, x.block < W.heap.size := by obtain ⟨m, hm⟩ := k1; exact DataW.trod_lt m _ _ _ hm
  have Q1 : Rows.uptoBulk d1 ≤ 1048576 := small_of hk (by simp)
  obtain ⟨cs1, rfl, sz1⟩ := okWide_struct Try.underlying41 (hval 1 41 v1 rfl rfl)
  obtain ⟨g1_0, g1_1, rfl⟩ := array2 (sz1.trans (show Try.prog.cellsOf 41 = 2 by kernel_rfl))
  obtain ⟨f1, h1⟩ := h1
  simp only [Value.cells] at h1
  obtain ⟨y1_0, y1_1, n1, x1, _, t1_0, t1_1⟩ := trod_struct2 Try.underlying41 h1
  simp only [show Try.prog.cellsOf 4 = 1 by kernel_rfl, List.drop_succ_cons, List.drop_zero, List.take_succ_cons, List.take_zero] at t1_0
  simp only [show Try.prog.cellsOf 22 = 1 by kernel_rfl, List.drop_succ_cons, List.drop_zero, List.take_succ_cons, List.take_zero] at t1_1
  have k1 := congrArg Prod.fst x1
  simp only at k1
  have q1_0 : Rows.uptoBulk y1_0.1 ≤ 1048576 := bulk_part (k1 ▸ Q1) (by simp)
  have q1_1 : Rows.uptoBulk y1_1.1 ≤ 1048576 := bulk_part (k1 ▸ Q1) (by simp)
  obtain ⟨a1_0, e1_0, x1_0⟩ := DataW.trod_bool Try.underlying4 t1_0
  obtain rfl := (List.cons.inj e1_0).1
  obtain ⟨A1_1, c1_1, l1_1, e1_1, hr1_1, hc1_1, w1_1, b1_1, s1_1⟩ := ints_in Try.underlying22 Try.underlying29 (by kernel_rfl) t1_1
  obtain rfl := (List.cons.inj e1_1).1
  have y1_1 : l1_1.length ≤ 1048576 := Nat.le_trans b1_1 q1_1
  have k2 := h2
  have lt2 : ∀ x ∈ p2, x.block < W.heap.size := by obtain ⟨m, hm⟩ := k2; exact DataW.trod_lt m _ _ _ hm
  have Q2 : Rows.uptoBulk d2 ≤ 1048576 := small_of hk (by simp)
  obtain ⟨cs2, rfl, sz2⟩ := okWide_struct Try.underlying41 (hval 2 41 v2 rfl rfl)
  obtain ⟨g2_0, g2_1, rfl⟩ := array2 (sz2.trans (show Try.prog.cellsOf 41 = 2 by kernel_rfl))
  obtain ⟨f2, h2⟩ := h2
  simp only [Value.cells] at h2
  obtain ⟨y2_0, y2_1, n2, x2, _, t2_0, t2_1⟩ := trod_struct2 Try.underlying41 h2
  simp only [show Try.prog.cellsOf 4 = 1 by kernel_rfl, List.drop_succ_cons, List.drop_zero, List.take_succ_cons, List.take_zero] at t2_0
  simp only [show Try.prog.cellsOf 22 = 1 by kernel_rfl, List.drop_succ_cons, List.drop_zero, List.take_succ_cons, List.take_zero] at t2_1
  have k2 := congrArg Prod.fst x2
  simp only at k2
  have q2_0 : Rows.uptoBulk y2_0.1 ≤ 1048576 := bulk_part (k2 ▸ Q2) (by simp)
  have q2_1 : Rows.uptoBulk y2_1.1 ≤ 1048576 := bulk_part (k2 ▸ Q2) (by simp)
  obtain ⟨a2_0, e2_0, x2_0⟩ := DataW.trod_bool Try.underlying4 t2_0
  obtain rfl := (List.cons.inj e2_0).1
  obtain ⟨A2_1, c2_1, l2_1, e2_1, hr2_1, hc2_1, w2_1, b2_1, s2_1⟩ := ints_in Try.underlying22 Try.underlying29 (by kernel_rfl) t2_1
  obtain rfl := (List.cons.inj e2_1).1
  have y2_1 : l2_1.length ≤ 1048576 := Nat.le_trans b2_1 q2_1
  clear hA0 hval0
  obtain ⟨kk, hh⟩ := Pure.WholeBack a0_0 l0_1 a1_0 l1_1 a2_0 l2_1 y0_1 w0_1 y1_1 w1_1 y2_1 w2_1
  refine (PA.vernierlaw03_WholeBack.calls kk a0_0 A0_1 c0_1 l0_1 a1_0 A1_1 c1_1 l1_1 a2_0 A2_1 c2_1 l2_1 true W hr0_1 hc0_1 hr1_1 hc1_1 hr2_1 hc2_1 hh).mono fun e W' ⟨he, bel⟩ => ?_
  subst he
  exact ⟨_, rfl, _, _, _, [], _, [], hW', trodAll_mk1 (shut_bool Try.underlying4 _), (trodAll_cons_mk (Below.trod laidOut (by kernel_rfl) (of_decide_eq_true (by kernel_rfl)) k0 bel lt0) (trodAll_cons_mk (Below.trod laidOut (by kernel_rfl) (of_decide_eq_true (by kernel_rfl)) k1 bel lt1) (trodAll_cons_mk (Below.trod laidOut (by kernel_rfl) (of_decide_eq_true (by kernel_rfl)) k2 bel lt2) trodAll_mk0))), rfl, bel.frame _, fun h => by cases h⟩
theorem over : Rows.wholeBackUptoRow.holds Try.pinned (Rows.OpenSpec.upto Rows.wholeBackSpec) :=
  OpenClaim.holds_of_cond 8 Try.f8 rfl rfl rfl rfl rfl rfl rfl ⟨rfl, rfl, rfl, rfl, rfl⟩ rfl rfl rfl rfl rfl (by kernel_rfl) Try.func8 (by kernel_rfl)
    (of_decide_eq_true (by kernel_rfl)) (by unfold Func.isWrapper; first | (rw [if_pos (by decide +kernel)]; kernel_rfl) | (rw [if_neg (by decide +kernel)]; exact ⟨rfl, rfl⟩))
    (fun os started H enc _ F => lifted os started H enc F)
theorem proved : Rows.WholeBackUptoSaid := over
#print axioms proved
end Go.Proofs.Ytmhbjemfcgkhaaa.wholeBackUpto
namespace Go.Proofs.Ytmhbjemfcgkhaaa
theorem wholeBackUpto_holds : Rows.WholeBackUptoSaid := wholeBackUpto.proved
end Go.Proofs.Ytmhbjemfcgkhaaa
