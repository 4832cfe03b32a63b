/- The row of the law NatdivTells: whatever the input, where what it reads is of bulk at most 1048576, the law answers true and the input reads as it did. -/
import Derived.Test.YtfmdjhfnbiekaaaRows
import Derived.Test.YtfmdjhfnbiekaaaQNatdivTells1
import Derived.Test.YtfmdjhfnbiekaaaQNatdivTells37
import Derived.Test.YtfmdjhfnbiekaaaQNatdivTells53
import Derived.Lib.SmallJoins
import Derived.Carry
namespace Go.Proofs.Ytfmdjhfnbiekaaa.natdivTellsUpto
open Go.ChangeShapes Go.WideShapes Go.ChangeAt Go.RowKit Go.Proofs.Ytfmdjhfnbiekaaa.RowIn Go.Proofs.YtfmdjhfnbiekaaaW.PrintWords
set_option linter.unusedVariables false
set_option linter.unusedSimpArgs false
theorem own : ownKnob Try.prog.godebug = none := by kernel_rfl
theorem laidOut : laidOutB Try.prog = true := by kernel_rfl
set_option maxHeartbeats 4000000 in
set_option maxRecDepth 100000 in
theorem lifted (os : Os) (started : os.Started) (H : Type) (enc : TypeId × Value → H) (F : Stop.Interp) :
    ReturnsInHanded {} Try.checked os 9 .any ((Rows.OpenSpec.upto Rows.natdivTellsSpec).pre6 enc Try.prog Try.f9 Rows.natdivTellsUptoRow.domain false) (((Rows.OpenSpec.upto Rows.natdivTellsSpec).at F).post enc Try.prog Try.f9 false true false false) := by
  refine returnsInHanded_of_cond (C := Try.checked) (s := Rows.OpenSpec.upto Rows.natdivTellsSpec) (k := Rows.uptoSmall) rfl own started (by kernel_rfl) Try.func9
    (OpenSpec.witness (enc := enc) (C := Try.checked) (s := Rows.OpenSpec.upto Rows.natdivTellsSpec) (k := Rows.uptoSmall) rfl false ⟨#[], #[.slice none 0 0, .slice none 0 0, .int .i64 0], []⟩ 8 (by kernel_rfl) (by kernel_rfl) (by kernel_rfl)
      (x := ([.nil, .nil, .lit (.int .i64 0)], [], [])) (by kernel_rfl) rfl (by kernel_rfl)) ?_
  intro W base args ds gs before hval0 hW _ hk _
  have hval : ∀ (j : Nat) t v, Try.f9.params[j]? = some t → args[j]? = some v → Value.okWide Try.prog W .any base t v := hval0
  have hW' := hW
  obtain ⟨p, q, hA0, hV, rfl, hfz, hnd⟩ := hW
  have hA : DataW.TrodAll enc Try.prog W 0 (fun _ => true) true Try.f9.params.toList args.toList ds p := hA0
  rw [Try.params9] at hA hval
  obtain ⟨v0, vs0, d0, ds0, p0, q0, hargs, rfl, rfl, h0, r0⟩ := trodAll_cons hA
  obtain ⟨v1, vs1, d1, ds1, p1, q1, rfl, rfl, rfl, h1, r1⟩ := trodAll_cons r0
  obtain ⟨v2, vs2, d2, ds2, p2, q2, rfl, rfl, rfl, h2, r2⟩ := trodAll_cons r1
  obtain ⟨rfl, rfl, rfl⟩ := trodAll_nil r2
  obtain rfl : args = #[v0, v1, v2] := by cases args; simp_all
  obtain ⟨rfl, rfl⟩ := trodVars_none hV
  have k0 := h0
  have lt0 : ∀ x ∈ p0, x.block < W.heap.size := by obtain ⟨m, hm⟩ := k0; exact DataW.trod_lt m _ _ _ hm
  have Q0 : Rows.uptoBulk d0 ≤ 1048576 := small_of hk (by simp)
  obtain ⟨A0, n0, c0, rfl⟩ := okWide_slice Try.underlying22 (hval 0 22 v0 rfl rfl)
  obtain ⟨f0, h0⟩ := h0
  simp only [Value.cells] at h0
  obtain ⟨A0', m0, l0, e0, hr0, hc0, w0, b0, s0⟩ := ints_in Try.underlying22 Try.underlying32 (by kernel_rfl) h0
  obtain ⟨rfl, rfl, rfl⟩ : A0 = A0' ∧ n0 = l0.length ∧ c0 = m0 := by simpa using e0
  have y0 : l0.length ≤ 1048576 := Nat.le_trans b0 Q0
  have k1 := h1
  have lt1 : ∀ x ∈ p1, x.block < W.heap.size := by obtain ⟨m, hm⟩ := k1; exact DataW.trod_lt m _ _ _ hm
  have Q1 : Rows.uptoBulk d1 ≤ 1048576 := small_of hk (by simp)
  obtain ⟨A1, n1, c1, rfl⟩ := okWide_slice Try.underlying22 (hval 1 22 v1 rfl rfl)
  obtain ⟨f1, h1⟩ := h1
  simp only [Value.cells] at h1
  obtain ⟨A1', m1, l1, e1, hr1, hc1, w1, b1, s1⟩ := ints_in Try.underlying22 Try.underlying32 (by kernel_rfl) h1
  obtain ⟨rfl, rfl, rfl⟩ : A1 = A1' ∧ n1 = l1.length ∧ c1 = m1 := by simpa using e1
  have y1 : l1.length ≤ 1048576 := Nat.le_trans b1 Q1
  have k2 := h2
  have lt2 : ∀ x ∈ p2, x.block < W.heap.size := by obtain ⟨m, hm⟩ := k2; exact DataW.trod_lt m _ _ _ hm
  have Q2 : Rows.uptoBulk d2 ≤ 1048576 := small_of hk (by simp)
  obtain ⟨a2, rfl⟩ := okWide_int Try.underlying3 (hval 2 3 v2 rfl rfl)
  obtain ⟨f2, h2⟩ := h2
  simp only [Value.cells] at h2
  obtain ⟨b2, e2, x2, w2⟩ := DataW.trod_int Try.underlying3 h2
  obtain rfl : a2 = b2 := by simpa using e2
  clear hA0 hval0
  obtain ⟨kk, hh⟩ := Pure.NatdivTells l0 l1 a2 y0 w0 y1 w1 w2
  refine (PB.vernierlaw02_NatdivTells.calls kk A0 c0 l0 A1 c1 l1 a2 true W hr0 hc0 hr1 hc1 hh).mono fun e W' ⟨he, bel⟩ => ?_
  subst he
  exact ⟨_, rfl, _, _, _, [], _, [], hW', trodAll_mk1 (shut_bool Try.underlying4 _), (trodAll_cons_mk (Below.trod laidOut (by kernel_rfl) (of_decide_eq_true (by kernel_rfl)) k0 bel lt0) (trodAll_cons_mk (Below.trod laidOut (by kernel_rfl) (of_decide_eq_true (by kernel_rfl)) k1 bel lt1) (trodAll_cons_mk (Below.trod laidOut (by kernel_rfl) (of_decide_eq_true (by kernel_rfl)) k2 bel lt2) trodAll_mk0))), rfl, bel.frame _, fun h => by cases h⟩
theorem over : Rows.natdivTellsUptoRow.holds Try.pinned (Rows.OpenSpec.upto Rows.natdivTellsSpec) :=
  OpenClaim.holds_of_cond 9 Try.f9 rfl rfl rfl rfl rfl rfl rfl ⟨rfl, rfl, rfl, rfl, rfl⟩ rfl rfl rfl rfl rfl (by kernel_rfl) Try.func9 (by kernel_rfl)
    (of_decide_eq_true (by kernel_rfl)) (by unfold Func.isWrapper; first | (rw [if_pos (by decide +kernel)]; kernel_rfl) | (rw [if_neg (by decide +kernel)]; exact ⟨rfl, rfl⟩))
    (fun os started H enc _ F => lifted os started H enc F)
theorem proved : Rows.NatdivTellsUptoSaid := over
#print axioms proved
end Go.Proofs.Ytfmdjhfnbiekaaa.natdivTellsUpto
namespace Go.Proofs.Ytfmdjhfnbiekaaa
theorem natdivTellsUpto_holds : Rows.NatdivTellsUptoSaid := natdivTellsUpto.proved
end Go.Proofs.Ytfmdjhfnbiekaaa
