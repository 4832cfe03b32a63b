/- The row of the law FconvWhole: whatever the input, the law answers true and the input reads as it did. -/
import Derived.Test.YtfmdjhfnbiekaaaRows
import Derived.Test.YtfmdjhfnbiekaaaQFconvWhole1
import Derived.Test.YtfmdjhfnbiekaaaQFconvWhole35
import Derived.Test.YtfmdjhfnbiekaaaQFconvWhole54
import Derived.Lib.SmallJoins
import Derived.Carry
namespace Go.Proofs.Ytfmdjhfnbiekaaa.fconvWhole
open Go.ChangeShapes Go.WideShapes Go.ChangeAt Go.RowKit Go.Proofs.Ytfmdjhfnbiekaaa.RowIn Go.Proofs.YtfmdjhfnbiekaaaW.PrintWords
set_option linter.unusedVariables false
set_option linter.unusedSimpArgs false
theorem own : ownKnob Try.prog.godebug = none := by kernel_rfl
theorem laidOut : laidOutB Try.prog = true := by kernel_rfl
set_option maxHeartbeats 4000000 in
set_option maxRecDepth 100000 in
theorem lifted (os : Os) (started : os.Started) (H : Type) (enc : TypeId × Value → H) :
    ReturnsInHanded {} Try.checked os 10 .any (Rows.fconvWholeSpec.pre6 enc Try.prog Try.f10 Rows.fconvWholeRow.domain false) (Rows.fconvWholeSpec.post enc Try.prog Try.f10 false true false false) := by
  refine returnsInHanded_of_change_sized (C := Try.checked) own started (by kernel_rfl) Try.func10
    (ChangeSpec.witness6 (enc := enc) (C := Try.checked) false ⟨#[], #[.int .u64 0, .int .i64 0], []⟩ 8 (by kernel_rfl) (by kernel_rfl) (by kernel_rfl) (by kernel_rfl)) ?_
  intro W base args ds gs before hval0 hW hcnd hsz0 _
  have hsz : (DataW.weightsEach Try.prog (Try.f10.params.toList ++ Rows.fconvWholeSpec.plain.varTypes Try.prog) (ds ++ gs)).all (· ≤ reachBytes) = true := hsz0
  have hval : ∀ (j : Nat) t v, Try.f10.params[j]? = some t → args[j]? = some v → Value.okWide Try.prog W .any base t v := hval0
  have hW' := hW
  obtain ⟨p, q, hA0, hV, rfl, hfz, hnd⟩ := hW
  have hA : DataW.TrodAll enc Try.prog W 0 (fun _ => true) true Try.f10.params.toList args.toList ds p := hA0
  rw [Try.params10] at hA hval hsz
  obtain ⟨v0, vs0, d0, ds0, p0, q0, hargs, rfl, rfl, h0, r0⟩ := trodAll_cons hA
  obtain ⟨v1, vs1, d1, ds1, p1, q1, rfl, rfl, rfl, h1, r1⟩ := trodAll_cons r0
  obtain ⟨rfl, rfl, rfl⟩ := trodAll_nil r1
  obtain rfl : args = #[v0, v1] := by cases args; simp_all
  obtain ⟨rfl, rfl⟩ := trodVars_none hV
  have k0 := h0
  have lt0 : ∀ x ∈ p0, x.block < W.heap.size := by obtain ⟨m, hm⟩ := k0; exact DataW.trod_lt m _ _ _ hm
  have Q0 : light Try.prog 32 d0 := light_of (j := 0) hsz rfl rfl
  obtain ⟨a0, rfl⟩ := okWide_int Try.underlying32 (hval 0 32 v0 rfl rfl)
  obtain ⟨f0, h0⟩ := h0
  simp only [Value.cells] at h0
  obtain ⟨b0, e0, x0, w0⟩ := DataW.trod_int Try.underlying32 h0
  obtain rfl : a0 = b0 := by simpa using e0
  have k1 := h1
  have lt1 : ∀ x ∈ p1, x.block < W.heap.size := by obtain ⟨m, hm⟩ := k1; exact DataW.trod_lt m _ _ _ hm
  have Q1 : light Try.prog 3 d1 := light_of (j := 1) hsz rfl rfl
  obtain ⟨a1, rfl⟩ := okWide_int Try.underlying3 (hval 1 3 v1 rfl rfl)
  obtain ⟨f1, h1⟩ := h1
  simp only [Value.cells] at h1
  obtain ⟨b1, e1, x1, w1⟩ := DataW.trod_int Try.underlying3 h1
  obtain rfl : a1 = b1 := by simpa using e1
  clear hA0 hval0
  obtain ⟨kk, hh⟩ := Pure.FconvWhole a0 a1 w0 w1
  refine (PF.vernierlaw13_FconvWhole.calls kk a0 a1 true W hh).mono fun e W' ⟨he, bel⟩ => ?_
  subst he
  exact ⟨_, rfl, _, _, _, [], _, [], hW', trodAll_mk1 (shut_bool Try.underlying4 _), (trodAll_cons_mk (Below.trod laidOut (by kernel_rfl) (of_decide_eq_true (by kernel_rfl)) k0 bel lt0) (trodAll_cons_mk (Below.trod laidOut (by kernel_rfl) (of_decide_eq_true (by kernel_rfl)) k1 bel lt1) trodAll_mk0)), rfl, bel.frame _, fun h => by cases h⟩
theorem over : Rows.fconvWholeRow.holds Try.pinned (OpenSpec.ofChange Rows.fconvWholeSpec) :=
  OpenClaim.holds_of_wide 10 Try.f10 rfl rfl rfl rfl rfl rfl rfl ⟨rfl, rfl, rfl, rfl, rfl⟩ rfl rfl rfl rfl rfl (by kernel_rfl) Try.func10 (by kernel_rfl)
    (of_decide_eq_true (by kernel_rfl)) (by unfold Func.isWrapper; first | (rw [if_pos (by decide +kernel)]; kernel_rfl) | (rw [if_neg (by decide +kernel)]; exact ⟨rfl, rfl⟩))
    (fun os started H enc _ => lifted os started H enc)
theorem proved : Rows.FconvWholeSaid := over
#print axioms proved
end Go.Proofs.Ytfmdjhfnbiekaaa.fconvWhole
namespace Go.Proofs.Ytfmdjhfnbiekaaa
theorem fconvWhole_holds : Rows.FconvWholeSaid := fconvWhole.proved
end Go.Proofs.Ytfmdjhfnbiekaaa
