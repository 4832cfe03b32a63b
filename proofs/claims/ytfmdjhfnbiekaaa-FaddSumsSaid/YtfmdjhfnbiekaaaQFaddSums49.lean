/- The row of the law FaddSums: whatever the input, the law answers true and the input reads as it did. -/
import Derived.Test.YtfmdjhfnbiekaaaRows
import Derived.Test.YtfmdjhfnbiekaaaQFaddSums1
import Derived.Test.YtfmdjhfnbiekaaaQFaddSums31
import Derived.Test.YtfmdjhfnbiekaaaQFaddSums48
import Derived.Lib.SmallJoins
import Derived.Carry
namespace Go.Proofs.Ytfmdjhfnbiekaaa.faddSums
open Go.ChangeShapes Go.WideShapes Go.ChangeAt Go.RowKit Go.Proofs.Ytfmdjhfnbiekaaa.RowIn Go.Proofs.YtfmdjhfnbiekaaaW.PrintWords
set_option linter.unusedVariables false
set_option linter.unusedSimpArgs false
theorem own : ownKnob Try.prog.godebug = none := by kernel_rfl
theorem laidOut : laidOutB Try.prog = true := by kernel_rfl
set_option maxHeartbeats 4000000 in
set_option maxRecDepth 100000 in
theorem lifted (os : Os) (started : os.Started) (H : Type) (enc : TypeId × Value → H) :
    ReturnsInHanded {} Try.checked os 7 .any (Rows.faddSumsSpec.pre6 enc Try.prog Try.f7 Rows.faddSumsRow.domain false) (Rows.faddSumsSpec.post enc Try.prog Try.f7 false true false false) := by
  refine returnsInHanded_of_change_sized (C := Try.checked) own started (by kernel_rfl) Try.func7
    (ChangeSpec.witness6 (enc := enc) (C := Try.checked) false ⟨#[], #[.int .i64 0, .slice none 0 0], []⟩ 8 (by kernel_rfl) (by kernel_rfl) (by kernel_rfl) (by kernel_rfl)) ?_
  intro W base args ds gs before hval0 hW hcnd hsz0 _
  have hsz : (DataW.weightsEach Try.prog (Try.f7.params.toList ++ Rows.faddSumsSpec.plain.varTypes Try.prog) (ds ++ gs)).all (· ≤ reachBytes) = true := hsz0
  have hval : ∀ (j : Nat) t v, Try.f7.params[j]? = some t → args[j]? = some v → Value.okWide Try.prog W .any base t v := hval0
  have hW' := hW
  obtain ⟨p, q, hA0, hV, rfl, hfz, hnd⟩ := hW
  have hA : DataW.TrodAll enc Try.prog W 0 (fun _ => true) true Try.f7.params.toList args.toList ds p := hA0
  rw [Try.params7] at hA hval hsz
  obtain ⟨v0, vs0, d0, ds0, p0, q0, hargs, rfl, rfl, h0, r0⟩ := trodAll_cons hA
  obtain ⟨v1, vs1, d1, ds1, p1, q1, rfl, rfl, rfl, h1, r1⟩ := trodAll_cons r0
  obtain ⟨rfl, rfl, rfl⟩ := trodAll_nil r1
  obtain rfl : args = #[v0, v1] := by cases args; simp_all
  obtain ⟨rfl, rfl⟩ := trodVars_none hV
  have k0 := h0
  have lt0 : ∀ x ∈ p0, x.block < W.heap.size := by obtain ⟨m, hm⟩ := k0; exact DataW.trod_lt m _ _ _ hm
  have Q0 : light Try.prog 3 d0 := light_of (j := 0) hsz rfl rfl
  obtain ⟨a0, rfl⟩ := okWide_int Try.underlying3 (hval 0 3 v0 rfl rfl)
  obtain ⟨f0, h0⟩ := h0
  simp only [Value.cells] at h0
  obtain ⟨b0, e0, x0, w0⟩ := DataW.trod_int Try.underlying3 h0
  obtain rfl : a0 = b0 := by simpa using e0
  have k1 := h1
  have lt1 : ∀ x ∈ p1, x.block < W.heap.size := by obtain ⟨m, hm⟩ := k1; exact DataW.trod_lt m _ _ _ hm
  have Q1 : light Try.prog 22 d1 := light_of (j := 1) hsz rfl rfl
  obtain ⟨A1, n1, c1, rfl⟩ := okWide_slice Try.underlying22 (hval 1 22 v1 rfl rfl)
  obtain ⟨f1, h1⟩ := h1
  simp only [Value.cells] at h1
  obtain ⟨A1', m1, l1, e1, hr1, hc1, w1, b1, s1⟩ := ints_in Try.underlying22 Try.underlying32 (by kernel_rfl) h1
  obtain ⟨rfl, rfl, rfl⟩ : A1 = A1' ∧ n1 = l1.length ∧ c1 = m1 := by simpa using e1
  have y1 : l1.length * 8 ≤ 140737488351232 := by
    have z := s1 Q1
    rwa [show Try.prog.bytesOf 32 = 8 by kernel_rfl] at z
  clear hA0 hval0
  obtain ⟨kk, hh⟩ := Pure.FaddSums a0 l1 w0 y1 w1
  refine (PA.vernierlaw07_FaddSums.calls kk a0 A1 c1 l1 true W hr1 hc1 hh).mono fun e W' ⟨he, bel⟩ => ?_
  subst he
  exact ⟨_, rfl, _, _, _, [], _, [], hW', trodAll_mk1 (shut_bool Try.underlying4 _), (trodAll_cons_mk (Below.trod laidOut (by kernel_rfl) (of_decide_eq_true (by kernel_rfl)) k0 bel lt0) (trodAll_cons_mk (Below.trod laidOut (by kernel_rfl) (of_decide_eq_true (by kernel_rfl)) k1 bel lt1) trodAll_mk0)), rfl, bel.frame _, fun h => by cases h⟩
theorem over : Rows.faddSumsRow.holds Try.pinned (OpenSpec.ofChange Rows.faddSumsSpec) :=
  OpenClaim.holds_of_wide 7 Try.f7 rfl rfl rfl rfl rfl rfl rfl ⟨rfl, rfl, rfl, rfl, rfl⟩ rfl rfl rfl rfl rfl (by kernel_rfl) Try.func7 (by kernel_rfl)
    (of_decide_eq_true (by kernel_rfl)) (by unfold Func.isWrapper; first | (rw [if_pos (by decide +kernel)]; kernel_rfl) | (rw [if_neg (by decide +kernel)]; exact ⟨rfl, rfl⟩))
    (fun os started H enc _ => lifted os started H enc)
theorem proved : Rows.FaddSumsSaid := over
#print axioms proved
end Go.Proofs.Ytfmdjhfnbiekaaa.faddSums
namespace Go.Proofs.Ytfmdjhfnbiekaaa
theorem faddSums_holds : Rows.FaddSumsSaid := faddSums.proved
end Go.Proofs.Ytfmdjhfnbiekaaa
