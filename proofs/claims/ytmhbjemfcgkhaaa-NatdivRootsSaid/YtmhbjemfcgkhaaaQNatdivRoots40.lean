/- The row of the law NatdivRoots: whatever the input, the law answers true and the input reads as it did. -/
import Derived.Test.YtmhbjemfcgkhaaaRows
import Derived.Test.YtmhbjemfcgkhaaaQNatdivRoots1
import Derived.Test.YtmhbjemfcgkhaaaQNatdivRoots31
import Derived.Test.YtmhbjemfcgkhaaaQNatdivRoots39
import Derived.Lib.SmallJoins
import Derived.Carry
namespace Go.Proofs.Ytmhbjemfcgkhaaa.natdivRoots
open Go.ChangeShapes Go.WideShapes Go.ChangeAt Go.RowKit Go.Proofs.Ytmhbjemfcgkhaaa.RowIn Go.Proofs.YtmhbjemfcgkhaaaW.PrintWords
set_option linter.unusedVariables false
set_option linter.unusedSimpArgs false
theorem own : ownKnob Try.prog.godebug = none := by kernel_rfl
theorem laidOut : laidOutB Try.prog = true := by kernel_rfl
set_option maxHeartbeats 4000000 in
set_option maxRecDepth 100000 in
theorem lifted (os : Os) (started : os.Started) (H : Type) (enc : TypeId × Value → H) :
    ReturnsInHanded {} Try.checked os 10 .any (Rows.natdivRootsSpec.pre6 enc Try.prog Try.f10 Rows.natdivRootsRow.domain false) (Rows.natdivRootsSpec.post enc Try.prog Try.f10 false true false false) := by
  refine returnsInHanded_of_change_sized (C := Try.checked) own started (by kernel_rfl) Try.func10
    (ChangeSpec.witness6 (enc := enc) (C := Try.checked) false ⟨#[], #[.slice none 0 0], []⟩ 8 (by kernel_rfl) (by kernel_rfl) (by kernel_rfl) (by kernel_rfl)) ?_
  intro W base args ds gs before hval0 hW hcnd hsz0 _
  have hsz : (DataW.weightsEach Try.prog (Try.f10.params.toList ++ Rows.natdivRootsSpec.plain.varTypes Try.prog) (ds ++ gs)).all (· ≤ reachBytes) = true := hsz0
  have hval : ∀ (j : Nat) t v, Try.f10.params[j]? = some t → args[j]? = some v → Value.okWide Try.prog W .any base t v := hval0
  have hW' := hW
  obtain ⟨p, q, hA0, hV, rfl, hfz, hnd⟩ := hW
  have hA : DataW.TrodAll enc Try.prog W 0 (fun _ => true) true Try.f10.params.toList args.toList ds p := hA0
  rw [Try.params10] at hA hval hsz
  obtain ⟨v0, vs0, d0, ds0, p0, q0, hargs, rfl, rfl, h0, r0⟩ := trodAll_cons hA
  obtain ⟨rfl, rfl, rfl⟩ := trodAll_nil r0
  obtain rfl : args = #[v0] := by cases args; simp_all
  obtain ⟨rfl, rfl⟩ := trodVars_none hV
  have k0 := h0
  have lt0 : ∀ x ∈ p0, x.block < W.heap.size := by obtain ⟨m, hm⟩ := k0; exact DataW.trod_lt m _ _ _ hm
  have Q0 : light Try.prog 22 d0 := light_of (j := 0) hsz rfl rfl
  obtain ⟨A0, n0, c0, rfl⟩ := okWide_slice Try.underlying22 (hval 0 22 v0 rfl rfl)
  obtain ⟨f0, h0⟩ := h0
  simp only [Value.cells] at h0
  obtain ⟨A0', m0, l0, e0, hr0, hc0, w0, b0, s0⟩ := ints_in Try.underlying22 Try.underlying29 (by kernel_rfl) h0
  obtain ⟨rfl, rfl, rfl⟩ : A0 = A0' ∧ n0 = l0.length ∧ c0 = m0 := by simpa using e0
  have y0 : l0.length * 8 ≤ 140737488351232 := by
    have z := s0 Q0
    rwa [show Try.prog.bytesOf 29 = 8 by kernel_rfl] at z
  clear hA0 hval0
  obtain ⟨kk, hh⟩ := Pure.NatdivRoots l0 y0 w0
  refine (PA.vernierlaw02_NatdivRoots.calls kk A0 c0 l0 true W hr0 hc0 hh).mono fun e W' ⟨he, bel⟩ => ?_
  subst he
  exact ⟨_, rfl, _, _, _, [], _, [], hW', trodAll_mk1 (shut_bool Try.underlying4 _), (trodAll_cons_mk (Below.trod laidOut (by kernel_rfl) (of_decide_eq_true (by kernel_rfl)) k0 bel lt0) trodAll_mk0), rfl, bel.frame _, fun h => by cases h⟩
theorem over : Rows.natdivRootsRow.holds Try.pinned (OpenSpec.ofChange Rows.natdivRootsSpec) :=
  OpenClaim.holds_of_wide 10 Try.f10 rfl rfl rfl rfl rfl rfl rfl ⟨rfl, rfl, rfl, rfl, rfl⟩ rfl rfl rfl rfl rfl (by kernel_rfl) Try.func10 (by kernel_rfl)
    (of_decide_eq_true (by kernel_rfl)) (by unfold Func.isWrapper; first | (rw [if_pos (by decide +kernel)]; kernel_rfl) | (rw [if_neg (by decide +kernel)]; exact ⟨rfl, rfl⟩))
    (fun os started H enc _ => lifted os started H enc)
theorem proved : Rows.NatdivRootsSaid := over
#print axioms proved
end Go.Proofs.Ytmhbjemfcgkhaaa.natdivRoots
namespace Go.Proofs.Ytmhbjemfcgkhaaa
theorem natdivRoots_holds : Rows.NatdivRootsSaid := natdivRoots.proved
end Go.Proofs.Ytmhbjemfcgkhaaa
