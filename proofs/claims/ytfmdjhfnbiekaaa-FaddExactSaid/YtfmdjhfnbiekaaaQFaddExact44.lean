/- The row of the law FaddExact: whatever the input, the law answers true and the input reads as it did. -/
import Derived.Test.YtfmdjhfnbiekaaaRows
import Derived.Test.YtfmdjhfnbiekaaaQFaddExact1
import Derived.Test.YtfmdjhfnbiekaaaQFaddExact27
import Derived.Test.YtfmdjhfnbiekaaaQFaddExact43
import Derived.Lib.SmallJoins
import Derived.Carry
namespace Go.Proofs.Ytfmdjhfnbiekaaa.faddExact
open Go.ChangeShapes Go.WideShapes Go.ChangeAt Go.RowKit Go.Proofs.Ytfmdjhfnbiekaaa.RowIn Go.Proofs.YtfmdjhfnbiekaaaW.PrintWords
set_option linter.unusedVariables false
set_option linter.unusedSimpArgs false
theorem own : ownKnob Try.prog.godebug = none := by kernel_rfl
theorem laidOut : laidOutB Try.prog = true := by kernel_rfl
set_option maxHeartbeats 4000000 in
set_option maxRecDepth 100000 in
theorem lifted (os : Os) (started : os.Started) (H : Type) (enc : TypeId × Value → H) :
    ReturnsInHanded {} Try.checked os 6 .any (Rows.faddExactSpec.pre6 enc Try.prog Try.f6 Rows.faddExactRow.domain false) (Rows.faddExactSpec.post enc Try.prog Try.f6 false true false false) := by
  refine returnsInHanded_of_change_sized (C := Try.checked) own started (by kernel_rfl) Try.func6
    (ChangeSpec.witness6 (enc := enc) (C := Try.checked) false ⟨#[], #[.int .u32 0, .int .u32 0, .int .u16 0, .bool false, .bool false], []⟩ 8 (by kernel_rfl) (by kernel_rfl) (by kernel_rfl) (by kernel_rfl)) ?_
  intro W base args ds gs before hval0 hW hcnd hsz0 _
  have hsz : (DataW.weightsEach Try.prog (Try.f6.params.toList ++ Rows.faddExactSpec.plain.varTypes Try.prog) (ds ++ gs)).all (· ≤ reachBytes) = true := hsz0
  have hval : ∀ (j : Nat) t v, Try.f6.params[j]? = some t → args[j]? = some v → Value.okWide Try.prog W .any base t v := hval0
  have hW' := hW
  obtain ⟨p, q, hA0, hV, rfl, hfz, hnd⟩ := hW
  have hA : DataW.TrodAll enc Try.prog W 0 (fun _ => true) true Try.f6.params.toList args.toList ds p := hA0
  rw [Try.params6] at hA hval hsz
  obtain ⟨v0, vs0, d0, ds0, p0, q0, hargs, rfl, rfl, h0, r0⟩ := trodAll_cons hA
  obtain ⟨v1, vs1, d1, ds1, p1, q1, rfl, rfl, rfl, h1, r1⟩ := trodAll_cons r0
  obtain ⟨v2, vs2, d2, ds2, p2, q2, rfl, rfl, rfl, h2, r2⟩ := trodAll_cons r1
  obtain ⟨v3, vs3, d3, ds3, p3, q3, rfl, rfl, rfl, h3, r3⟩ := trodAll_cons r2
  obtain ⟨v4, vs4, d4, ds4, p4, q4, rfl, rfl, rfl, h4, r4⟩ := trodAll_cons r3
  obtain ⟨rfl, rfl, rfl⟩ := trodAll_nil r4
  obtain rfl : args = #[v0, v1, v2, v3, v4] := by cases args; simp_all
  obtain ⟨rfl, rfl⟩ := trodVars_none hV
  have k0 := h0
  have lt0 : ∀ x ∈ p0, x.block < W.heap.size := by obtain ⟨m, hm⟩ := k0; exact DataW.trod_lt m _ _ _ hm
  have Q0 : light Try.prog 48 d0 := light_of (j := 0) hsz rfl rfl
  obtain ⟨a0, rfl⟩ := okWide_int Try.underlying48 (hval 0 48 v0 rfl rfl)
  obtain ⟨f0, h0⟩ := h0
  simp only [Value.cells] at h0
  obtain ⟨b0, e0, x0, w0⟩ := DataW.trod_int Try.underlying48 h0
  obtain rfl : a0 = b0 := by simpa using e0
  have k1 := h1
  have lt1 : ∀ x ∈ p1, x.block < W.heap.size := by obtain ⟨m, hm⟩ := k1; exact DataW.trod_lt m _ _ _ hm
  have Q1 : light Try.prog 48 d1 := light_of (j := 1) hsz rfl rfl
  obtain ⟨a1, rfl⟩ := okWide_int Try.underlying48 (hval 1 48 v1 rfl rfl)
  obtain ⟨f1, h1⟩ := h1
  simp only [Value.cells] at h1
  obtain ⟨b1, e1, x1, w1⟩ := DataW.trod_int Try.underlying48 h1
  obtain rfl : a1 = b1 := by simpa using e1
  have k2 := h2
  have lt2 : ∀ x ∈ p2, x.block < W.heap.size := by obtain ⟨m, hm⟩ := k2; exact DataW.trod_lt m _ _ _ hm
  have Q2 : light Try.prog 49 d2 := light_of (j := 2) hsz rfl rfl
  obtain ⟨a2, rfl⟩ := okWide_int Try.underlying49 (hval 2 49 v2 rfl rfl)
  obtain ⟨f2, h2⟩ := h2
  simp only [Value.cells] at h2
  obtain ⟨b2, e2, x2, w2⟩ := DataW.trod_int Try.underlying49 h2
  obtain rfl : a2 = b2 := by simpa using e2
  have k3 := h3
  have lt3 : ∀ x ∈ p3, x.block < W.heap.size := by obtain ⟨m, hm⟩ := k3; exact DataW.trod_lt m _ _ _ hm
  have Q3 : light Try.prog 4 d3 := light_of (j := 3) hsz rfl rfl
  obtain ⟨a3, rfl⟩ := okWide_bool Try.underlying4 (hval 3 4 v3 rfl rfl)
  obtain ⟨f3, h3⟩ := h3
  simp only [Value.cells] at h3
  have k4 := h4
  have lt4 : ∀ x ∈ p4, x.block < W.heap.size := by obtain ⟨m, hm⟩ := k4; exact DataW.trod_lt m _ _ _ hm
  have Q4 : light Try.prog 4 d4 := light_of (j := 4) hsz rfl rfl
  obtain ⟨a4, rfl⟩ := okWide_bool Try.underlying4 (hval 4 4 v4 rfl rfl)
  obtain ⟨f4, h4⟩ := h4
  simp only [Value.cells] at h4
  clear hA0 hval0
  obtain ⟨kk, hh⟩ := Pure.FaddExact a0 a1 a2 a3 a4 w0 w1 w2
  refine (PA.vernierlaw07_FaddExact.calls kk a0 a1 a2 a3 a4 true W hh).mono fun e W' ⟨he, bel⟩ => ?_
  subst he
  exact ⟨_, rfl, _, _, _, [], _, [], hW', trodAll_mk1 (shut_bool Try.underlying4 _), (trodAll_cons_mk (Below.trod laidOut (by kernel_rfl) (of_decide_eq_true (by kernel_rfl)) k0 bel lt0) (trodAll_cons_mk (Below.trod laidOut (by kernel_rfl) (of_decide_eq_true (by kernel_rfl)) k1 bel lt1) (trodAll_cons_mk (Below.trod laidOut (by kernel_rfl) (of_decide_eq_true (by kernel_rfl)) k2 bel lt2) (trodAll_cons_mk (Below.trod laidOut (by kernel_rfl) (of_decide_eq_true (by kernel_rfl)) k3 bel lt3) (trodAll_cons_mk (Below.trod laidOut (by kernel_rfl) (of_decide_eq_true (by kernel_rfl)) k4 bel lt4) trodAll_mk0))))), rfl, bel.frame _, fun h => by cases h⟩
theorem over : Rows.faddExactRow.holds Try.pinned (OpenSpec.ofChange Rows.faddExactSpec) :=
  OpenClaim.holds_of_wide 6 Try.f6 rfl rfl rfl rfl rfl rfl rfl ⟨rfl, rfl, rfl, rfl, rfl⟩ rfl rfl rfl rfl rfl (by kernel_rfl) Try.func6 (by kernel_rfl)
    (of_decide_eq_true (by kernel_rfl)) (by unfold Func.isWrapper; first | (rw [if_pos (by decide +kernel)]; kernel_rfl) | (rw [if_neg (by decide +kernel)]; exact ⟨rfl, rfl⟩))
    (fun os started H enc _ => lifted os started H enc)
theorem proved : Rows.FaddExactSaid := over
#print axioms proved
end Go.Proofs.Ytfmdjhfnbiekaaa.faddExact
namespace Go.Proofs.Ytfmdjhfnbiekaaa
theorem faddExact_holds : Rows.FaddExactSaid := faddExact.proved
end Go.Proofs.Ytfmdjhfnbiekaaa
