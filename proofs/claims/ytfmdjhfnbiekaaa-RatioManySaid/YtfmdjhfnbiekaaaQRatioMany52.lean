/- The row of the law RatioMany: whatever the input, the law answers true and the input reads as it did. -/
import Derived.Test.YtfmdjhfnbiekaaaRows
import Derived.Test.YtfmdjhfnbiekaaaQRatioMany1
import Derived.Test.YtfmdjhfnbiekaaaQRatioMany38
import Derived.Test.YtfmdjhfnbiekaaaQRatioMany51
import Derived.Lib.SmallJoins
import Derived.Carry
namespace Go.Proofs.Ytfmdjhfnbiekaaa.ratioMany
open Go.ChangeShapes Go.WideShapes Go.ChangeAt Go.RowKit Go.Proofs.Ytfmdjhfnbiekaaa.RowIn Go.Proofs.YtfmdjhfnbiekaaaW.PrintWords
set_option linter.unusedVariables false
set_option linter.unusedSimpArgs false
theorem own : ownKnob Try.prog.godebug = none := by kernel_rfl
theorem laidOut : laidOutB Try.prog = true := by kernel_rfl
theorem array3 {α : Type} {cs : Array α} (h : cs.size = 3) : ∃ c0 c1 c2, cs = #[c0, c1, c2] := by
  obtain ⟨l⟩ := cs
  match l, h with
  | [c0, c1, c2], _ => exact ⟨c0, c1, c2, rfl⟩
set_option maxHeartbeats 4000000 in
set_option maxRecDepth 100000 in
theorem lifted (os : Os) (started : os.Started) (H : Type) (enc : TypeId × Value → H) :
    ReturnsInHanded {} Try.checked os 11 .any (Rows.ratioManySpec.pre6 enc Try.prog Try.f11 Rows.ratioManyRow.domain false) (Rows.ratioManySpec.post enc Try.prog Try.f11 false true false false) := by
  refine returnsInHanded_of_change_sized (C := Try.checked) own started (by kernel_rfl) Try.func11
    (ChangeSpec.witness6 (enc := enc) (C := Try.checked) false ⟨#[], #[.agg #[.bool false, .slice none 0 0, .int .i64 0]], []⟩ 8 (by kernel_rfl) (by kernel_rfl) (by kernel_rfl) (by kernel_rfl)) ?_
  intro W base args ds gs before hval0 hW hcnd hsz0 _
  have hsz : (DataW.weightsEach Try.prog (Try.f11.params.toList ++ Rows.ratioManySpec.plain.varTypes Try.prog) (ds ++ gs)).all (· ≤ reachBytes) = true := hsz0
  have hval : ∀ (j : Nat) t v, Try.f11.params[j]? = some t → args[j]? = some v → Value.okWide Try.prog W .any base t v := hval0
  have hW' := hW
  obtain ⟨p, q, hA0, hV, rfl, hfz, hnd⟩ := hW
  have hA : DataW.TrodAll enc Try.prog W 0 (fun _ => true) true Try.f11.params.toList args.toList ds p := hA0
  rw [Try.params11] at hA hval hsz
  obtain ⟨v0, vs0, d0, ds0, p0, q0, hargs, rfl, rfl, h0, r0⟩ := trodAll_cons hA
  obtain ⟨rfl, rfl, rfl⟩ := trodAll_nil r0
  obtain rfl : args = #[v0] := by cases args; simp_all
  obtain ⟨rfl, rfl⟩ := trodVars_none hV
  have k0 := h0
  have lt0 : ∀ x ∈ p0, x.block < W.heap.size := by obtain ⟨m, hm⟩ := k0; exact DataW.trod_lt m _ _ _ hm
  have Q0 : light Try.prog 76 d0 := light_of (j := 0) hsz rfl rfl
  obtain ⟨cs0, rfl, sz0⟩ := okWide_struct Try.underlying76 (hval 0 76 v0 rfl rfl)
  obtain ⟨g0_0, g0_1, g0_2, rfl⟩ := array3 (sz0.trans (show Try.prog.cellsOf 76 = 3 by kernel_rfl))
  obtain ⟨f0, h0⟩ := h0
  simp only [Value.cells] at h0
  obtain ⟨y0_0, y0_1, y0_2, n0, x0, _, t0_0, t0_1, t0_2⟩ := Deep.trod_struct3 Try.underlying76 h0
  simp only [show Try.prog.cellsOf 4 = 1 by kernel_rfl, List.drop_succ_cons, List.drop_zero, List.take_succ_cons, List.take_zero] at t0_0
  simp only [show Try.prog.cellsOf 22 = 1 by kernel_rfl, List.drop_succ_cons, List.drop_zero, List.take_succ_cons, List.take_zero] at t0_1
  simp only [show Try.prog.cellsOf 3 = 1 by kernel_rfl, List.drop_succ_cons, List.drop_zero, List.take_succ_cons, List.take_zero] at t0_2
  have k0 := congrArg Prod.fst x0
  simp only at k0
  have q0_0 : light Try.prog 4 y0_0.1 := light_part (j := 0) Try.underlying76 (k0 ▸ Q0) rfl rfl
  have q0_1 : light Try.prog 22 y0_1.1 := light_part (j := 1) Try.underlying76 (k0 ▸ Q0) rfl rfl
  have q0_2 : light Try.prog 3 y0_2.1 := light_part (j := 2) Try.underlying76 (k0 ▸ Q0) rfl rfl
  obtain ⟨a0_0, e0_0, x0_0⟩ := DataW.trod_bool Try.underlying4 t0_0
  obtain rfl := (List.cons.inj e0_0).1
  obtain ⟨A0_1, c0_1, l0_1, e0_1, hr0_1, hc0_1, w0_1, b0_1, s0_1⟩ := ints_in Try.underlying22 Try.underlying32 (by kernel_rfl) t0_1
  obtain rfl := (List.cons.inj e0_1).1
  have y0_1 : l0_1.length * 8 ≤ 140737488351232 := by
    have z := s0_1 q0_1
    rwa [show Try.prog.bytesOf 32 = 8 by kernel_rfl] at z
  obtain ⟨a0_2, e0_2, x0_2, w0_2⟩ := DataW.trod_int Try.underlying3 t0_2
  obtain rfl := (List.cons.inj e0_2).1
  clear hA0 hval0
  obtain ⟨kk, hh⟩ := Pure.RatioMany a0_0 l0_1 a0_2 y0_1 w0_1 w0_2
  refine (PB.vernierlaw05_RatioMany.calls kk a0_0 A0_1 c0_1 l0_1 a0_2 true W hr0_1 hc0_1 hh).mono fun e W' ⟨he, bel⟩ => ?_
  subst he
  exact ⟨_, rfl, _, _, _, [], _, [], hW', trodAll_mk1 (shut_bool Try.underlying4 _), (trodAll_cons_mk (Below.trod laidOut (by kernel_rfl) (of_decide_eq_true (by kernel_rfl)) k0 bel lt0) trodAll_mk0), rfl, bel.frame _, fun h => by cases h⟩
theorem over : Rows.ratioManyRow.holds Try.pinned (OpenSpec.ofChange Rows.ratioManySpec) :=
  OpenClaim.holds_of_wide 11 Try.f11 rfl rfl rfl rfl rfl rfl rfl ⟨rfl, rfl, rfl, rfl, rfl⟩ rfl rfl rfl rfl rfl (by kernel_rfl) Try.func11 (by kernel_rfl)
    (of_decide_eq_true (by kernel_rfl)) (by unfold Func.isWrapper; first | (rw [if_pos (by decide +kernel)]; kernel_rfl) | (rw [if_neg (by decide +kernel)]; exact ⟨rfl, rfl⟩))
    (fun os started H enc _ => lifted os started H enc)
theorem proved : Rows.RatioManySaid := over
#print axioms proved
end Go.Proofs.Ytfmdjhfnbiekaaa.ratioMany
namespace Go.Proofs.Ytfmdjhfnbiekaaa
theorem ratioMany_holds : Rows.RatioManySaid := ratioMany.proved
end Go.Proofs.Ytfmdjhfnbiekaaa
