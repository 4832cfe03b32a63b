/- The row of the law RatioTells: whatever the input, the law answers true and the input reads as it did. -/
import Derived.Test.YtkjhjlnjkohlbaaRows
import Derived.Test.YtkjhjlnjkohlbaaZRatioTells1
import Derived.Test.YtkjhjlnjkohlbaaZRatioTells51
import Derived.Lib.SmallJoins
import Derived.Carry
namespace Go.Proofs.Ytkjhjlnjkohlbaa.ratioTells
open Go.ChangeShapes Go.WideShapes Go.ChangeAt Go.RowKit Go.Proofs.Ytkjhjlnjkohlbaa.RowIn Go.Proofs.YtkjhjlnjkohlbaaW.PrintWords
set_option linter.unusedVariables false
set_option linter.unusedSimpArgs false
theorem own : ownKnob Try.prog.godebug = none := by kernel_rfl
theorem laidOut : laidOutB Try.prog = true := by kernel_rfl
theorem array3 {α : Type} {cs : Array α} (h : cs.size = 3) : ∃ c0 c1 c2, cs = #[c0, c1, c2] := by
 obtain ⟨l⟩ := cs
 match l, h with
 | [c0, c1, c2], _ => exact ⟨c0, c1, c2, rfl⟩
set_option maxHeartbeats 4000000 in
set_option maxRecDepth 100000 in
theorem lifted (os : Os) (started : os.Started) (H : Type) (enc : TypeId × Value → H) :
  ReturnsInHanded {} Try.checked os 4 .any (Rows.ratioTellsSpec.pre6 enc Try.prog Try.f4 Rows.ratioTellsRow.domain false) (Rows.ratioTellsSpec.post enc Try.prog Try.f4 false true false false) := by
 refine returnsInHanded_of_change_sized (C := Try.checked) own started (by kernel_rfl) Try.func4
  (ChangeSpec.witness6 (enc := enc) (C := Try.checked) false ⟨#[], #[.agg #[.bool false, .slice none 0 0, .slice none 0 0], .agg #[.bool false, .slice none 0 0, .slice none 0 0]], []⟩ 8 (by kernel_rfl) (by kernel_rfl) (by kernel_rfl) (by kernel_rfl)) ?_
 intro W base args ds gs before hval0 hW hcnd hsz0 _
 have hsz : (DataW.weightsEach Try.prog (Try.f4.params.toList ++ Rows.ratioTellsSpec.plain.varTypes Try.prog) (ds ++ gs)).all (· ≤ reachBytes) = true := hsz0
 have hval : ∀ (j : Nat) t v, Try.f4.params[j]? = some t → args[j]? = some v → Value.okWide Try.prog W .any base t v := hval0
 have hW' := hW
 obtain ⟨p, q, hA0, hV, rfl, hfz, hnd⟩ := hW
 have hA : DataW.TrodAll enc Try.prog W 0 (fun _ => true) true Try.f4.params.toList args.toList ds p := hA0
 rw [Try.params4] at hA hval hsz
 obtain ⟨v0, vs0, d0, ds0, p0, q0, hargs, rfl, rfl, h0, r0⟩ := trodAll_cons hA
 obtain ⟨v1, vs1, d1, ds1, p1, q1, rfl, rfl, rfl, h1, r1⟩ := trodAll_cons r0
 obtain ⟨rfl, rfl, rfl⟩ := trodAll_nil r1
 obtain rfl : args = #[v0, v1] := by cases args; simp_all
 obtain ⟨rfl, rfl⟩ := trodVars_none hV
 have k0 := h0
 have lt0 : ∀ x ∈ p0, x.block < W.heap.size := by obtain ⟨m, hm⟩ := k0; exact DataW.trod_lt m _ _ _ hm
 have Q0 : light Try.prog 28 d0 := light_of (j := 0) hsz rfl rfl
 obtain ⟨cs0, rfl, sz0⟩ := okWide_struct Try.underlying28 (hval 0 28 v0 rfl rfl)
 obtain ⟨g0_0, g0_1, g0_2, rfl⟩ := array3 (sz0.trans (show Try.prog.cellsOf 28 = 3 by kernel_rfl))
 obtain ⟨f0, h0⟩ := h0
 simp only [Value.cells] at h0
 obtain ⟨y0_0, y0_1, n0, x0, _, t0_0, t0_1⟩ := trod_struct2 Try.underlying28 h0
 simp only [show Try.prog.cellsOf 26 = 2 by kernel_rfl, List.drop_succ_cons, List.drop_zero, List.take_succ_cons, List.take_zero] at t0_0
 simp only [show Try.prog.cellsOf 22 = 1 by kernel_rfl, List.drop_succ_cons, List.drop_zero, List.take_succ_cons, List.take_zero] at t0_1
 have k0 := congrArg Prod.fst x0
 simp only at k0
 have q0_0 : light Try.prog 26 y0_0.1 := light_part (j := 0) Try.underlying28 (k0 ▸ Q0) rfl rfl
 have q0_1 : light Try.prog 22 y0_1.1 := light_part (j := 1) Try.underlying28 (k0 ▸ Q0) rfl rfl
 obtain ⟨y0_0_0, y0_0_1, n0_0, x0_0, _, t0_0_0, t0_0_1⟩ := trod_struct2 Try.underlying26 t0_0
 simp only [show Try.prog.cellsOf 4 = 1 by kernel_rfl, List.drop_succ_cons, List.drop_zero, List.take_succ_cons, List.take_zero] at t0_0_0
 simp only [show Try.prog.cellsOf 22 = 1 by kernel_rfl, List.drop_succ_cons, List.drop_zero, List.take_succ_cons, List.take_zero] at t0_0_1
 have k0_0 := congrArg Prod.fst x0_0
 simp only at k0_0
 have q0_0_0 : light Try.prog 4 y0_0_0.1 := light_part (j := 0) Try.underlying26 (k0_0 ▸ q0_0) rfl rfl
 have q0_0_1 : light Try.prog 22 y0_0_1.1 := light_part (j := 1) Try.underlying26 (k0_0 ▸ q0_0) rfl rfl
 obtain ⟨a0_0, e0_0, x0_0⟩ := DataW.trod_bool Try.underlying4 t0_0_0
 obtain rfl := (List.cons.inj e0_0).1
 obtain ⟨A0_1, c0_1, l0_1, e0_1, hr0_1, hc0_1, w0_1, b0_1, s0_1⟩ := ints_in Try.underlying22 Try.underlying35 (by kernel_rfl) t0_0_1
 obtain rfl := (List.cons.inj e0_1).1
 have y0_1 : l0_1.length * 8 ≤ 140737488351232 := by
  have z := s0_1 q0_0_1
  rwa [show Try.prog.bytesOf 35 = 8 by kernel_rfl] at z
 obtain ⟨A0_2, c0_2, l0_2, e0_2, hr0_2, hc0_2, w0_2, b0_2, s0_2⟩ := ints_in Try.underlying22 Try.underlying35 (by kernel_rfl) t0_1
 obtain rfl := (List.cons.inj e0_2).1
 have y0_2 : l0_2.length * 8 ≤ 140737488351232 := by
  have z := s0_2 q0_1
  rwa [show Try.prog.bytesOf 35 = 8 by kernel_rfl] at z
 have k1 := h1
 have lt1 : ∀ x ∈ p1, x.block < W.heap.size := by obtain ⟨m, hm⟩ := k1; exact DataW.trod_lt m _ _ _ hm
 have Q1 : light Try.prog 28 d1 := light_of (j := 1) hsz rfl rfl
 obtain ⟨cs1, rfl, sz1⟩ := okWide_struct Try.underlying28 (hval 1 28 v1 rfl rfl)
 obtain ⟨g1_0, g1_1, g1_2, rfl⟩ := array3 (sz1.trans (show Try.prog.cellsOf 28 = 3 by kernel_rfl))
 obtain ⟨f1, h1⟩ := h1
 simp only [Value.cells] at h1
 obtain ⟨y1_0, y1_1, n1, x1, _, t1_0, t1_1⟩ := trod_struct2 Try.underlying28 h1
 simp only [show Try.prog.cellsOf 26 = 2 by kernel_rfl, List.drop_succ_cons, List.drop_zero, List.take_succ_cons, List.take_zero] at t1_0
 simp only [show Try.prog.cellsOf 22 = 1 by kernel_rfl, List.drop_succ_cons, List.drop_zero, List.take_succ_cons, List.take_zero] at t1_1
 have k1 := congrArg Prod.fst x1
 simp only at k1
 have q1_0 : light Try.prog 26 y1_0.1 := light_part (j := 0) Try.underlying28 (k1 ▸ Q1) rfl rfl
 have q1_1 : light Try.prog 22 y1_1.1 := light_part (j := 1) Try.underlying28 (k1 ▸ Q1) rfl rfl
 obtain ⟨y1_0_0, y1_0_1, n1_0, x1_0, _, t1_0_0, t1_0_1⟩ := trod_struct2 Try.underlying26 t1_0
 simp only [show Try.prog.cellsOf 4 = 1 by kernel_rfl, List.drop_succ_cons, List.drop_zero, List.take_succ_cons, List.take_zero] at t1_0_0
 simp only [show Try.prog.cellsOf 22 = 1 by kernel_rfl, List.drop_succ_cons, List.drop_zero, List.take_succ_cons, List.take_zero] at t1_0_1
 have k1_0 := congrArg Prod.fst x1_0
 simp only at k1_0
 have q1_0_0 : light Try.prog 4 y1_0_0.1 := light_part (j := 0) Try.underlying26 (k1_0 ▸ q1_0) rfl rfl
 have q1_0_1 : light Try.prog 22 y1_0_1.1 := light_part (j := 1) Try.underlying26 (k1_0 ▸ q1_0) rfl rfl
 obtain ⟨a1_0, e1_0, x1_0⟩ := DataW.trod_bool Try.underlying4 t1_0_0
 obtain rfl := (List.cons.inj e1_0).1
 obtain ⟨A1_1, c1_1, l1_1, e1_1, hr1_1, hc1_1, w1_1, b1_1, s1_1⟩ := ints_in Try.underlying22 Try.underlying35 (by kernel_rfl) t1_0_1
 obtain rfl := (List.cons.inj e1_1).1
 have y1_1 : l1_1.length * 8 ≤ 140737488351232 := by
  have z := s1_1 q1_0_1
  rwa [show Try.prog.bytesOf 35 = 8 by kernel_rfl] at z
 obtain ⟨A1_2, c1_2, l1_2, e1_2, hr1_2, hc1_2, w1_2, b1_2, s1_2⟩ := ints_in Try.underlying22 Try.underlying35 (by kernel_rfl) t1_1
 obtain rfl := (List.cons.inj e1_2).1
 have y1_2 : l1_2.length * 8 ≤ 140737488351232 := by
  have z := s1_2 q1_1
  rwa [show Try.prog.bytesOf 35 = 8 by kernel_rfl] at z
 clear hA0 hval0
 obtain ⟨kk, hh⟩ := Pure.RatioTells a0_0 l0_1 l0_2 a1_0 l1_1 l1_2 y0_1 w0_1 y0_2 w0_2 y1_1 w1_1 y1_2 w1_2
 refine (PR.vernierlaw05_RatioTells.calls kk a0_0 A0_1 c0_1 l0_1 A0_2 c0_2 l0_2 a1_0 A1_1 c1_1 l1_1 A1_2 c1_2 l1_2 true W hr0_1 hc0_1 hr0_2 hc0_2 hr1_1 hc1_1 hr1_2 hc1_2 hh).mono fun e W' ⟨he, bel⟩ => ?_
 subst he
 exact ⟨_, rfl, _, _, _, [], _, [], hW', trodAll_mk1 (shut_bool Try.underlying4 _), (trodAll_cons_mk (Below.trod laidOut (by kernel_rfl) (of_decide_eq_true (by kernel_rfl)) k0 bel lt0) (trodAll_cons_mk (Below.trod laidOut (by kernel_rfl) (of_decide_eq_true (by kernel_rfl)) k1 bel lt1) trodAll_mk0)), rfl, bel.frame _, fun h => by cases h⟩
theorem over : Rows.ratioTellsRow.holds Try.pinned (OpenSpec.ofChange Rows.ratioTellsSpec) :=
 OpenClaim.holds_of_wide 4 Try.f4 rfl rfl rfl rfl rfl rfl rfl ⟨rfl, rfl, rfl, rfl, rfl⟩ rfl rfl rfl rfl rfl (by kernel_rfl) Try.func4 (by kernel_rfl)
  (of_decide_eq_true (by kernel_rfl)) (by unfold Func.isWrapper; first | (rw [if_pos (by decide +kernel)]; kernel_rfl) | (rw [if_neg (by decide +kernel)]; exact ⟨rfl, rfl⟩))
  (fun os started H enc _ => lifted os started H enc)
theorem proved : Rows.RatioTellsSaid := over
#print axioms proved
end Go.Proofs.Ytkjhjlnjkohlbaa.ratioTells
namespace Go.Proofs.Ytkjhjlnjkohlbaa
theorem ratioTells_holds : Rows.RatioTellsSaid := ratioTells.proved
end Go.Proofs.Ytkjhjlnjkohlbaa
