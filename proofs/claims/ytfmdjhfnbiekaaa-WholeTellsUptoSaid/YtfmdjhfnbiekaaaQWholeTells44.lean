/- The row of the law WholeTells: whatever the input, where what it reads is of bulk at most 1048576, the law answers true and the input reads as it did. -/
import Derived.Test.YtfmdjhfnbiekaaaRows
import Derived.Test.YtfmdjhfnbiekaaaQWholeTells1
import Derived.Test.YtfmdjhfnbiekaaaQWholeTells33
import Derived.Test.YtfmdjhfnbiekaaaQWholeTells43
import Derived.Lib.SmallJoins
import Derived.Carry
namespace Go.Proofs.Ytfmdjhfnbiekaaa.wholeTellsUpto
open Go.ChangeShapes Go.WideShapes Go.ChangeAt Go.RowKit Go.Proofs.Ytfmdjhfnbiekaaa.RowIn Go.Proofs.YtfmdjhfnbiekaaaW.PrintWords
set_option linter.unusedVariables false
set_option linter.unusedSimpArgs false
theorem own : ownKnob Try.prog.godebug = none := by kernel_rfl
theorem laidOut : laidOutB Try.prog = true := by kernel_rfl
theorem array2 {α : Type} {cs : Array α} (h : cs.size = 2) : ∃ c0 c1, cs = #[c0, c1] := by
  obtain ⟨l⟩ := cs
  match l, h with
  | [c0, c1], _ => exact ⟨c0, c1, rfl⟩
set_option maxHeartbeats 4000000 in
set_option maxRecDepth 100000 in
theorem lifted (os : Os) (started : os.Started) (H : Type) (enc : TypeId × Value → H) (F : Stop.Interp) :
    ReturnsInHanded {} Try.checked os 3 .any ((Rows.OpenSpec.upto Rows.wholeTellsSpec).pre6 enc Try.prog Try.f3 Rows.wholeTellsUptoRow.domain false) (((Rows.OpenSpec.upto Rows.wholeTellsSpec).at F).post enc Try.prog Try.f3 false true false false) := by
  refine returnsInHanded_of_cond (C := Try.checked) (s := Rows.OpenSpec.upto Rows.wholeTellsSpec) (k := Rows.uptoSmall) rfl own started (by kernel_rfl) Try.func3
    (OpenSpec.witness (enc := enc) (C := Try.checked) (s := Rows.OpenSpec.upto Rows.wholeTellsSpec) (k := Rows.uptoSmall) rfl false ⟨#[], #[.agg #[.bool false, .slice none 0 0], .agg #[.bool false, .slice none 0 0], .int .i64 0], []⟩ 8 (by kernel_rfl) (by kernel_rfl) (by kernel_rfl)
      (x := ([.agg [.lit (.bool false), .nil], .agg [.lit (.bool false), .nil], .lit (.int .i64 0)], [], [])) (by kernel_rfl) rfl (by kernel_rfl)) ?_
  intro W base args ds gs before hval0 hW _ hk _
  have hval : ∀ (j : Nat) t v, Try.f3.params[j]? = some t → args[j]? = some v → Value.okWide Try.prog W .any base t v := hval0
  have hW' := hW
  obtain ⟨p, q, hA0, hV, rfl, hfz, hnd⟩ := hW
  have hA : DataW.TrodAll enc Try.prog W 0 (fun _ => true) true Try.f3.params.toList args.toList ds p := hA0
  rw [Try.params3] at hA hval
  obtain ⟨v0, vs0, d0, ds0, p0, q0, hargs, rfl, rfl, h0, r0⟩ := trodAll_cons hA
  obtain ⟨v1, vs1, d1, ds1, p1, q1, rfl, rfl, rfl, h1, r1⟩ := trodAll_cons r0
  obtain ⟨v2, vs2, d2, ds2, p2, q2, rfl, rfl, rfl, h2, r2⟩ := trodAll_cons r1
  obtain ⟨rfl, rfl, rfl⟩ := trodAll_nil r2
  obtain rfl : args = #[v0, v1, v2] := by cases args; simp_all
  obtain ⟨rfl, rfl⟩ := trodVars_none hV
  have k0 := h0
  have lt0 : ∀ x ∈ p0, x.block < W.heap.size := by obtain ⟨m, hm⟩ := k0; exact DataW.trod_lt m _ _ _ hm
  have Q0 : Rows.uptoBulk d0 ≤ 1048576 := small_of hk (by simp)
  obtain ⟨cs0, rfl, sz0⟩ := okWide_struct Try.underlying24 (hval 0 24 v0 rfl rfl)
  obtain ⟨g0_0, g0_1, rfl⟩ := array2 (sz0.trans (show Try.prog.cellsOf 24 = 2 by kernel_rfl))
  obtain ⟨f0, h0⟩ := h0
  simp only [Value.cells] at h0
  obtain ⟨y0_0, y0_1, n0, x0, _, t0_0, t0_1⟩ := trod_struct2 Try.underlying24 h0
  simp only [show Try.prog.cellsOf 4 = 1 by kernel_rfl, List.drop_succ_cons, List.drop_zero, List.take_succ_cons, List.take_zero] at t0_0
  simp only [show Try.prog.cellsOf 22 = 1 by kernel_rfl, List.drop_succ_cons, List.drop_zero, List.take_succ_cons, List.take_zero] at t0_1
  have k0 := congrArg Prod.fst x0
  simp only at k0
  have q0_0 : Rows.uptoBulk y0_0.1 ≤ 1048576 := bulk_part (k0 ▸ Q0) (by simp)
  have q0_1 : Rows.uptoBulk y0_1.1 ≤ 1048576 := bulk_part (k0 ▸ Q0) (by simp)
  obtain ⟨a0_0, e0_0, x0_0⟩ := DataW.trod_bool Try.underlying4 t0_0
  obtain rfl := (List.cons.inj e0_0).1
  obtain ⟨A0_1, c0_1, l0_1, e0_1, hr0_1, hc0_1, w0_1, b0_1, s0_1⟩ := ints_in Try.underlying22 Try.underlying32 (by kernel_rfl) t0_1
  obtain rfl := (List.cons.inj e0_1).1
  have y0_1 : l0_1.length ≤ 1048576 := Nat.le_trans b0_1 q0_1
  have k1 := h1
  have lt1 : ∀ x ∈ p1, x.block < W.heap.size := by obtain ⟨m, hm⟩ := k1; exact DataW.trod_lt m _ _ _ hm
  have Q1 : Rows.uptoBulk d1 ≤ 1048576 := small_of hk (by simp)
  obtain ⟨cs1, rfl, sz1⟩ := okWide_struct Try.underlying24 (hval 1 24 v1 rfl rfl)
  obtain ⟨g1_0, g1_1, rfl⟩ := array2 (sz1.trans (show Try.prog.cellsOf 24 = 2 by kernel_rfl))
  obtain ⟨f1, h1⟩ := h1
  simp only [Value.cells] at h1
  obtain ⟨y1_0, y1_1, n1, x1, _, t1_0, t1_1⟩ := trod_struct2 Try.underlying24 h1
  simp only [show Try.prog.cellsOf 4 = 1 by kernel_rfl, List.drop_succ_cons, List.drop_zero, List.take_succ_cons, List.take_zero] at t1_0
  simp only [show Try.prog.cellsOf 22 = 1 by kernel_rfl, List.drop_succ_cons, List.drop_zero, List.take_succ_cons, List.take_zero] at t1_1
  have k1 := congrArg Prod.fst x1
  simp only at k1
  have q1_0 : Rows.uptoBulk y1_0.1 ≤ 1048576 := bulk_part (k1 ▸ Q1) (by simp)
  have q1_1 : Rows.uptoBulk y1_1.1 ≤ 1048576 := bulk_part (k1 ▸ Q1) (by simp)
  obtain ⟨a1_0, e1_0, x1_0⟩ := DataW.trod_bool Try.underlying4 t1_0
  obtain rfl := (List.cons.inj e1_0).1
  obtain ⟨A1_1, c1_1, l1_1, e1_1, hr1_1, hc1_1, w1_1, b1_1, s1_1⟩ := ints_in Try.underlying22 Try.underlying32 (by kernel_rfl) t1_1
  obtain rfl := (List.cons.inj e1_1).1
  have y1_1 : l1_1.length ≤ 1048576 := Nat.le_trans b1_1 q1_1
  have k2 := h2
  have lt2 : ∀ x ∈ p2, x.block < W.heap.size := by obtain ⟨m, hm⟩ := k2; exact DataW.trod_lt m _ _ _ hm
  have Q2 : Rows.uptoBulk d2 ≤ 1048576 := small_of hk (by simp)
  obtain ⟨a2, rfl⟩ := okWide_int Try.underlying3 (hval 2 3 v2 rfl rfl)
  obtain ⟨f2, h2⟩ := h2
  simp only [Value.cells] at h2
  obtain ⟨b2, e2, x2, w2⟩ := DataW.trod_int Try.underlying3 h2
  obtain rfl : a2 = b2 := by simpa using e2
  clear hA0 hval0
  obtain ⟨kk, hh⟩ := Pure.WholeTells a0_0 l0_1 a1_0 l1_1 a2 y0_1 w0_1 y1_1 w1_1 w2
  refine (PW.vernierlaw03_WholeTells.calls kk a0_0 A0_1 c0_1 l0_1 a1_0 A1_1 c1_1 l1_1 a2 true W hr0_1 hc0_1 hr1_1 hc1_1 hh).mono fun e W' ⟨he, bel⟩ => ?_
  subst he
  exact ⟨_, rfl, _, _, _, [], _, [], hW', trodAll_mk1 (shut_bool Try.underlying4 _), (trodAll_cons_mk (Below.trod laidOut (by kernel_rfl) (of_decide_eq_true (by kernel_rfl)) k0 bel lt0) (trodAll_cons_mk (Below.trod laidOut (by kernel_rfl) (of_decide_eq_true (by kernel_rfl)) k1 bel lt1) (trodAll_cons_mk (Below.trod laidOut (by kernel_rfl) (of_decide_eq_true (by kernel_rfl)) k2 bel lt2) trodAll_mk0))), rfl, bel.frame _, fun h => by cases h⟩
theorem over : Rows.wholeTellsUptoRow.holds Try.pinned (Rows.OpenSpec.upto Rows.wholeTellsSpec) :=
  OpenClaim.holds_of_cond 3 Try.f3 rfl rfl rfl rfl rfl rfl rfl ⟨rfl, rfl, rfl, rfl, rfl⟩ rfl rfl rfl rfl rfl (by kernel_rfl) Try.func3 (by kernel_rfl)
    (of_decide_eq_true (by kernel_rfl)) (by unfold Func.isWrapper; first | (rw [if_pos (by decide +kernel)]; kernel_rfl) | (rw [if_neg (by decide +kernel)]; exact ⟨rfl, rfl⟩))
    (fun os started H enc _ F => lifted os started H enc F)
theorem proved : Rows.WholeTellsUptoSaid := over
#print axioms proved
end Go.Proofs.Ytfmdjhfnbiekaaa.wholeTellsUpto
namespace Go.Proofs.Ytfmdjhfnbiekaaa
theorem wholeTellsUpto_holds : Rows.WholeTellsUptoSaid := wholeTellsUpto.proved
end Go.Proofs.Ytfmdjhfnbiekaaa
