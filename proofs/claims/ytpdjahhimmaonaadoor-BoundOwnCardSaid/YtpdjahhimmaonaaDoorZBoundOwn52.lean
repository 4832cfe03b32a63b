/- The row of the law BoundOwn, and its card: whatever the input, the law answers true and the input reads as it did; the library's table is tied to its text. -/
import Derived.Test.YtpdjahhimmaonaaDoorCards
import Derived.Test.YtpdjahhimmaonaaDoorTie
import Derived.Test.YtpdjahhimmaonaaDoorZBoundOwn1
import Derived.Test.YtpdjahhimmaonaaDoorZBoundOwn51
import Derived.Lib.SmallJoins
import Derived.Carry
import Derived.WalkKit
import Derived.ProofKit
import Derived.OpenShut
import Derived.Deep.DeepHandedRow
import Derived.Lib.LaidTab
namespace Go.Proofs.YtpdjahhimmaonaaDoor.boundOwn
open Go.ChangeShapes Go.WideShapes Go.ChangeAt Go.RowKit Go.Proofs.YtpdjahhimmaonaaDoor.RowIn Go.Proofs.YtpdjahhimmaonaaDoorW.PrintWords
set_option linter.unusedVariables false
set_option linter.unusedSimpArgs false
theorem own : ownKnob Tryd.prog.godebug = none := by kernel_rfl
theorem laidOut : laidOutB Tryd.prog = true := by kernel_rfl
theorem gTab : Tryd.prog.globalNamed "math/bits.deBruijn64tab" = some 0 := by kernel_rfl
theorem gTabType : (Tryd.prog.globals[0]?).map (·.type) = some 106 := by kernel_rfl
theorem cellsT : Tryd.prog.cellsOf 106 = 64 := by kernel_rfl
theorem cellsE : Tryd.prog.cellsOf 5 = 1 := by kernel_rfl
theorem table {W : World} (h : laidMetH Tryd.prog Rows.boundOwnRow.laid W) : Lib.TabIs Tryd.prog W "math/bits.deBruijn64tab" .u8 [0, 1, 56, 2, 57, 49, 28, 3, 61, 58, 42, 50, 38, 29, 17, 4, 62, 47, 59, 36, 45, 43, 51, 22, 53, 39, 33, 30, 24, 18, 12, 5, 63, 55, 48, 27, 60, 41, 37, 16, 46, 35, 44, 21, 52, 32, 23, 11, 54, 26, 40, 15, 34, 20, 31, 10, 25, 14, 19, 9, 13, 8, 7, 6] :=
 Lib.tabIs_of_head (rest := []) gTab gTabType Tryd.underlying106 Tryd.underlying5 cellsE cellsT h
theorem same : ∀ i : Nat, i < 64 → ([0, 1, 56, 2, 57, 49, 28, 3, 61, 58, 42, 50, 38, 29, 17, 4, 62, 47, 59, 36, 45, 43, 51, 22, 53, 39, 33, 30, 24, 18, 12, 5, 63, 55, 48, 27, 60, 41, 37, 16, 46, 35, 44, 21, 52, 32, 23, 11, 54, 26, 40, 15, 34, 20, 31, 10, 25, 14, 19, 9, 13, 8, 7, 6] : List Int).getD i 0 = ((Lib.deBruijn64tab.getD i 0 : Nat) : Int) := by decide
theorem held {W : World} (h : laidMetH Tryd.prog Rows.boundOwnRow.laid W) : PD.Tz W := by
 intro i hi
 have c := (table h).cell gTab i hi
 rw [same i hi] at c
 exact c
noncomputable def laidWorld (os : Os) : World :=
 { World.holding Tryd.prog os ⟨#[], #[], []⟩ with heap := (World.holding Tryd.prog os ⟨#[], #[], []⟩).heap.modify 0 fun
   | .cells _ t frozen => .cells #[.int .u8 0, .int .u8 1, .int .u8 56, .int .u8 2, .int .u8 57, .int .u8 49, .int .u8 28, .int .u8 3, .int .u8 61, .int .u8 58, .int .u8 42, .int .u8 50, .int .u8 38, .int .u8 29, .int .u8 17, .int .u8 4, .int .u8 62, .int .u8 47, .int .u8 59, .int .u8 36, .int .u8 45, .int .u8 43, .int .u8 51, .int .u8 22, .int .u8 53, .int .u8 39, .int .u8 33, .int .u8 30, .int .u8 24, .int .u8 18, .int .u8 12, .int .u8 5, .int .u8 63, .int .u8 55, .int .u8 48, .int .u8 27, .int .u8 60, .int .u8 41, .int .u8 37, .int .u8 16, .int .u8 46, .int .u8 35, .int .u8 44, .int .u8 21, .int .u8 52, .int .u8 32, .int .u8 23, .int .u8 11, .int .u8 54, .int .u8 26, .int .u8 40, .int .u8 15, .int .u8 34, .int .u8 20, .int .u8 31, .int .u8 10, .int .u8 25, .int .u8 14, .int .u8 19, .int .u8 9, .int .u8 13, .int .u8 8, .int .u8 7, .int .u8 6] t frozen
   | o => o }
theorem laid_met (os : Os) : laidMet Tryd.prog Rows.boundOwnRow.laid ((laidWorld os).forCall (fun _ _ => 0) ⟨#[], #[.agg #[.bool false, .slice none 0 0, .int .i64 0]], []⟩).memory :=
 laidMet_of_run' 8 (by kernel_rfl) (by kernel_rfl)
theorem reads (os : Os) {H : Type} (enc : TypeId × Value → H) : ∃ places, DataW.whole enc Tryd.prog ((laidWorld os).forCall (fun _ _ => 0) ⟨#[], #[.agg #[.bool false, .slice none 0 0, .int .i64 0]], []⟩).memory Tryd.f5.params.toList Rows.boundOwnSpec.vars false (#[.agg #[.bool false, .slice none 0 0, .int .i64 0]] : Array Value).toList 8 = some ([.agg [.lit (.bool false), .nil, .lit (.int .i64 0)]], [], places) :=
 ⟨[], by kernel_rfl⟩
theorem array3 {α : Type} {cs : Array α} (h : cs.size = 3) : ∃ c0 c1 c2, cs = #[c0, c1, c2] := by
 obtain ⟨l⟩ := cs
 match l, h with
 | [c0, c1, c2], _ => exact ⟨c0, c1, c2, rfl⟩
set_option maxHeartbeats 4000000 in
set_option maxRecDepth 100000 in
theorem lifted (os : Os) (started : os.Started) (H : Type) (enc : TypeId × Value → H) (F : Stop.Interp) :
  ReturnsInHanded {} Tryd.checked os 5 .any ((OpenSpec.ofChange Rows.boundOwnSpec).preRow enc Tryd.prog Tryd.f5 Rows.boundOwnRow.domain false Rows.boundOwnRow.laid) (((OpenSpec.ofChange Rows.boundOwnSpec).at F).post enc Tryd.prog Tryd.f5 false true false false) := by
 obtain ⟨places, hx⟩ := reads os enc
 refine returnsInHanded_of_row (C := Tryd.checked) (s := OpenSpec.ofChange Rows.boundOwnSpec) own started (by kernel_rfl) Tryd.func5
  (witness_row_at (enc := enc) (C := Tryd.checked) false (laidWorld os) #[.agg #[.bool false, .slice none 0 0, .int .i64 0]] rfl (by kernel_rfl) (by kernel_rfl) (by kernel_rfl)
   (OpenSpec.preRow_of_cond 8 hx (by kernel_rfl) (fun k hk => by cases hk) (by kernel_rfl) (laid_met os))) ?_
 intro W base args ds gs before hval0 hW _ hk0 hsz0 hL _ _
 have hTz := held hL
 have hsz : (DataW.weightsEach Tryd.prog (Tryd.f5.params.toList ++ Rows.boundOwnSpec.plain.varTypes Tryd.prog) (ds ++ gs)).all (· ≤ reachBytes) = true := hsz0
 have hval : ∀ (j : Nat) t v, Tryd.f5.params[j]? = some t → args[j]? = some v → Value.okWide Tryd.prog W .any base t v := hval0
 have hW' := hW
 obtain ⟨p, q, hA0, hV, rfl, hfz, hnd⟩ := hW
 have hA : DataW.TrodAll enc Tryd.prog W 0 (fun _ => true) true Tryd.f5.params.toList args.toList ds p := hA0
 rw [Tryd.params5] at hA hval hsz
 obtain ⟨v0, vs0, d0, ds0, p0, q0, hargs, rfl, rfl, h0, r0⟩ := trodAll_cons hA
 obtain ⟨rfl, rfl, rfl⟩ := trodAll_nil r0
 obtain rfl : args = #[v0] := by cases args; simp_all
 obtain ⟨rfl, rfl⟩ := trodVars_none hV
 have k0 := h0
 have lt0 : ∀ x ∈ p0, x.block < W.heap.size := by obtain ⟨m, hm⟩ := k0; exact DataW.trod_lt m _ _ _ hm
 have Q0 : light Tryd.prog 32 d0 := light_of (j := 0) hsz rfl rfl
 obtain ⟨cs0, rfl, sz0⟩ := okWide_struct Tryd.underlying32 (hval 0 32 v0 rfl rfl)
 obtain ⟨g0_0, g0_1, g0_2, rfl⟩ := array3 (sz0.trans (show Tryd.prog.cellsOf 32 = 3 by kernel_rfl))
 obtain ⟨f0, h0⟩ := h0
 simp only [Value.cells] at h0
 obtain ⟨y0_0, y0_1, y0_2, n0, x0, _, t0_0, t0_1, t0_2⟩ := Deep.trod_struct3 Tryd.underlying32 h0
 simp only [show Tryd.prog.cellsOf 4 = 1 by kernel_rfl, List.drop_succ_cons, List.drop_zero, List.take_succ_cons, List.take_zero] at t0_0
 simp only [show Tryd.prog.cellsOf 30 = 1 by kernel_rfl, List.drop_succ_cons, List.drop_zero, List.take_succ_cons, List.take_zero] at t0_1
 simp only [show Tryd.prog.cellsOf 3 = 1 by kernel_rfl, List.drop_succ_cons, List.drop_zero, List.take_succ_cons, List.take_zero] at t0_2
 have k0 := congrArg Prod.fst x0
 simp only at k0
 have q0_0 : light Tryd.prog 4 y0_0.1 := light_part (j := 0) Tryd.underlying32 (k0 ▸ Q0) rfl rfl
 have q0_1 : light Tryd.prog 30 y0_1.1 := light_part (j := 1) Tryd.underlying32 (k0 ▸ Q0) rfl rfl
 have q0_2 : light Tryd.prog 3 y0_2.1 := light_part (j := 2) Tryd.underlying32 (k0 ▸ Q0) rfl rfl
 obtain ⟨a0_0, e0_0, x0_0⟩ := DataW.trod_bool Tryd.underlying4 t0_0
 obtain rfl := (List.cons.inj e0_0).1
 obtain ⟨A0_1, c0_1, l0_1, e0_1, hr0_1, hc0_1, w0_1, b0_1, s0_1⟩ := ints_in Tryd.underlying30 Tryd.underlying22 (by kernel_rfl) t0_1
 obtain rfl := (List.cons.inj e0_1).1
 have y0_1 : l0_1.length * 8 ≤ 140737488351232 := by
  have z := s0_1 q0_1
  rwa [show Tryd.prog.bytesOf 22 = 8 by kernel_rfl] at z
 obtain ⟨a0_2, e0_2, x0_2, w0_2⟩ := DataW.trod_int Tryd.underlying3 t0_2
 obtain rfl := (List.cons.inj e0_2).1
 clear hA0 hval0
 obtain ⟨kk, hh⟩ := Pure.BoundOwn a0_0 l0_1 a0_2 y0_1 w0_1 w0_2
 refine (PD.vernierlaw34_BoundOwn.calls kk a0_0 A0_1 c0_1 l0_1 a0_2 true W hr0_1 hc0_1 hTz hh).mono fun e W' ⟨he, bel⟩ => ?_
 subst he
 exact ⟨_, rfl, _, _, _, [], _, [], hW', trodAll_mk1 (shut_bool Tryd.underlying4 _), (trodAll_cons_mk (Below.trod laidOut (by kernel_rfl) (of_decide_eq_true (by kernel_rfl)) k0 bel lt0) trodAll_mk0), rfl, bel.frame _, fun h => by cases h⟩
theorem over : Rows.boundOwnRow.holds Tryd.pinned (OpenSpec.ofChange Rows.boundOwnSpec) :=
 OpenClaim.holds_of_cond 5 Tryd.f5 rfl rfl rfl rfl rfl rfl rfl ⟨rfl, rfl, rfl, rfl, rfl⟩ rfl rfl rfl rfl rfl (by kernel_rfl) Tryd.func5 (by kernel_rfl)
  (of_decide_eq_true (by kernel_rfl)) (by unfold Func.isWrapper; first | (rw [if_pos (by decide +kernel)]; kernel_rfl) | (rw [if_neg (by decide +kernel)]; exact ⟨rfl, rfl⟩))
  (fun os started H enc _ F => by rw [OpenClaim.pre_eq_preRow]; exact lifted os started H enc F)
theorem said : Rows.BoundOwnSaid := over
theorem plain (f : FuncId) (fn : Func) (hf : Tryd.pinned.checked.prog.funcNamed "vernier/vernierlaw34.BoundOwn" = some f) (hfn : Tryd.pinned.checked.prog.funcs[f]? = some fn) :
  true = Tryd.pinned.checked.prog.looks [] ∧ ∀ (j : Nat) t, fn.params[j]? = some t → Tryd.pinned.checked.prog.wantsStandIn t = false := by
 obtain rfl : f = 5 := Option.some.inj ((show Tryd.prog.funcNamed "vernier/vernierlaw34.BoundOwn" = some 5 by kernel_rfl).symm.trans hf) |>.symm
 obtain rfl : fn = Tryd.f5 := (Option.some.inj (Tryd.func5.symm.trans hfn)).symm
 refine ⟨by kernel_rfl, fun j t ht => ?_⟩
 rw [Tryd.params5] at ht
 match j, ht with
 | 0, ht =>
  obtain rfl : (32 : TypeId) = t := Option.some.inj ht
  exact (show Tryd.prog.wantsStandIn 32 = false by kernel_rfl)
 | j + 1, ht => cases ht
theorem proved : Rows.BoundOwnCardSaid :=
 Claim7.holds_tied_plain_at .later [] _ _ _ _ said (fun _ h => by cases h) (by kernel_rfl) (fun _ h => by cases h) boundOwn_row_tie rfl ⟨rfl, rfl⟩ (by kernel_rfl) rfl plain (by kernel_rfl)
#print axioms proved
end Go.Proofs.YtpdjahhimmaonaaDoor.boundOwn
namespace Go.Proofs.YtpdjahhimmaonaaDoor
theorem boundOwn_holds : Rows.BoundOwnCardSaid := boundOwn.proved
end Go.Proofs.YtpdjahhimmaonaaDoor
