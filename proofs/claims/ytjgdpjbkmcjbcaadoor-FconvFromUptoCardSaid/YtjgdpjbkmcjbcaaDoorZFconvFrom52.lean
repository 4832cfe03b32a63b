/- The row of the law FconvFrom, and its card: whatever the input, where what it reads is of bulk at most 1048576, the law answers true and the input reads as it did; the library's table is tied to its text. -/
import Derived.Test.YtjgdpjbkmcjbcaaDoorCards
import Derived.Test.YtjgdpjbkmcjbcaaDoorTie
import Derived.Test.YtjgdpjbkmcjbcaaDoorZFconvFrom1
import Derived.Test.YtjgdpjbkmcjbcaaDoorZFconvFrom51
import Derived.Lib.SmallJoins
import Derived.Carry
import Derived.WalkKit
import Derived.ProofKit
import Derived.OpenShut
import Derived.Deep.DeepHandedRow
import Derived.Lib.LaidTab
namespace Go.Proofs.YtjgdpjbkmcjbcaaDoor.fconvFromUpto
open Go.ChangeShapes Go.WideShapes Go.ChangeAt Go.RowKit Go.Proofs.YtjgdpjbkmcjbcaaDoor.RowIn Go.Proofs.YtjgdpjbkmcjbcaaDoorW.PrintWords
set_option linter.unusedVariables false
set_option linter.unusedSimpArgs false
theorem own : ownKnob Tryd.prog.godebug = none := by kernel_rfl
theorem laidOut : laidOutB Tryd.prog = true := by kernel_rfl
theorem gTab : Tryd.prog.globalNamed "math/bits.deBruijn64tab" = some 0 := by kernel_rfl
theorem gTabType : (Tryd.prog.globals[0]?).map (·.type) = some 125 := by kernel_rfl
theorem cellsT : Tryd.prog.cellsOf 125 = 64 := by kernel_rfl
theorem cellsE : Tryd.prog.cellsOf 5 = 1 := by kernel_rfl
theorem table {W : World} (h : laidMetH Tryd.prog Rows.fconvFromUptoRow.laid W) : Lib.TabIs Tryd.prog W "math/bits.deBruijn64tab" .u8 [0, 1, 56, 2, 57, 49, 28, 3, 61, 58, 42, 50, 38, 29, 17, 4, 62, 47, 59, 36, 45, 43, 51, 22, 53, 39, 33, 30, 24, 18, 12, 5, 63, 55, 48, 27, 60, 41, 37, 16, 46, 35, 44, 21, 52, 32, 23, 11, 54, 26, 40, 15, 34, 20, 31, 10, 25, 14, 19, 9, 13, 8, 7, 6] :=
 Lib.tabIs_of_head (rest := []) gTab gTabType Tryd.underlying125 Tryd.underlying5 cellsE cellsT h
theorem same : ∀ i : Nat, i < 64 → ([0, 1, 56, 2, 57, 49, 28, 3, 61, 58, 42, 50, 38, 29, 17, 4, 62, 47, 59, 36, 45, 43, 51, 22, 53, 39, 33, 30, 24, 18, 12, 5, 63, 55, 48, 27, 60, 41, 37, 16, 46, 35, 44, 21, 52, 32, 23, 11, 54, 26, 40, 15, 34, 20, 31, 10, 25, 14, 19, 9, 13, 8, 7, 6] : List Int).getD i 0 = ((Lib.deBruijn64tab.getD i 0 : Nat) : Int) := by decide
theorem held {W : World} (h : laidMetH Tryd.prog Rows.fconvFromUptoRow.laid W) : PG.Tz W := by
 intro i hi
 have c := (table h).cell gTab i hi
 rw [same i hi] at c
 exact c
noncomputable def laidWorld (os : Os) : World :=
 { World.holding Tryd.prog os ⟨#[], #[], []⟩ with heap := (World.holding Tryd.prog os ⟨#[], #[], []⟩).heap.modify 0 fun
   | .cells _ t frozen => .cells #[.int .u8 0, .int .u8 1, .int .u8 56, .int .u8 2, .int .u8 57, .int .u8 49, .int .u8 28, .int .u8 3, .int .u8 61, .int .u8 58, .int .u8 42, .int .u8 50, .int .u8 38, .int .u8 29, .int .u8 17, .int .u8 4, .int .u8 62, .int .u8 47, .int .u8 59, .int .u8 36, .int .u8 45, .int .u8 43, .int .u8 51, .int .u8 22, .int .u8 53, .int .u8 39, .int .u8 33, .int .u8 30, .int .u8 24, .int .u8 18, .int .u8 12, .int .u8 5, .int .u8 63, .int .u8 55, .int .u8 48, .int .u8 27, .int .u8 60, .int .u8 41, .int .u8 37, .int .u8 16, .int .u8 46, .int .u8 35, .int .u8 44, .int .u8 21, .int .u8 52, .int .u8 32, .int .u8 23, .int .u8 11, .int .u8 54, .int .u8 26, .int .u8 40, .int .u8 15, .int .u8 34, .int .u8 20, .int .u8 31, .int .u8 10, .int .u8 25, .int .u8 14, .int .u8 19, .int .u8 9, .int .u8 13, .int .u8 8, .int .u8 7, .int .u8 6] t frozen
   | o => o }
theorem laid_met (os : Os) : laidMet Tryd.prog Rows.fconvFromUptoRow.laid ((laidWorld os).forCall (fun _ _ => 0) ⟨#[], #[.int .i64 0, .agg #[.bool false, .slice none 0 0, .int .i64 0], .int .i64 0], []⟩).memory :=
 laidMet_of_run' 8 (by kernel_rfl) (by kernel_rfl)
theorem reads (os : Os) {H : Type} (enc : TypeId × Value → H) : ∃ places, DataW.whole enc Tryd.prog ((laidWorld os).forCall (fun _ _ => 0) ⟨#[], #[.int .i64 0, .agg #[.bool false, .slice none 0 0, .int .i64 0], .int .i64 0], []⟩).memory Tryd.f11.params.toList Rows.fconvFromSpec.vars false (#[.int .i64 0, .agg #[.bool false, .slice none 0 0, .int .i64 0], .int .i64 0] : Array Value).toList 8 = some ([.lit (.int .i64 0), .agg [.lit (.bool false), .nil, .lit (.int .i64 0)], .lit (.int .i64 0)], [], places) :=
 ⟨[], by kernel_rfl⟩
theorem array3 {α : Type} {cs : Array α} (h : cs.size = 3) : ∃ c0 c1 c2, cs = #[c0, c1, c2] := by
 obtain ⟨l⟩ := cs
 match l, h with
 | [c0, c1, c2], _ => exact ⟨c0, c1, c2, rfl⟩
set_option maxHeartbeats 4000000 in
set_option maxRecDepth 100000 in
theorem lifted (os : Os) (started : os.Started) (H : Type) (enc : TypeId × Value → H) (F : Stop.Interp) :
  ReturnsInHanded {} Tryd.checked os 11 .any ((Rows.OpenSpec.upto Rows.fconvFromSpec).preRow enc Tryd.prog Tryd.f11 Rows.fconvFromUptoRow.domain false Rows.fconvFromUptoRow.laid) (((Rows.OpenSpec.upto Rows.fconvFromSpec).at F).post enc Tryd.prog Tryd.f11 false true false false) := by
 obtain ⟨places, hx⟩ := reads os enc
 refine returnsInHanded_of_row (C := Tryd.checked) (s := Rows.OpenSpec.upto Rows.fconvFromSpec) own started (by kernel_rfl) Tryd.func11
  (witness_row_at (enc := enc) (C := Tryd.checked) false (laidWorld os) #[.int .i64 0, .agg #[.bool false, .slice none 0 0, .int .i64 0], .int .i64 0] rfl (by kernel_rfl) (by kernel_rfl) (by kernel_rfl)
   (OpenSpec.preRow_of_cond 8 hx (by kernel_rfl) (fun k hk => by cases hk; kernel_rfl) (by kernel_rfl) (laid_met os))) ?_
 intro W base args ds gs before hval0 hW _ hk0 hsz0 hL _ _
 have hTz := held hL
 have hk : Rows.uptoSmall H (ds ++ gs) = true := hk0 _ rfl
 have hval : ∀ (j : Nat) t v, Tryd.f11.params[j]? = some t → args[j]? = some v → Value.okWide Tryd.prog W .any base t v := hval0
 have hW' := hW
 obtain ⟨p, q, hA0, hV, rfl, hfz, hnd⟩ := hW
 have hA : DataW.TrodAll enc Tryd.prog W 0 (fun _ => true) true Tryd.f11.params.toList args.toList ds p := hA0
 rw [Tryd.params11] at hA hval
 obtain ⟨v0, vs0, d0, ds0, p0, q0, hargs, rfl, rfl, h0, r0⟩ := trodAll_cons hA
 obtain ⟨v1, vs1, d1, ds1, p1, q1, rfl, rfl, rfl, h1, r1⟩ := trodAll_cons r0
 obtain ⟨v2, vs2, d2, ds2, p2, q2, rfl, rfl, rfl, h2, r2⟩ := trodAll_cons r1
 obtain ⟨rfl, rfl, rfl⟩ := trodAll_nil r2
 obtain rfl : args = #[v0, v1, v2] := by cases args; simp_all
 obtain ⟨rfl, rfl⟩ := trodVars_none hV
 have k0 := h0
 have lt0 : ∀ x ∈ p0, x.block < W.heap.size := by obtain ⟨m, hm⟩ := k0; exact DataW.trod_lt m _ _ _ hm
 have Q0 : Rows.uptoBulk d0 ≤ 1048576 := small_of hk (by simp)
 obtain ⟨a0, rfl⟩ := okWide_int Tryd.underlying3 (hval 0 3 v0 rfl rfl)
 obtain ⟨f0, h0⟩ := h0
 simp only [Value.cells] at h0
 obtain ⟨b0, e0, x0, w0⟩ := DataW.trod_int Tryd.underlying3 h0
 obtain rfl : a0 = b0 := by simpa using e0
 have k1 := h1
 have lt1 : ∀ x ∈ p1, x.block < W.heap.size := by obtain ⟨m, hm⟩ := k1; exact DataW.trod_lt m _ _ _ hm
 have Q1 : Rows.uptoBulk d1 ≤ 1048576 := small_of hk (by simp)
 obtain ⟨cs1, rfl, sz1⟩ := okWide_struct Tryd.underlying36 (hval 1 36 v1 rfl rfl)
 obtain ⟨g1_0, g1_1, g1_2, rfl⟩ := array3 (sz1.trans (show Tryd.prog.cellsOf 36 = 3 by kernel_rfl))
 obtain ⟨f1, h1⟩ := h1
 simp only [Value.cells] at h1
 obtain ⟨y1_0, y1_1, y1_2, n1, x1, _, t1_0, t1_1, t1_2⟩ := Deep.trod_struct3 Tryd.underlying36 h1
 simp only [show Tryd.prog.cellsOf 4 = 1 by kernel_rfl, List.drop_succ_cons, List.drop_zero, List.take_succ_cons, List.take_zero] at t1_0
 simp only [show Tryd.prog.cellsOf 22 = 1 by kernel_rfl, List.drop_succ_cons, List.drop_zero, List.take_succ_cons, List.take_zero] at t1_1
 simp only [show Tryd.prog.cellsOf 3 = 1 by kernel_rfl, List.drop_succ_cons, List.drop_zero, List.take_succ_cons, List.take_zero] at t1_2
 have k1 := congrArg Prod.fst x1
 simp only at k1
 have q1_0 : Rows.uptoBulk y1_0.1 ≤ 1048576 := bulk_part (k1 ▸ Q1) (by simp)
 have q1_1 : Rows.uptoBulk y1_1.1 ≤ 1048576 := bulk_part (k1 ▸ Q1) (by simp)
 have q1_2 : Rows.uptoBulk y1_2.1 ≤ 1048576 := bulk_part (k1 ▸ Q1) (by simp)
 obtain ⟨a1_0, e1_0, x1_0⟩ := DataW.trod_bool Tryd.underlying4 t1_0
 obtain rfl := (List.cons.inj e1_0).1
 obtain ⟨A1_1, c1_1, l1_1, e1_1, hr1_1, hc1_1, w1_1, b1_1, s1_1⟩ := ints_in Tryd.underlying22 Tryd.underlying34 (by kernel_rfl) t1_1
 obtain rfl := (List.cons.inj e1_1).1
 have y1_1 : l1_1.length ≤ 1048576 := Nat.le_trans b1_1 q1_1
 obtain ⟨a1_2, e1_2, x1_2, w1_2⟩ := DataW.trod_int Tryd.underlying3 t1_2
 obtain rfl := (List.cons.inj e1_2).1
 have k2 := h2
 have lt2 : ∀ x ∈ p2, x.block < W.heap.size := by obtain ⟨m, hm⟩ := k2; exact DataW.trod_lt m _ _ _ hm
 have Q2 : Rows.uptoBulk d2 ≤ 1048576 := small_of hk (by simp)
 obtain ⟨a2, rfl⟩ := okWide_int Tryd.underlying3 (hval 2 3 v2 rfl rfl)
 obtain ⟨f2, h2⟩ := h2
 simp only [Value.cells] at h2
 obtain ⟨b2, e2, x2, w2⟩ := DataW.trod_int Tryd.underlying3 h2
 obtain rfl : a2 = b2 := by simpa using e2
 clear hA0 hval0
 obtain ⟨kk, hh⟩ := Pure.FconvFrom a0 a1_0 l1_1 a1_2 a2 w0 y1_1 w1_1 w1_2 w2
 refine (PG.vernierlaw13_FconvFrom.calls kk a0 a1_0 A1_1 c1_1 l1_1 a1_2 a2 true W hr1_1 hc1_1 hTz hh).mono fun e W' ⟨he, bel⟩ => ?_
 subst he
 exact ⟨_, rfl, _, _, _, [], _, [], hW', trodAll_mk1 (shut_bool Tryd.underlying4 _), (trodAll_cons_mk (Below.trod laidOut (by kernel_rfl) (of_decide_eq_true (by kernel_rfl)) k0 bel lt0) (trodAll_cons_mk (Below.trod laidOut (by kernel_rfl) (of_decide_eq_true (by kernel_rfl)) k1 bel lt1) (trodAll_cons_mk (Below.trod laidOut (by kernel_rfl) (of_decide_eq_true (by kernel_rfl)) k2 bel lt2) trodAll_mk0))), rfl, bel.frame _, fun h => by cases h⟩
theorem over : Rows.fconvFromUptoRow.holds Tryd.pinned (Rows.OpenSpec.upto Rows.fconvFromSpec) :=
 OpenClaim.holds_of_cond 11 Tryd.f11 rfl rfl rfl rfl rfl rfl rfl ⟨rfl, rfl, rfl, rfl, rfl⟩ rfl rfl rfl rfl rfl (by kernel_rfl) Tryd.func11 (by kernel_rfl)
  (of_decide_eq_true (by kernel_rfl)) (by unfold Func.isWrapper; first | (rw [if_pos (by decide +kernel)]; kernel_rfl) | (rw [if_neg (by decide +kernel)]; exact ⟨rfl, rfl⟩))
  (fun os started H enc _ F => by rw [OpenClaim.pre_eq_preRow]; exact lifted os started H enc F)
theorem said : Rows.FconvFromUptoSaid := over
theorem plain (f : FuncId) (fn : Func) (hf : Tryd.pinned.checked.prog.funcNamed "vernier/vernierlaw13.FconvFrom" = some f) (hfn : Tryd.pinned.checked.prog.funcs[f]? = some fn) :
  false = Tryd.pinned.checked.prog.looks [] ∧ ∀ (j : Nat) t, fn.params[j]? = some t → Tryd.pinned.checked.prog.wantsStandIn t = false := by
 obtain rfl : f = 11 := Option.some.inj ((show Tryd.prog.funcNamed "vernier/vernierlaw13.FconvFrom" = some 11 by kernel_rfl).symm.trans hf) |>.symm
 obtain rfl : fn = Tryd.f11 := (Option.some.inj (Tryd.func11.symm.trans hfn)).symm
 refine ⟨by kernel_rfl, fun j t ht => ?_⟩
 rw [Tryd.params11] at ht
 match j, ht with
 | 0, ht =>
  obtain rfl : (3 : TypeId) = t := Option.some.inj ht
  exact (show Tryd.prog.wantsStandIn 3 = false by kernel_rfl)
 | 1, ht =>
  obtain rfl : (36 : TypeId) = t := Option.some.inj ht
  exact (show Tryd.prog.wantsStandIn 36 = false by kernel_rfl)
 | 2, ht =>
  obtain rfl : (3 : TypeId) = t := Option.some.inj ht
  exact (show Tryd.prog.wantsStandIn 3 = false by kernel_rfl)
 | j + 3, ht => cases ht
theorem proved : Rows.FconvFromUptoCardSaid :=
 Claim7.holds_tied_plain_at .later [] _ _ _ _ said (fun _ h => by cases h) (by kernel_rfl) (fun _ h => by cases h) fconvFromUpto_row_tie rfl ⟨rfl, rfl⟩ (by kernel_rfl) rfl plain (by kernel_rfl)
#print axioms proved
end Go.Proofs.YtjgdpjbkmcjbcaaDoor.fconvFromUpto
namespace Go.Proofs.YtjgdpjbkmcjbcaaDoor
theorem fconvFromUpto_holds : Rows.FconvFromUptoCardSaid := fconvFromUpto.proved
end Go.Proofs.YtjgdpjbkmcjbcaaDoor
