/- Contracts of Go functions: each call answers what the Lean function of its name answers. Written by a program of this session (vprint.py) round the print of the kit. -/
import Derived.Test.YtfmdjhfnbiekaaaQFaddSums12
import Derived.Test.YtfmdjhfnbiekaaaQFaddSums13
import Derived.Test.YtfmdjhfnbiekaaaQFaddSums14
import Derived.Test.YtfmdjhfnbiekaaaQFaddSums22
import Derived.Test.YtfmdjhfnbiekaaaQFaddSums25
import Derived.Test.YtfmdjhfnbiekaaaQFaddSums15
import Derived.Test.YtfmdjhfnbiekaaaQFaddSums17
namespace Go.Proofs.Ytfmdjhfnbiekaaa.PA
open Go.RowKit Go.Proofs.YtfmdjhfnbiekaaaW.PrintWords Go.Proofs.YtfmdjhfnbiekaaaW.PrintLast Go.Proofs.YtfmdjhfnbiekaaaW.PrintMore
attribute [local go_sem] max2_int min2_int max_two min_two max_three min_three max_four min_four
set_option linter.unusedVariables false
set_option linter.unusedSimpArgs false
attribute [local go_sem] fld24_0 fld24_1 fld136_1
def fadd_lift.f (a0 : Int) (a1 : Int) : Option (Int × Int) := if a1 = 0 then (some (0, a0)) else (if 0 ≤ (wrap64 (64 - a1)) then (if 0 ≤ a1 then (some (shr .u64 a0 (wrap64 (64 - a1)), shl .u64 a0 a1)) else (none)) else (none))
set_option maxHeartbeats 8000000 in
set_option maxRecDepth 100000 in
theorem fadd_lift.calls (a0 : Int) (a1 : Int) (r1 : Int) (r2 : Int) (w : World) (h : fadd_lift.f a0 a1 = some (r1, r2)) :
    Calls Try.prog 105 #[.int .u64 a0, .int .i64 a1] w fun e w' => e = .returned (.tuple #[.int .u64 r1, .int .u64 r2]) ∧ Drawn0 w w' := by
  have H : (if a1 = 0 then (some (0, a0)) else (if 0 ≤ (wrap64 (64 - a1)) then (if 0 ≤ a1 then (some (shr .u64 a0 (wrap64 (64 - a1)), shl .u64 a0 a1)) else (none)) else (none))) = some (r1, r2) := h
  clear h
  by_cases c3 : a1 = 0
  · rw [if_pos c3] at H
    have c3b0 : (a1 == 0) = true := beq_iff_eq.mpr c3
    have c3b1 : (a1 != 0) = false := bne_eq_false_iff_eq.mpr c3
    clear c3
    simp only [Option.some.injEq, Prod.mk.injEq] at H
    obtain ⟨rfl, rfl⟩ := H
    go_enter Try.func105, Try.ntmps105
    go_wp2
    repeat (go_quiet (fail); try go_wp2)
    go_ret2
    exact ⟨by first | rfl | (simp; done) | (simp [*]; done), by repeat (first | exact Drawn0.refl _ | apply Drawn0.step)⟩
  · rw [if_neg c3] at H
    have c3b0 : (a1 == 0) = false := beq_eq_false_iff_ne.mpr c3
    have c3b1 : (a1 != 0) = true := bne_iff_ne.mpr c3
    obtain ⟨ji4, hji4⟩ : ∃ j_ : Int, (wrap64 (64 - a1)) = j_ := ⟨_, rfl⟩
    replace H : (if 0 ≤ (ji4) then (if 0 ≤ a1 then (some (shr .u64 a0 (ji4), shl .u64 a0 a1)) else (none)) else (none)) = some (r1, r2) := by first | (rw [hji4] at H; exact H) | (simp only [hji4] at H ⊢; exact H)
    have hji4w : (IntKind.i64.wrap (64 - a1)) = ji4 := (i64_w _).trans hji4
    by_cases c5 : 0 ≤ (ji4)
    · rw [if_pos c5] at H
      have c5b0 := eq_true c5
      have c5b1 : decide (0 ≤ (ji4)) = true := decide_eq_true c5
      clear c5
      obtain ⟨ji6, hji6⟩ : ∃ j_ : Int, (shr .u64 a0 (ji4)) = j_ := ⟨_, rfl⟩
      replace H : (if 0 ≤ a1 then (some (ji6, shl .u64 a0 a1)) else (none)) = some (r1, r2) := by first | (rw [hji6] at H; exact H) | (simp only [hji6] at H ⊢; exact H)
      have hji6_ : (a0 / 2 ^ min (ji4).toNat 64) = ji6 := hji6
      have hji6z : (ji4) ≤ 64 → (a0 / 2 ^ (ji4).toNat) = ji6 := shr_small hji6
      by_cases c7 : 0 ≤ a1
      · rw [if_pos c7] at H
        have c7b0 := eq_true c7
        have c7b1 : decide (0 ≤ a1) = true := decide_eq_true c7
        clear c7
        obtain ⟨ji8, hji8⟩ : ∃ j_ : Int, (shl .u64 a0 a1) = j_ := ⟨_, rfl⟩
        replace H : (some (ji6, ji8)) = some (r1, r2) := by first | (rw [hji8] at H; exact H) | (simp only [hji8] at H ⊢; exact H)
        have hji8_ : (IntKind.u64.wrap (a0 * 2 ^ min a1.toNat 64)) = ji8 := hji8
        have hji8z : a1 ≤ 64 → (IntKind.u64.wrap (a0 * 2 ^ a1.toNat)) = ji8 := shl_small hji8
        simp only [Option.some.injEq, Prod.mk.injEq] at H
        obtain ⟨rfl, rfl⟩ := H
        go_enter Try.func105, Try.ntmps105
        go_wp2
        repeat (go_quiet (fail); try go_wp2)
        go_ret2
        exact ⟨by first | rfl | (simp; done) | (simp only [← hji4, ← hji6, ← hji8] <;> (first | rfl | simp)) | (simp [*]; done), by repeat (first | exact Drawn0.refl _ | apply Drawn0.step)⟩
      · rw [if_neg c7] at H
        exact absurd H (by simp)
    · rw [if_neg c5] at H
      exact absurd H (by simp)
def fadd_join.f (a0 : Int) (a1 : Int) (a2 : Int) (a3 : Bool) (a4 : Bool) : Option (Int × Int) := if a3 = true then (if a4 = true then ((bits_Sub64.f a1 a2 1).bind fun bt502 => (some (IntKind.u64.wrap (a0 - bt502.2), bt502.1))) else ((bits_Sub64.f a1 a2 0).bind fun bt504 => (some (IntKind.u64.wrap (a0 - bt504.2), bt504.1)))) else ((bits_Add64.f a1 a2 0).bind fun bt506 => (some (IntKind.u64.wrap (a0 + bt506.2), bt506.1)))
set_option maxHeartbeats 8000000 in
set_option maxRecDepth 100000 in
theorem fadd_join.calls (a0 : Int) (a1 : Int) (a2 : Int) (a3 : Bool) (a4 : Bool) (r1 : Int) (r2 : Int) (w : World) (h : fadd_join.f a0 a1 a2 a3 a4 = some (r1, r2)) :
    Calls Try.prog 106 #[.int .u64 a0, .int .u64 a1, .int .u64 a2, .bool a3, .bool a4] w fun e w' => e = .returned (.tuple #[.int .u64 r1, .int .u64 r2]) ∧ Drawn0 w w' := by
  have H : (if a3 = true then (if a4 = true then ((bits_Sub64.f a1 a2 1).bind fun bt502 => (some (IntKind.u64.wrap (a0 - bt502.2), bt502.1))) else ((bits_Sub64.f a1 a2 0).bind fun bt504 => (some (IntKind.u64.wrap (a0 - bt504.2), bt504.1)))) else ((bits_Add64.f a1 a2 0).bind fun bt506 => (some (IntKind.u64.wrap (a0 + bt506.2), bt506.1)))) = some (r1, r2) := h
  clear h
  by_cases c6 : a3 = true
  · subst c6
    have H1 : (if a4 = true then ((bits_Sub64.f a1 a2 1).bind fun bt502 => (some (IntKind.u64.wrap (a0 - bt502.2), bt502.1))) else ((bits_Sub64.f a1 a2 0).bind fun bt504 => (some (IntKind.u64.wrap (a0 - bt504.2), bt504.1)))) = some (r1, r2) := by rw [if_pos rfl] at H; exact H
    clear H
    have H := H1
    clear H1
    by_cases c7 : a4 = true
    · subst c7
      have H1 : ((bits_Sub64.f a1 a2 1).bind fun bt502 => (some (IntKind.u64.wrap (a0 - bt502.2), bt502.1))) = some (r1, r2) := by rw [if_pos rfl] at H; exact H
      clear H
      have H := H1
      clear H1
      replace H := Option.bind_eq_some_iff.mp H
      obtain ⟨⟨t502, t503⟩, A80, H⟩ := H
      replace H : (some (IntKind.u64.wrap (a0 - t503), t502)) = some (r1, r2) := H
      have A8 := Aside0.mk A80
      clear A80
      simp only [Option.some.injEq, Prod.mk.injEq] at H
      obtain ⟨rfl, rfl⟩ := H
      go_enter Try.func106, Try.ntmps106
      go_wp2_with (first | ((with_reducible refine gate_callee (f := 103) rfl ?_); refine goesX_ (some 34) rfl rfl #[.int .u64 a1, .int .u64 a2, .int .u64 1] rfl (by (try simp only [List.map_toArray, List.map_cons, List.map_nil]); first | done | rfl) ?_; (with_reducible refine (bits_Sub64.calls a1 a2 1 t502 t503 _ A8.out).mono ?_); rintro e w' ⟨rfl, ⟨nd, rfl⟩⟩; refine ⟨_, rfl, ?_⟩))
      go_ret2
      exact ⟨by first | rfl | (simp; done) | (simp [*]; done), by repeat (first | exact Drawn0.refl _ | apply Drawn0.step)⟩
    · replace c7 := Bool.eq_false_iff.mpr c7
      subst c7
      have H1 : ((bits_Sub64.f a1 a2 0).bind fun bt504 => (some (IntKind.u64.wrap (a0 - bt504.2), bt504.1))) = some (r1, r2) := by rw [if_neg (show ¬ (false = true) by decide)] at H; exact H
      clear H
      have H := H1
      clear H1
      replace H := Option.bind_eq_some_iff.mp H
      obtain ⟨⟨t504, t505⟩, A90, H⟩ := H
      replace H : (some (IntKind.u64.wrap (a0 - t505), t504)) = some (r1, r2) := H
      have A9 := Aside0.mk A90
      clear A90
      simp only [Option.some.injEq, Prod.mk.injEq] at H
      obtain ⟨rfl, rfl⟩ := H
      go_enter Try.func106, Try.ntmps106
      go_wp2_with (first | ((with_reducible refine gate_callee (f := 103) rfl ?_); refine goesX_ (some 34) rfl rfl #[.int .u64 a1, .int .u64 a2, .int .u64 0] rfl (by (try simp only [List.map_toArray, List.map_cons, List.map_nil]); first | done | rfl) ?_; (with_reducible refine (bits_Sub64.calls a1 a2 0 t504 t505 _ A9.out).mono ?_); rintro e w' ⟨rfl, ⟨nd, rfl⟩⟩; refine ⟨_, rfl, ?_⟩))
      go_ret2
      exact ⟨by first | rfl | (simp; done) | (simp [*]; done), by repeat (first | exact Drawn0.refl _ | apply Drawn0.step)⟩
  · replace c6 := Bool.eq_false_iff.mpr c6
    subst c6
    have H1 : ((bits_Add64.f a1 a2 0).bind fun bt506 => (some (IntKind.u64.wrap (a0 + bt506.2), bt506.1))) = some (r1, r2) := by rw [if_neg (show ¬ (false = true) by decide)] at H; exact H
    clear H
    have H := H1
    clear H1
    replace H := Option.bind_eq_some_iff.mp H
    obtain ⟨⟨t506, t507⟩, A100, H⟩ := H
    replace H : (some (IntKind.u64.wrap (a0 + t507), t506)) = some (r1, r2) := H
    have A10 := Aside0.mk A100
    clear A100
    simp only [Option.some.injEq, Prod.mk.injEq] at H
    obtain ⟨rfl, rfl⟩ := H
    go_enter Try.func106, Try.ntmps106
    go_wp2_with (first | ((with_reducible refine gate_callee (f := 88) rfl ?_); refine goesX_ (some 22) rfl rfl #[.int .u64 a1, .int .u64 a2, .int .u64 0] rfl (by (try simp only [List.map_toArray, List.map_cons, List.map_nil]); first | done | rfl) ?_; (with_reducible refine (bits_Add64.calls a1 a2 0 t506 t507 _ A10.out).mono ?_); rintro e w' ⟨rfl, ⟨nd, rfl⟩⟩; refine ⟨_, rfl, ?_⟩))
    go_ret2
    exact ⟨by first | rfl | (simp; done) | (simp [*]; done), by repeat (first | exact Drawn0.refl _ | apply Drawn0.step)⟩
def fadd_sum.f (k : Nat) (a0 : Int) (a1 : Int) (a2 : Int) : Option (Int × Int) := (parts_Split.f a0).bind fun bt508 => ((parts_Split.f a1).bind fun bt512 => (if (wrap64 (bt508.2.2.1 - bt512.2.2.1)) ≤ 60 then ((fadd_lift.f bt508.2.1 (wrap64 (bt508.2.2.1 - bt512.2.2.1))).bind fun bt516 => ((fadd_join.f bt516.1 bt516.2 bt512.2.1 (bt508.1 != bt512.1) false).bind fun bt518 => ((parts_Round.f k bt508.1 bt518.1 bt518.2 bt512.2.2.1 false a2).bind fun bt520 => (some (bt520.1, bt520.2))))) else ((fadd_lift.f bt508.2.1 62).bind fun bt522 => (if (mn (wrap64 ((wrap64 (bt508.2.2.1 - bt512.2.2.1)) - 62)) 116) ≤ 0 then (if 0 ≤ (wrap64 (-(mn (wrap64 ((wrap64 (bt508.2.2.1 - bt512.2.2.1)) - 62)) 116))) then ((fadd_join.f bt522.1 bt522.2 (shl .u64 bt512.2.1 (wrap64 (-(mn (wrap64 ((wrap64 (bt508.2.2.1 - bt512.2.2.1)) - 62)) 116)))) (bt508.1 != bt512.1) false).bind fun bt524 => ((parts_Round.f k bt508.1 bt524.1 bt524.2 (wrap64 (bt508.2.2.1 - 62)) false a2).bind fun bt526 => (some (bt526.1, bt526.2)))) else (none)) else (if (mn (wrap64 ((wrap64 (bt508.2.2.1 - bt512.2.2.1)) - 62)) 116) < 64 then (if 0 ≤ (mn (wrap64 ((wrap64 (bt508.2.2.1 - bt512.2.2.1)) - 62)) 116) then (if 0 ≤ (wrap64 (64 - (mn (wrap64 ((wrap64 (bt508.2.2.1 - bt512.2.2.1)) - 62)) 116))) then ((fadd_join.f bt522.1 bt522.2 (shr .u64 bt512.2.1 (mn (wrap64 ((wrap64 (bt508.2.2.1 - bt512.2.2.1)) - 62)) 116)) (bt508.1 != bt512.1) ((shl .u64 bt512.2.1 (wrap64 (64 - (mn (wrap64 ((wrap64 (bt508.2.2.1 - bt512.2.2.1)) - 62)) 116)))) != 0)).bind fun bt528 => ((parts_Round.f k bt508.1 bt528.1 bt528.2 (wrap64 (bt508.2.2.1 - 62)) ((shl .u64 bt512.2.1 (wrap64 (64 - (mn (wrap64 ((wrap64 (bt508.2.2.1 - bt512.2.2.1)) - 62)) 116)))) != 0) a2).bind fun bt530 => (some (bt530.1, bt530.2)))) else (none)) else (none)) else ((fadd_join.f bt522.1 bt522.2 0 (bt508.1 != bt512.1) (bt512.2.1 != 0)).bind fun bt532 => ((parts_Round.f k bt508.1 bt532.1 bt532.2 (wrap64 (bt508.2.2.1 - 62)) (bt512.2.1 != 0) a2).bind fun bt534 => (some (bt534.1, bt534.2)))))))))
set_option maxHeartbeats 8000000 in
set_option maxRecDepth 100000 in
theorem fadd_sum.calls (k : Nat) (a0 : Int) (a1 : Int) (a2 : Int) (r1 : Int) (r2 : Int) (w : World) (h : fadd_sum.f k a0 a1 a2 = some (r1, r2)) :
    Calls Try.prog 77 #[.int .u64 a0, .int .u64 a1, .int .i64 a2] w fun e w' => e = .returned (.tuple #[.int .u64 r1, .int .i64 r2]) ∧ Below w.heap.size w w' := by
  have HB := Aside0.mk (Below.refl w.heap.size w)
  have H : ((parts_Split.f a0).bind fun bt508 => ((parts_Split.f a1).bind fun bt512 => (if (wrap64 (bt508.2.2.1 - bt512.2.2.1)) ≤ 60 then ((fadd_lift.f bt508.2.1 (wrap64 (bt508.2.2.1 - bt512.2.2.1))).bind fun bt516 => ((fadd_join.f bt516.1 bt516.2 bt512.2.1 (bt508.1 != bt512.1) false).bind fun bt518 => ((parts_Round.f k bt508.1 bt518.1 bt518.2 bt512.2.2.1 false a2).bind fun bt520 => (some (bt520.1, bt520.2))))) else ((fadd_lift.f bt508.2.1 62).bind fun bt522 => (if (mn (wrap64 ((wrap64 (bt508.2.2.1 - bt512.2.2.1)) - 62)) 116) ≤ 0 then (if 0 ≤ (wrap64 (-(mn (wrap64 ((wrap64 (bt508.2.2.1 - bt512.2.2.1)) - 62)) 116))) then ((fadd_join.f bt522.1 bt522.2 (shl .u64 bt512.2.1 (wrap64 (-(mn (wrap64 ((wrap64 (bt508.2.2.1 - bt512.2.2.1)) - 62)) 116)))) (bt508.1 != bt512.1) false).bind fun bt524 => ((parts_Round.f k bt508.1 bt524.1 bt524.2 (wrap64 (bt508.2.2.1 - 62)) false a2).bind fun bt526 => (some (bt526.1, bt526.2)))) else (none)) else (if (mn (wrap64 ((wrap64 (bt508.2.2.1 - bt512.2.2.1)) - 62)) 116) < 64 then (if 0 ≤ (mn (wrap64 ((wrap64 (bt508.2.2.1 - bt512.2.2.1)) - 62)) 116) then (if 0 ≤ (wrap64 (64 - (mn (wrap64 ((wrap64 (bt508.2.2.1 - bt512.2.2.1)) - 62)) 116))) then ((fadd_join.f bt522.1 bt522.2 (shr .u64 bt512.2.1 (mn (wrap64 ((wrap64 (bt508.2.2.1 - bt512.2.2.1)) - 62)) 116)) (bt508.1 != bt512.1) ((shl .u64 bt512.2.1 (wrap64 (64 - (mn (wrap64 ((wrap64 (bt508.2.2.1 - bt512.2.2.1)) - 62)) 116)))) != 0)).bind fun bt528 => ((parts_Round.f k bt508.1 bt528.1 bt528.2 (wrap64 (bt508.2.2.1 - 62)) ((shl .u64 bt512.2.1 (wrap64 (64 - (mn (wrap64 ((wrap64 (bt508.2.2.1 - bt512.2.2.1)) - 62)) 116)))) != 0) a2).bind fun bt530 => (some (bt530.1, bt530.2)))) else (none)) else (none)) else ((fadd_join.f bt522.1 bt522.2 0 (bt508.1 != bt512.1) (bt512.2.1 != 0)).bind fun bt532 => ((parts_Round.f k bt508.1 bt532.1 bt532.2 (wrap64 (bt508.2.2.1 - 62)) (bt512.2.1 != 0) a2).bind fun bt534 => (some (bt534.1, bt534.2)))))))))) = some (r1, r2) := h
  clear h
  replace H := Option.bind_eq_some_iff.mp H
  obtain ⟨⟨t508, t509, t510, t511⟩, A40, H⟩ := H
  replace H : ((parts_Split.f a1).bind fun bt512 => (if (wrap64 (t510 - bt512.2.2.1)) ≤ 60 then ((fadd_lift.f t509 (wrap64 (t510 - bt512.2.2.1))).bind fun bt516 => ((fadd_join.f bt516.1 bt516.2 bt512.2.1 (t508 != bt512.1) false).bind fun bt518 => ((parts_Round.f k t508 bt518.1 bt518.2 bt512.2.2.1 false a2).bind fun bt520 => (some (bt520.1, bt520.2))))) else ((fadd_lift.f t509 62).bind fun bt522 => (if (mn (wrap64 ((wrap64 (t510 - bt512.2.2.1)) - 62)) 116) ≤ 0 then (if 0 ≤ (wrap64 (-(mn (wrap64 ((wrap64 (t510 - bt512.2.2.1)) - 62)) 116))) then ((fadd_join.f bt522.1 bt522.2 (shl .u64 bt512.2.1 (wrap64 (-(mn (wrap64 ((wrap64 (t510 - bt512.2.2.1)) - 62)) 116)))) (t508 != bt512.1) false).bind fun bt524 => ((parts_Round.f k t508 bt524.1 bt524.2 (wrap64 (t510 - 62)) false a2).bind fun bt526 => (some (bt526.1, bt526.2)))) else (none)) else (if (mn (wrap64 ((wrap64 (t510 - bt512.2.2.1)) - 62)) 116) < 64 then (if 0 ≤ (mn (wrap64 ((wrap64 (t510 - bt512.2.2.1)) - 62)) 116) then (if 0 ≤ (wrap64 (64 - (mn (wrap64 ((wrap64 (t510 - bt512.2.2.1)) - 62)) 116))) then ((fadd_join.f bt522.1 bt522.2 (shr .u64 bt512.2.1 (mn (wrap64 ((wrap64 (t510 - bt512.2.2.1)) - 62)) 116)) (t508 != bt512.1) ((shl .u64 bt512.2.1 (wrap64 (64 - (mn (wrap64 ((wrap64 (t510 - bt512.2.2.1)) - 62)) 116)))) != 0)).bind fun bt528 => ((parts_Round.f k t508 bt528.1 bt528.2 (wrap64 (t510 - 62)) ((shl .u64 bt512.2.1 (wrap64 (64 - (mn (wrap64 ((wrap64 (t510 - bt512.2.2.1)) - 62)) 116)))) != 0) a2).bind fun bt530 => (some (bt530.1, bt530.2)))) else (none)) else (none)) else ((fadd_join.f bt522.1 bt522.2 0 (t508 != bt512.1) (bt512.2.1 != 0)).bind fun bt532 => ((parts_Round.f k t508 bt532.1 bt532.2 (wrap64 (t510 - 62)) (bt512.2.1 != 0) a2).bind fun bt534 => (some (bt534.1, bt534.2))))))))) = some (r1, r2) := H
  have A4 := Aside0.mk A40
  clear A40
  replace H := Option.bind_eq_some_iff.mp H
  obtain ⟨⟨t512, t513, t514, t515⟩, A50, H⟩ := H
  replace H : (if (wrap64 (t510 - t514)) ≤ 60 then ((fadd_lift.f t509 (wrap64 (t510 - t514))).bind fun bt516 => ((fadd_join.f bt516.1 bt516.2 t513 (t508 != t512) false).bind fun bt518 => ((parts_Round.f k t508 bt518.1 bt518.2 t514 false a2).bind fun bt520 => (some (bt520.1, bt520.2))))) else ((fadd_lift.f t509 62).bind fun bt522 => (if (mn (wrap64 ((wrap64 (t510 - t514)) - 62)) 116) ≤ 0 then (if 0 ≤ (wrap64 (-(mn (wrap64 ((wrap64 (t510 - t514)) - 62)) 116))) then ((fadd_join.f bt522.1 bt522.2 (shl .u64 t513 (wrap64 (-(mn (wrap64 ((wrap64 (t510 - t514)) - 62)) 116)))) (t508 != t512) false).bind fun bt524 => ((parts_Round.f k t508 bt524.1 bt524.2 (wrap64 (t510 - 62)) false a2).bind fun bt526 => (some (bt526.1, bt526.2)))) else (none)) else (if (mn (wrap64 ((wrap64 (t510 - t514)) - 62)) 116) < 64 then (if 0 ≤ (mn (wrap64 ((wrap64 (t510 - t514)) - 62)) 116) then (if 0 ≤ (wrap64 (64 - (mn (wrap64 ((wrap64 (t510 - t514)) - 62)) 116))) then ((fadd_join.f bt522.1 bt522.2 (shr .u64 t513 (mn (wrap64 ((wrap64 (t510 - t514)) - 62)) 116)) (t508 != t512) ((shl .u64 t513 (wrap64 (64 - (mn (wrap64 ((wrap64 (t510 - t514)) - 62)) 116)))) != 0)).bind fun bt528 => ((parts_Round.f k t508 bt528.1 bt528.2 (wrap64 (t510 - 62)) ((shl .u64 t513 (wrap64 (64 - (mn (wrap64 ((wrap64 (t510 - t514)) - 62)) 116)))) != 0) a2).bind fun bt530 => (some (bt530.1, bt530.2)))) else (none)) else (none)) else ((fadd_join.f bt522.1 bt522.2 0 (t508 != t512) (t513 != 0)).bind fun bt532 => ((parts_Round.f k t508 bt532.1 bt532.2 (wrap64 (t510 - 62)) (t513 != 0) a2).bind fun bt534 => (some (bt534.1, bt534.2)))))))) = some (r1, r2) := H
  have A5 := Aside0.mk A50
  clear A50
  by_cases c6 : (wrap64 (t510 - t514)) ≤ 60
  · rw [if_pos c6] at H
    have c6b0 : decide ((wrap64 (t510 - t514)) ≤ 60) = true := decide_eq_true c6
    clear c6
    replace H := Option.bind_eq_some_iff.mp H
    obtain ⟨⟨t516, t517⟩, A70, H⟩ := H
    replace H : ((fadd_join.f t516 t517 t513 (t508 != t512) false).bind fun bt518 => ((parts_Round.f k t508 bt518.1 bt518.2 t514 false a2).bind fun bt520 => (some (bt520.1, bt520.2)))) = some (r1, r2) := H
    have A7 := Aside0.mk A70
    clear A70
    replace H := Option.bind_eq_some_iff.mp H
    obtain ⟨⟨t518, t519⟩, A80, H⟩ := H
    replace H : ((parts_Round.f k t508 t518 t519 t514 false a2).bind fun bt520 => (some (bt520.1, bt520.2))) = some (r1, r2) := H
    have A8 := Aside0.mk A80
    clear A80
    replace H := Option.bind_eq_some_iff.mp H
    obtain ⟨⟨t520, t521⟩, A90, H⟩ := H
    replace H : (some (t520, t521)) = some (r1, r2) := H
    have A9 := Aside0.mk A90
    clear A90
    simp only [Option.some.injEq, Prod.mk.injEq] at H
    obtain ⟨rfl, rfl⟩ := H
    go_enter Try.func77, Try.ntmps77
    go_wp2_with (first | (go_at_call 95; (with_reducible refine (parts_Split.calls a0 t508 t509 t510 t511 _ A4.out).mono ?_); rintro e w' ⟨rfl, ⟨nd, rfl⟩⟩; (try first | exact ⟨rfl, _, World.drewN_drewN _ _ _⟩ | exact ⟨rfl, _, Eq.trans (World.drewN_drewN _ _ _) (congrArg (World.drewN _) (Nat.add_assoc _ _ _))⟩)) | (go_at_call 95; (with_reducible refine (parts_Split.calls a1 t512 t513 t514 t515 _ A5.out).mono ?_); rintro e w' ⟨rfl, ⟨nd, rfl⟩⟩; (try first | exact ⟨rfl, _, World.drewN_drewN _ _ _⟩ | exact ⟨rfl, _, Eq.trans (World.drewN_drewN _ _ _) (congrArg (World.drewN _) (Nat.add_assoc _ _ _))⟩)) | (go_at_call 105; (with_reducible refine (fadd_lift.calls t509 (wrap64 (t510 - t514)) t516 t517 _ A7.out).mono ?_); rintro e w' ⟨rfl, ⟨nd, rfl⟩⟩; (try first | exact ⟨rfl, _, World.drewN_drewN _ _ _⟩ | exact ⟨rfl, _, Eq.trans (World.drewN_drewN _ _ _) (congrArg (World.drewN _) (Nat.add_assoc _ _ _))⟩)) | (go_at_call 106; (refine (fadd_join.calls t516 t517 t513 (t508 != t512) false t518 t519 _ A8.out).mono ?_); rintro e w' ⟨rfl, ⟨nd, rfl⟩⟩; (try first | exact ⟨rfl, _, World.drewN_drewN _ _ _⟩ | exact ⟨rfl, _, Eq.trans (World.drewN_drewN _ _ _) (congrArg (World.drewN _) (Nat.add_assoc _ _ _))⟩)) | (go_at_call 97; (with_reducible refine (parts_Round.calls k t508 t518 t519 t514 false a2 t520 t521 _ A9.out).mono ?_); rintro e w10 ⟨rfl, hb⟩; have n0_ := Aside0.mk (below_step (by repeat (first | (with_reducible first | exact HB.out | apply below_alloc | apply pw_below_drewN | apply below_drew1) | exact HB.out)) hb); clear HB; have HB := n0_; clear n0_; (try clear hb); (try clear hb2); (try clear hk); (try clear hi)))
    repeat (go_quiet (first | (go_at_call 95; (with_reducible refine (parts_Split.calls a0 t508 t509 t510 t511 _ A4.out).mono ?_); rintro e w' ⟨rfl, ⟨nd, rfl⟩⟩; (try first | exact ⟨rfl, _, World.drewN_drewN _ _ _⟩ | exact ⟨rfl, _, Eq.trans (World.drewN_drewN _ _ _) (congrArg (World.drewN _) (Nat.add_assoc _ _ _))⟩)) | (go_at_call 95; (with_reducible refine (parts_Split.calls a1 t512 t513 t514 t515 _ A5.out).mono ?_); rintro e w' ⟨rfl, ⟨nd, rfl⟩⟩; (try first | exact ⟨rfl, _, World.drewN_drewN _ _ _⟩ | exact ⟨rfl, _, Eq.trans (World.drewN_drewN _ _ _) (congrArg (World.drewN _) (Nat.add_assoc _ _ _))⟩)) | (go_at_call 105; (with_reducible refine (fadd_lift.calls t509 (wrap64 (t510 - t514)) t516 t517 _ A7.out).mono ?_); rintro e w' ⟨rfl, ⟨nd, rfl⟩⟩; (try first | exact ⟨rfl, _, World.drewN_drewN _ _ _⟩ | exact ⟨rfl, _, Eq.trans (World.drewN_drewN _ _ _) (congrArg (World.drewN _) (Nat.add_assoc _ _ _))⟩)) | (go_at_call 106; (refine (fadd_join.calls t516 t517 t513 (t508 != t512) false t518 t519 _ A8.out).mono ?_); rintro e w' ⟨rfl, ⟨nd, rfl⟩⟩; (try first | exact ⟨rfl, _, World.drewN_drewN _ _ _⟩ | exact ⟨rfl, _, Eq.trans (World.drewN_drewN _ _ _) (congrArg (World.drewN _) (Nat.add_assoc _ _ _))⟩)) | (go_at_call 97; (with_reducible refine (parts_Round.calls k t508 t518 t519 t514 false a2 t520 t521 _ A9.out).mono ?_); rintro e w10 ⟨rfl, hb⟩; have n0_ := Aside0.mk (below_step (by repeat (first | (with_reducible first | exact HB.out | apply below_alloc | apply pw_below_drewN | apply below_drew1) | exact HB.out)) hb); clear HB; have HB := n0_; clear n0_; (try clear hb); (try clear hb2); (try clear hk); (try clear hi))); try go_wp2_with (first | (go_at_call 95; (with_reducible refine (parts_Split.calls a0 t508 t509 t510 t511 _ A4.out).mono ?_); rintro e w' ⟨rfl, ⟨nd, rfl⟩⟩; (try first | exact ⟨rfl, _, World.drewN_drewN _ _ _⟩ | exact ⟨rfl, _, Eq.trans (World.drewN_drewN _ _ _) (congrArg (World.drewN _) (Nat.add_assoc _ _ _))⟩)) | (go_at_call 95; (with_reducible refine (parts_Split.calls a1 t512 t513 t514 t515 _ A5.out).mono ?_); rintro e w' ⟨rfl, ⟨nd, rfl⟩⟩; (try first | exact ⟨rfl, _, World.drewN_drewN _ _ _⟩ | exact ⟨rfl, _, Eq.trans (World.drewN_drewN _ _ _) (congrArg (World.drewN _) (Nat.add_assoc _ _ _))⟩)) | (go_at_call 105; (with_reducible refine (fadd_lift.calls t509 (wrap64 (t510 - t514)) t516 t517 _ A7.out).mono ?_); rintro e w' ⟨rfl, ⟨nd, rfl⟩⟩; (try first | exact ⟨rfl, _, World.drewN_drewN _ _ _⟩ | exact ⟨rfl, _, Eq.trans (World.drewN_drewN _ _ _) (congrArg (World.drewN _) (Nat.add_assoc _ _ _))⟩)) | (go_at_call 106; (refine (fadd_join.calls t516 t517 t513 (t508 != t512) false t518 t519 _ A8.out).mono ?_); rintro e w' ⟨rfl, ⟨nd, rfl⟩⟩; (try first | exact ⟨rfl, _, World.drewN_drewN _ _ _⟩ | exact ⟨rfl, _, Eq.trans (World.drewN_drewN _ _ _) (congrArg (World.drewN _) (Nat.add_assoc _ _ _))⟩)) | (go_at_call 97; (with_reducible refine (parts_Round.calls k t508 t518 t519 t514 false a2 t520 t521 _ A9.out).mono ?_); rintro e w10 ⟨rfl, hb⟩; have n0_ := Aside0.mk (below_step (by repeat (first | (with_reducible first | exact HB.out | apply below_alloc | apply pw_below_drewN | apply below_drew1) | exact HB.out)) hb); clear HB; have HB := n0_; clear n0_; (try clear hb); (try clear hb2); (try clear hk); (try clear hi))))
    go_ret2
    exact ⟨by first | rfl | (simp [errW_none, errW_some] <;> rfl) | (simp [*, errW_none, errW_some] <;> rfl), by repeat (first | (with_reducible first | exact HB.out | apply below_alloc | apply pw_below_drewN | apply below_drew1) | exact HB.out)⟩
  · rw [if_neg c6] at H
    have c6b0 : decide ((wrap64 (t510 - t514)) ≤ 60) = false := decide_eq_false c6
    clear c6
    replace H := Option.bind_eq_some_iff.mp H
    obtain ⟨⟨t522, t523⟩, A110, H⟩ := H
    replace H : (if (mn (wrap64 ((wrap64 (t510 - t514)) - 62)) 116) ≤ 0 then (if 0 ≤ (wrap64 (-(mn (wrap64 ((wrap64 (t510 - t514)) - 62)) 116))) then ((fadd_join.f t522 t523 (shl .u64 t513 (wrap64 (-(mn (wrap64 ((wrap64 (t510 - t514)) - 62)) 116)))) (t508 != t512) false).bind fun bt524 => ((parts_Round.f k t508 bt524.1 bt524.2 (wrap64 (t510 - 62)) false a2).bind fun bt526 => (some (bt526.1, bt526.2)))) else (none)) else (if (mn (wrap64 ((wrap64 (t510 - t514)) - 62)) 116) < 64 then (if 0 ≤ (mn (wrap64 ((wrap64 (t510 - t514)) - 62)) 116) then (if 0 ≤ (wrap64 (64 - (mn (wrap64 ((wrap64 (t510 - t514)) - 62)) 116))) then ((fadd_join.f t522 t523 (shr .u64 t513 (mn (wrap64 ((wrap64 (t510 - t514)) - 62)) 116)) (t508 != t512) ((shl .u64 t513 (wrap64 (64 - (mn (wrap64 ((wrap64 (t510 - t514)) - 62)) 116)))) != 0)).bind fun bt528 => ((parts_Round.f k t508 bt528.1 bt528.2 (wrap64 (t510 - 62)) ((shl .u64 t513 (wrap64 (64 - (mn (wrap64 ((wrap64 (t510 - t514)) - 62)) 116)))) != 0) a2).bind fun bt530 => (some (bt530.1, bt530.2)))) else (none)) else (none)) else ((fadd_join.f t522 t523 0 (t508 != t512) (t513 != 0)).bind fun bt532 => ((parts_Round.f k t508 bt532.1 bt532.2 (wrap64 (t510 - 62)) (t513 != 0) a2).bind fun bt534 => (some (bt534.1, bt534.2)))))) = some (r1, r2) := H
    have A11 := Aside0.mk A110
    clear A110
    obtain ⟨ji12, hji12⟩ : ∃ j_ : Int, (mn (wrap64 ((wrap64 (t510 - t514)) - 62)) 116) = j_ := ⟨_, rfl⟩
    replace H : (if (ji12) ≤ 0 then (if 0 ≤ (wrap64 (-(ji12))) then ((fadd_join.f t522 t523 (shl .u64 t513 (wrap64 (-(ji12)))) (t508 != t512) false).bind fun bt524 => ((parts_Round.f k t508 bt524.1 bt524.2 (wrap64 (t510 - 62)) false a2).bind fun bt526 => (some (bt526.1, bt526.2)))) else (none)) else (if (ji12) < 64 then (if 0 ≤ (ji12) then (if 0 ≤ (wrap64 (64 - (ji12))) then ((fadd_join.f t522 t523 (shr .u64 t513 (ji12)) (t508 != t512) ((shl .u64 t513 (wrap64 (64 - (ji12)))) != 0)).bind fun bt528 => ((parts_Round.f k t508 bt528.1 bt528.2 (wrap64 (t510 - 62)) ((shl .u64 t513 (wrap64 (64 - (ji12)))) != 0) a2).bind fun bt530 => (some (bt530.1, bt530.2)))) else (none)) else (none)) else ((fadd_join.f t522 t523 0 (t508 != t512) (t513 != 0)).bind fun bt532 => ((parts_Round.f k t508 bt532.1 bt532.2 (wrap64 (t510 - 62)) (t513 != 0) a2).bind fun bt534 => (some (bt534.1, bt534.2)))))) = some (r1, r2) := by first | (rw [hji12] at H; exact H) | (simp only [hji12] at H ⊢; exact H)
    (try rw [hji12] at A4)
    (try rw [hji12] at A5)
    (try rw [hji12] at A11)
    (try (have hji12h : ji12 ≤ 116 := by (rw [← hji12]; unfold mn; (repeat' split) <;> omega)))
    (try (have hji12g : ji12 ≤ 64 := by omega))
    have hji12_ : (if 116 < (wrap64 ((wrap64 (t510 - t514)) - 62)) then 116 else (wrap64 ((wrap64 (t510 - t514)) - 62))) = ji12 := hji12
    by_cases c13 : (ji12) ≤ 0
    · rw [if_pos c13] at H
      have c13b0 : decide ((ji12) ≤ 0) = true := decide_eq_true c13
      clear c13
      obtain ⟨ji14, hji14⟩ : ∃ j_ : Int, (wrap64 (-(ji12))) = j_ := ⟨_, rfl⟩
      replace H : (if 0 ≤ (ji14) then ((fadd_join.f t522 t523 (shl .u64 t513 (ji14)) (t508 != t512) false).bind fun bt524 => ((parts_Round.f k t508 bt524.1 bt524.2 (wrap64 (t510 - 62)) false a2).bind fun bt526 => (some (bt526.1, bt526.2)))) else (none)) = some (r1, r2) := by first | (rw [hji14] at H; exact H) | (simp only [hji14] at H ⊢; exact H)
      (try rw [hji14] at A4)
      (try rw [hji14] at A5)
      (try rw [hji14] at A11)
      have hji14w : (IntKind.i64.wrap (-(ji12))) = ji14 := (i64_w _).trans hji14
      by_cases c15 : 0 ≤ (ji14)
      · rw [if_pos c15] at H
        have c15b0 := eq_true c15
        have c15b1 : decide (0 ≤ (ji14)) = true := decide_eq_true c15
        clear c15
        obtain ⟨ji16, hji16⟩ : ∃ j_ : Int, (shl .u64 t513 (ji14)) = j_ := ⟨_, rfl⟩
        replace H : ((fadd_join.f t522 t523 (ji16) (t508 != t512) false).bind fun bt524 => ((parts_Round.f k t508 bt524.1 bt524.2 (wrap64 (t510 - 62)) false a2).bind fun bt526 => (some (bt526.1, bt526.2)))) = some (r1, r2) := by first | (rw [hji16] at H; exact H) | (simp only [hji16] at H ⊢; exact H)
        (try rw [hji16] at A4)
        (try rw [hji16] at A5)
        (try rw [hji16] at A11)
        have hji16_ : (IntKind.u64.wrap (t513 * 2 ^ min (ji14).toNat 64)) = ji16 := hji16
        have hji16z : (ji14) ≤ 64 → (IntKind.u64.wrap (t513 * 2 ^ (ji14).toNat)) = ji16 := shl_small hji16
        replace H := Option.bind_eq_some_iff.mp H
        obtain ⟨⟨t524, t525⟩, A170, H⟩ := H
        replace H : ((parts_Round.f k t508 t524 t525 (wrap64 (t510 - 62)) false a2).bind fun bt526 => (some (bt526.1, bt526.2))) = some (r1, r2) := H
        have A17 := Aside0.mk A170
        clear A170
        replace H := Option.bind_eq_some_iff.mp H
        obtain ⟨⟨t526, t527⟩, A180, H⟩ := H
        replace H : (some (t526, t527)) = some (r1, r2) := H
        have A18 := Aside0.mk A180
        clear A180
        simp only [Option.some.injEq, Prod.mk.injEq] at H
        obtain ⟨rfl, rfl⟩ := H
        go_enter Try.func77, Try.ntmps77
        go_wp2_with (first | (go_at_call 95; (with_reducible refine (parts_Split.calls a0 t508 t509 t510 t511 _ A4.out).mono ?_); rintro e w' ⟨rfl, ⟨nd, rfl⟩⟩; (try first | exact ⟨rfl, _, World.drewN_drewN _ _ _⟩ | exact ⟨rfl, _, Eq.trans (World.drewN_drewN _ _ _) (congrArg (World.drewN _) (Nat.add_assoc _ _ _))⟩)) | (go_at_call 95; (with_reducible refine (parts_Split.calls a1 t512 t513 t514 t515 _ A5.out).mono ?_); rintro e w' ⟨rfl, ⟨nd, rfl⟩⟩; (try first | exact ⟨rfl, _, World.drewN_drewN _ _ _⟩ | exact ⟨rfl, _, Eq.trans (World.drewN_drewN _ _ _) (congrArg (World.drewN _) (Nat.add_assoc _ _ _))⟩)) | (go_at_call 105; (with_reducible refine (fadd_lift.calls t509 62 t522 t523 _ A11.out).mono ?_); rintro e w' ⟨rfl, ⟨nd, rfl⟩⟩; (try first | exact ⟨rfl, _, World.drewN_drewN _ _ _⟩ | exact ⟨rfl, _, Eq.trans (World.drewN_drewN _ _ _) (congrArg (World.drewN _) (Nat.add_assoc _ _ _))⟩)) | (go_at_call 106; (refine (fadd_join.calls t522 t523 ji16 (t508 != t512) false t524 t525 _ A17.out).mono ?_); rintro e w' ⟨rfl, ⟨nd, rfl⟩⟩; (try first | exact ⟨rfl, _, World.drewN_drewN _ _ _⟩ | exact ⟨rfl, _, Eq.trans (World.drewN_drewN _ _ _) (congrArg (World.drewN _) (Nat.add_assoc _ _ _))⟩)) | (go_at_call 97; (with_reducible refine (parts_Round.calls k t508 t524 t525 (wrap64 (t510 - 62)) false a2 t526 t527 _ A18.out).mono ?_); rintro e w19 ⟨rfl, hb⟩; have n0_ := Aside0.mk (below_step (by repeat (first | (with_reducible first | exact HB.out | apply below_alloc | apply pw_below_drewN | apply below_drew1) | exact HB.out)) hb); clear HB; have HB := n0_; clear n0_; (try clear hb); (try clear hb2); (try clear hk); (try clear hi)))
        repeat (go_quiet (first | (go_at_call 95; (with_reducible refine (parts_Split.calls a0 t508 t509 t510 t511 _ A4.out).mono ?_); rintro e w' ⟨rfl, ⟨nd, rfl⟩⟩; (try first | exact ⟨rfl, _, World.drewN_drewN _ _ _⟩ | exact ⟨rfl, _, Eq.trans (World.drewN_drewN _ _ _) (congrArg (World.drewN _) (Nat.add_assoc _ _ _))⟩)) | (go_at_call 95; (with_reducible refine (parts_Split.calls a1 t512 t513 t514 t515 _ A5.out).mono ?_); rintro e w' ⟨rfl, ⟨nd, rfl⟩⟩; (try first | exact ⟨rfl, _, World.drewN_drewN _ _ _⟩ | exact ⟨rfl, _, Eq.trans (World.drewN_drewN _ _ _) (congrArg (World.drewN _) (Nat.add_assoc _ _ _))⟩)) | (go_at_call 105; (with_reducible refine (fadd_lift.calls t509 62 t522 t523 _ A11.out).mono ?_); rintro e w' ⟨rfl, ⟨nd, rfl⟩⟩; (try first | exact ⟨rfl, _, World.drewN_drewN _ _ _⟩ | exact ⟨rfl, _, Eq.trans (World.drewN_drewN _ _ _) (congrArg (World.drewN _) (Nat.add_assoc _ _ _))⟩)) | (go_at_call 106; (refine (fadd_join.calls t522 t523 ji16 (t508 != t512) false t524 t525 _ A17.out).mono ?_); rintro e w' ⟨rfl, ⟨nd, rfl⟩⟩; (try first | exact ⟨rfl, _, World.drewN_drewN _ _ _⟩ | exact ⟨rfl, _, Eq.trans (World.drewN_drewN _ _ _) (congrArg (World.drewN _) (Nat.add_assoc _ _ _))⟩)) | (go_at_call 97; (with_reducible refine (parts_Round.calls k t508 t524 t525 (wrap64 (t510 - 62)) false a2 t526 t527 _ A18.out).mono ?_); rintro e w19 ⟨rfl, hb⟩; have n0_ := Aside0.mk (below_step (by repeat (first | (with_reducible first | exact HB.out | apply below_alloc | apply pw_below_drewN | apply below_drew1) | exact HB.out)) hb); clear HB; have HB := n0_; clear n0_; (try clear hb); (try clear hb2); (try clear hk); (try clear hi))); try go_wp2_with (first | (go_at_call 95; (with_reducible refine (parts_Split.calls a0 t508 t509 t510 t511 _ A4.out).mono ?_); rintro e w' ⟨rfl, ⟨nd, rfl⟩⟩; (try first | exact ⟨rfl, _, World.drewN_drewN _ _ _⟩ | exact ⟨rfl, _, Eq.trans (World.drewN_drewN _ _ _) (congrArg (World.drewN _) (Nat.add_assoc _ _ _))⟩)) | (go_at_call 95; (with_reducible refine (parts_Split.calls a1 t512 t513 t514 t515 _ A5.out).mono ?_); rintro e w' ⟨rfl, ⟨nd, rfl⟩⟩; (try first | exact ⟨rfl, _, World.drewN_drewN _ _ _⟩ | exact ⟨rfl, _, Eq.trans (World.drewN_drewN _ _ _) (congrArg (World.drewN _) (Nat.add_assoc _ _ _))⟩)) | (go_at_call 105; (with_reducible refine (fadd_lift.calls t509 62 t522 t523 _ A11.out).mono ?_); rintro e w' ⟨rfl, ⟨nd, rfl⟩⟩; (try first | exact ⟨rfl, _, World.drewN_drewN _ _ _⟩ | exact ⟨rfl, _, Eq.trans (World.drewN_drewN _ _ _) (congrArg (World.drewN _) (Nat.add_assoc _ _ _))⟩)) | (go_at_call 106; (refine (fadd_join.calls t522 t523 ji16 (t508 != t512) false t524 t525 _ A17.out).mono ?_); rintro e w' ⟨rfl, ⟨nd, rfl⟩⟩; (try first | exact ⟨rfl, _, World.drewN_drewN _ _ _⟩ | exact ⟨rfl, _, Eq.trans (World.drewN_drewN _ _ _) (congrArg (World.drewN _) (Nat.add_assoc _ _ _))⟩)) | (go_at_call 97; (with_reducible refine (parts_Round.calls k t508 t524 t525 (wrap64 (t510 - 62)) false a2 t526 t527 _ A18.out).mono ?_); rintro e w19 ⟨rfl, hb⟩; have n0_ := Aside0.mk (below_step (by repeat (first | (with_reducible first | exact HB.out | apply below_alloc | apply pw_below_drewN | apply below_drew1) | exact HB.out)) hb); clear HB; have HB := n0_; clear n0_; (try clear hb); (try clear hb2); (try clear hk); (try clear hi))))
        go_ret2
        exact ⟨by first | rfl | (simp [errW_none, errW_some] <;> rfl) | (simp only [← hji12, ← hji14, ← hji16]; first | rfl | (simp [errW_none, errW_some] <;> rfl)) | (simp [*, errW_none, errW_some] <;> rfl), by repeat (first | (with_reducible first | exact HB.out | apply below_alloc | apply pw_below_drewN | apply below_drew1) | exact HB.out)⟩
      · rw [if_neg c15] at H
        exact absurd H (by simp)
    · rw [if_neg c13] at H
      have c13b0 : decide ((ji12) ≤ 0) = false := decide_eq_false c13
      clear c13
      by_cases c20 : (ji12) < 64
      · rw [if_pos c20] at H
        have c20b0 : decide ((ji12) < 64) = true := decide_eq_true c20
        clear c20
        by_cases c21 : 0 ≤ (ji12)
        · rw [if_pos c21] at H
          have c21b0 := eq_true c21
          have c21b1 : decide (0 ≤ (ji12)) = true := decide_eq_true c21
          clear c21
          obtain ⟨ji22, hji22⟩ : ∃ j_ : Int, (shr .u64 t513 (ji12)) = j_ := ⟨_, rfl⟩
          replace H : (if 0 ≤ (wrap64 (64 - (ji12))) then ((fadd_join.f t522 t523 (ji22) (t508 != t512) ((shl .u64 t513 (wrap64 (64 - (ji12)))) != 0)).bind fun bt528 => ((parts_Round.f k t508 bt528.1 bt528.2 (wrap64 (t510 - 62)) ((shl .u64 t513 (wrap64 (64 - (ji12)))) != 0) a2).bind fun bt530 => (some (bt530.1, bt530.2)))) else (none)) = some (r1, r2) := by first | (rw [hji22] at H; exact H) | (simp only [hji22] at H ⊢; exact H)
          (try rw [hji22] at A4)
          (try rw [hji22] at A5)
          (try rw [hji22] at A11)
          have hji22_ : (t513 / 2 ^ min (ji12).toNat 64) = ji22 := hji22
          have hji22z : (ji12) ≤ 64 → (t513 / 2 ^ (ji12).toNat) = ji22 := shr_small hji22
          obtain ⟨ji23, hji23⟩ : ∃ j_ : Int, (wrap64 (64 - (ji12))) = j_ := ⟨_, rfl⟩
          replace H : (if 0 ≤ (ji23) then ((fadd_join.f t522 t523 (ji22) (t508 != t512) ((shl .u64 t513 (ji23)) != 0)).bind fun bt528 => ((parts_Round.f k t508 bt528.1 bt528.2 (wrap64 (t510 - 62)) ((shl .u64 t513 (ji23)) != 0) a2).bind fun bt530 => (some (bt530.1, bt530.2)))) else (none)) = some (r1, r2) := by first | (rw [hji23] at H; exact H) | (simp only [hji23] at H ⊢; exact H)
          (try rw [hji23] at A4)
          (try rw [hji23] at A5)
          (try rw [hji23] at A11)
          have hji23w : (IntKind.i64.wrap (64 - (ji12))) = ji23 := (i64_w _).trans hji23
          by_cases c24 : 0 ≤ (ji23)
          · rw [if_pos c24] at H
            have c24b0 := eq_true c24
            have c24b1 : decide (0 ≤ (ji23)) = true := decide_eq_true c24
            clear c24
            obtain ⟨ji25, hji25⟩ : ∃ j_ : Int, (shl .u64 t513 (ji23)) = j_ := ⟨_, rfl⟩
            replace H : ((fadd_join.f t522 t523 (ji22) (t508 != t512) ((ji25) != 0)).bind fun bt528 => ((parts_Round.f k t508 bt528.1 bt528.2 (wrap64 (t510 - 62)) ((ji25) != 0) a2).bind fun bt530 => (some (bt530.1, bt530.2)))) = some (r1, r2) := by first | (rw [hji25] at H; exact H) | (simp only [hji25] at H ⊢; exact H)
            (try rw [hji25] at A4)
            (try rw [hji25] at A5)
            (try rw [hji25] at A11)
            have hji25_ : (IntKind.u64.wrap (t513 * 2 ^ min (ji23).toNat 64)) = ji25 := hji25
            have hji25z : (ji23) ≤ 64 → (IntKind.u64.wrap (t513 * 2 ^ (ji23).toNat)) = ji25 := shl_small hji25
            replace H := Option.bind_eq_some_iff.mp H
            obtain ⟨⟨t528, t529⟩, A260, H⟩ := H
            replace H : ((parts_Round.f k t508 t528 t529 (wrap64 (t510 - 62)) ((ji25) != 0) a2).bind fun bt530 => (some (bt530.1, bt530.2))) = some (r1, r2) := H
            have A26 := Aside0.mk A260
            clear A260
            replace H := Option.bind_eq_some_iff.mp H
            obtain ⟨⟨t530, t531⟩, A270, H⟩ := H
            replace H : (some (t530, t531)) = some (r1, r2) := H
            have A27 := Aside0.mk A270
            clear A270
            simp only [Option.some.injEq, Prod.mk.injEq] at H
            obtain ⟨rfl, rfl⟩ := H
            go_enter Try.func77, Try.ntmps77
            go_wp2_with (first | (go_at_call 95; (with_reducible refine (parts_Split.calls a0 t508 t509 t510 t511 _ A4.out).mono ?_); rintro e w' ⟨rfl, ⟨nd, rfl⟩⟩; (try first | exact ⟨rfl, _, World.drewN_drewN _ _ _⟩ | exact ⟨rfl, _, Eq.trans (World.drewN_drewN _ _ _) (congrArg (World.drewN _) (Nat.add_assoc _ _ _))⟩)) | (go_at_call 95; (with_reducible refine (parts_Split.calls a1 t512 t513 t514 t515 _ A5.out).mono ?_); rintro e w' ⟨rfl, ⟨nd, rfl⟩⟩; (try first | exact ⟨rfl, _, World.drewN_drewN _ _ _⟩ | exact ⟨rfl, _, Eq.trans (World.drewN_drewN _ _ _) (congrArg (World.drewN _) (Nat.add_assoc _ _ _))⟩)) | (go_at_call 105; (with_reducible refine (fadd_lift.calls t509 62 t522 t523 _ A11.out).mono ?_); rintro e w' ⟨rfl, ⟨nd, rfl⟩⟩; (try first | exact ⟨rfl, _, World.drewN_drewN _ _ _⟩ | exact ⟨rfl, _, Eq.trans (World.drewN_drewN _ _ _) (congrArg (World.drewN _) (Nat.add_assoc _ _ _))⟩)) | (go_at_call 106; (refine (fadd_join.calls t522 t523 ji22 (t508 != t512) ((ji25) != 0) t528 t529 _ A26.out).mono ?_); rintro e w' ⟨rfl, ⟨nd, rfl⟩⟩; (try first | exact ⟨rfl, _, World.drewN_drewN _ _ _⟩ | exact ⟨rfl, _, Eq.trans (World.drewN_drewN _ _ _) (congrArg (World.drewN _) (Nat.add_assoc _ _ _))⟩)) | (go_at_call 97; (refine (parts_Round.calls k t508 t528 t529 (wrap64 (t510 - 62)) ((ji25) != 0) a2 t530 t531 _ A27.out).mono ?_); rintro e w28 ⟨rfl, hb⟩; have n0_ := Aside0.mk (below_step (by repeat (first | (with_reducible first | exact HB.out | apply below_alloc | apply pw_below_drewN | apply below_drew1) | exact HB.out)) hb); clear HB; have HB := n0_; clear n0_; (try clear hb); (try clear hb2); (try clear hk); (try clear hi)))
            repeat (go_quiet (first | (go_at_call 95; (with_reducible refine (parts_Split.calls a0 t508 t509 t510 t511 _ A4.out).mono ?_); rintro e w' ⟨rfl, ⟨nd, rfl⟩⟩; (try first | exact ⟨rfl, _, World.drewN_drewN _ _ _⟩ | exact ⟨rfl, _, Eq.trans (World.drewN_drewN _ _ _) (congrArg (World.drewN _) (Nat.add_assoc _ _ _))⟩)) | (go_at_call 95; (with_reducible refine (parts_Split.calls a1 t512 t513 t514 t515 _ A5.out).mono ?_); rintro e w' ⟨rfl, ⟨nd, rfl⟩⟩; (try first | exact ⟨rfl, _, World.drewN_drewN _ _ _⟩ | exact ⟨rfl, _, Eq.trans (World.drewN_drewN _ _ _) (congrArg (World.drewN _) (Nat.add_assoc _ _ _))⟩)) | (go_at_call 105; (with_reducible refine (fadd_lift.calls t509 62 t522 t523 _ A11.out).mono ?_); rintro e w' ⟨rfl, ⟨nd, rfl⟩⟩; (try first | exact ⟨rfl, _, World.drewN_drewN _ _ _⟩ | exact ⟨rfl, _, Eq.trans (World.drewN_drewN _ _ _) (congrArg (World.drewN _) (Nat.add_assoc _ _ _))⟩)) | (go_at_call 106; (refine (fadd_join.calls t522 t523 ji22 (t508 != t512) ((ji25) != 0) t528 t529 _ A26.out).mono ?_); rintro e w' ⟨rfl, ⟨nd, rfl⟩⟩; (try first | exact ⟨rfl, _, World.drewN_drewN _ _ _⟩ | exact ⟨rfl, _, Eq.trans (World.drewN_drewN _ _ _) (congrArg (World.drewN _) (Nat.add_assoc _ _ _))⟩)) | (go_at_call 97; (refine (parts_Round.calls k t508 t528 t529 (wrap64 (t510 - 62)) ((ji25) != 0) a2 t530 t531 _ A27.out).mono ?_); rintro e w28 ⟨rfl, hb⟩; have n0_ := Aside0.mk (below_step (by repeat (first | (with_reducible first | exact HB.out | apply below_alloc | apply pw_below_drewN | apply below_drew1) | exact HB.out)) hb); clear HB; have HB := n0_; clear n0_; (try clear hb); (try clear hb2); (try clear hk); (try clear hi))); try go_wp2_with (first | (go_at_call 95; (with_reducible refine (parts_Split.calls a0 t508 t509 t510 t511 _ A4.out).mono ?_); rintro e w' ⟨rfl, ⟨nd, rfl⟩⟩; (try first | exact ⟨rfl, _, World.drewN_drewN _ _ _⟩ | exact ⟨rfl, _, Eq.trans (World.drewN_drewN _ _ _) (congrArg (World.drewN _) (Nat.add_assoc _ _ _))⟩)) | (go_at_call 95; (with_reducible refine (parts_Split.calls a1 t512 t513 t514 t515 _ A5.out).mono ?_); rintro e w' ⟨rfl, ⟨nd, rfl⟩⟩; (try first | exact ⟨rfl, _, World.drewN_drewN _ _ _⟩ | exact ⟨rfl, _, Eq.trans (World.drewN_drewN _ _ _) (congrArg (World.drewN _) (Nat.add_assoc _ _ _))⟩)) | (go_at_call 105; (with_reducible refine (fadd_lift.calls t509 62 t522 t523 _ A11.out).mono ?_); rintro e w' ⟨rfl, ⟨nd, rfl⟩⟩; (try first | exact ⟨rfl, _, World.drewN_drewN _ _ _⟩ | exact ⟨rfl, _, Eq.trans (World.drewN_drewN _ _ _) (congrArg (World.drewN _) (Nat.add_assoc _ _ _))⟩)) | (go_at_call 106; (refine (fadd_join.calls t522 t523 ji22 (t508 != t512) ((ji25) != 0) t528 t529 _ A26.out).mono ?_); rintro e w' ⟨rfl, ⟨nd, rfl⟩⟩; (try first | exact ⟨rfl, _, World.drewN_drewN _ _ _⟩ | exact ⟨rfl, _, Eq.trans (World.drewN_drewN _ _ _) (congrArg (World.drewN _) (Nat.add_assoc _ _ _))⟩)) | (go_at_call 97; (refine (parts_Round.calls k t508 t528 t529 (wrap64 (t510 - 62)) ((ji25) != 0) a2 t530 t531 _ A27.out).mono ?_); rintro e w28 ⟨rfl, hb⟩; have n0_ := Aside0.mk (below_step (by repeat (first | (with_reducible first | exact HB.out | apply below_alloc | apply pw_below_drewN | apply below_drew1) | exact HB.out)) hb); clear HB; have HB := n0_; clear n0_; (try clear hb); (try clear hb2); (try clear hk); (try clear hi))))
            go_ret2
            exact ⟨by first | rfl | (simp [errW_none, errW_some] <;> rfl) | (simp only [← hji12, ← hji22, ← hji23, ← hji25]; first | rfl | (simp [errW_none, errW_some] <;> rfl)) | (simp [*, errW_none, errW_some] <;> rfl), by repeat (first | (with_reducible first | exact HB.out | apply below_alloc | apply pw_below_drewN | apply below_drew1) | exact HB.out)⟩
          · rw [if_neg c24] at H
            exact absurd H (by simp)
        · rw [if_neg c21] at H
          exact absurd H (by simp)
      · rw [if_neg c20] at H
        have c20b0 : decide ((ji12) < 64) = false := decide_eq_false c20
        clear c20
        replace H := Option.bind_eq_some_iff.mp H
        obtain ⟨⟨t532, t533⟩, A290, H⟩ := H
        replace H : ((parts_Round.f k t508 t532 t533 (wrap64 (t510 - 62)) (t513 != 0) a2).bind fun bt534 => (some (bt534.1, bt534.2))) = some (r1, r2) := H
        have A29 := Aside0.mk A290
        clear A290
        replace H := Option.bind_eq_some_iff.mp H
        obtain ⟨⟨t534, t535⟩, A300, H⟩ := H
        replace H : (some (t534, t535)) = some (r1, r2) := H
        have A30 := Aside0.mk A300
        clear A300
        simp only [Option.some.injEq, Prod.mk.injEq] at H
        obtain ⟨rfl, rfl⟩ := H
        go_enter Try.func77, Try.ntmps77
        go_wp2_with (first | (go_at_call 95; (with_reducible refine (parts_Split.calls a0 t508 t509 t510 t511 _ A4.out).mono ?_); rintro e w' ⟨rfl, ⟨nd, rfl⟩⟩; (try first | exact ⟨rfl, _, World.drewN_drewN _ _ _⟩ | exact ⟨rfl, _, Eq.trans (World.drewN_drewN _ _ _) (congrArg (World.drewN _) (Nat.add_assoc _ _ _))⟩)) | (go_at_call 95; (with_reducible refine (parts_Split.calls a1 t512 t513 t514 t515 _ A5.out).mono ?_); rintro e w' ⟨rfl, ⟨nd, rfl⟩⟩; (try first | exact ⟨rfl, _, World.drewN_drewN _ _ _⟩ | exact ⟨rfl, _, Eq.trans (World.drewN_drewN _ _ _) (congrArg (World.drewN _) (Nat.add_assoc _ _ _))⟩)) | (go_at_call 105; (with_reducible refine (fadd_lift.calls t509 62 t522 t523 _ A11.out).mono ?_); rintro e w' ⟨rfl, ⟨nd, rfl⟩⟩; (try first | exact ⟨rfl, _, World.drewN_drewN _ _ _⟩ | exact ⟨rfl, _, Eq.trans (World.drewN_drewN _ _ _) (congrArg (World.drewN _) (Nat.add_assoc _ _ _))⟩)) | (go_at_call 106; (refine (fadd_join.calls t522 t523 0 (t508 != t512) (t513 != 0) t532 t533 _ A29.out).mono ?_); rintro e w' ⟨rfl, ⟨nd, rfl⟩⟩; (try first | exact ⟨rfl, _, World.drewN_drewN _ _ _⟩ | exact ⟨rfl, _, Eq.trans (World.drewN_drewN _ _ _) (congrArg (World.drewN _) (Nat.add_assoc _ _ _))⟩)) | (go_at_call 97; (refine (parts_Round.calls k t508 t532 t533 (wrap64 (t510 - 62)) (t513 != 0) a2 t534 t535 _ A30.out).mono ?_); rintro e w31 ⟨rfl, hb⟩; have n0_ := Aside0.mk (below_step (by repeat (first | (with_reducible first | exact HB.out | apply below_alloc | apply pw_below_drewN | apply below_drew1) | exact HB.out)) hb); clear HB; have HB := n0_; clear n0_; (try clear hb); (try clear hb2); (try clear hk); (try clear hi)))
        repeat (go_quiet (first | (go_at_call 95; (with_reducible refine (parts_Split.calls a0 t508 t509 t510 t511 _ A4.out).mono ?_); rintro e w' ⟨rfl, ⟨nd, rfl⟩⟩; (try first | exact ⟨rfl, _, World.drewN_drewN _ _ _⟩ | exact ⟨rfl, _, Eq.trans (World.drewN_drewN _ _ _) (congrArg (World.drewN _) (Nat.add_assoc _ _ _))⟩)) | (go_at_call 95; (with_reducible refine (parts_Split.calls a1 t512 t513 t514 t515 _ A5.out).mono ?_); rintro e w' ⟨rfl, ⟨nd, rfl⟩⟩; (try first | exact ⟨rfl, _, World.drewN_drewN _ _ _⟩ | exact ⟨rfl, _, Eq.trans (World.drewN_drewN _ _ _) (congrArg (World.drewN _) (Nat.add_assoc _ _ _))⟩)) | (go_at_call 105; (with_reducible refine (fadd_lift.calls t509 62 t522 t523 _ A11.out).mono ?_); rintro e w' ⟨rfl, ⟨nd, rfl⟩⟩; (try first | exact ⟨rfl, _, World.drewN_drewN _ _ _⟩ | exact ⟨rfl, _, Eq.trans (World.drewN_drewN _ _ _) (congrArg (World.drewN _) (Nat.add_assoc _ _ _))⟩)) | (go_at_call 106; (refine (fadd_join.calls t522 t523 0 (t508 != t512) (t513 != 0) t532 t533 _ A29.out).mono ?_); rintro e w' ⟨rfl, ⟨nd, rfl⟩⟩; (try first | exact ⟨rfl, _, World.drewN_drewN _ _ _⟩ | exact ⟨rfl, _, Eq.trans (World.drewN_drewN _ _ _) (congrArg (World.drewN _) (Nat.add_assoc _ _ _))⟩)) | (go_at_call 97; (refine (parts_Round.calls k t508 t532 t533 (wrap64 (t510 - 62)) (t513 != 0) a2 t534 t535 _ A30.out).mono ?_); rintro e w31 ⟨rfl, hb⟩; have n0_ := Aside0.mk (below_step (by repeat (first | (with_reducible first | exact HB.out | apply below_alloc | apply pw_below_drewN | apply below_drew1) | exact HB.out)) hb); clear HB; have HB := n0_; clear n0_; (try clear hb); (try clear hb2); (try clear hk); (try clear hi))); try go_wp2_with (first | (go_at_call 95; (with_reducible refine (parts_Split.calls a0 t508 t509 t510 t511 _ A4.out).mono ?_); rintro e w' ⟨rfl, ⟨nd, rfl⟩⟩; (try first | exact ⟨rfl, _, World.drewN_drewN _ _ _⟩ | exact ⟨rfl, _, Eq.trans (World.drewN_drewN _ _ _) (congrArg (World.drewN _) (Nat.add_assoc _ _ _))⟩)) | (go_at_call 95; (with_reducible refine (parts_Split.calls a1 t512 t513 t514 t515 _ A5.out).mono ?_); rintro e w' ⟨rfl, ⟨nd, rfl⟩⟩; (try first | exact ⟨rfl, _, World.drewN_drewN _ _ _⟩ | exact ⟨rfl, _, Eq.trans (World.drewN_drewN _ _ _) (congrArg (World.drewN _) (Nat.add_assoc _ _ _))⟩)) | (go_at_call 105; (with_reducible refine (fadd_lift.calls t509 62 t522 t523 _ A11.out).mono ?_); rintro e w' ⟨rfl, ⟨nd, rfl⟩⟩; (try first | exact ⟨rfl, _, World.drewN_drewN _ _ _⟩ | exact ⟨rfl, _, Eq.trans (World.drewN_drewN _ _ _) (congrArg (World.drewN _) (Nat.add_assoc _ _ _))⟩)) | (go_at_call 106; (refine (fadd_join.calls t522 t523 0 (t508 != t512) (t513 != 0) t532 t533 _ A29.out).mono ?_); rintro e w' ⟨rfl, ⟨nd, rfl⟩⟩; (try first | exact ⟨rfl, _, World.drewN_drewN _ _ _⟩ | exact ⟨rfl, _, Eq.trans (World.drewN_drewN _ _ _) (congrArg (World.drewN _) (Nat.add_assoc _ _ _))⟩)) | (go_at_call 97; (refine (parts_Round.calls k t508 t532 t533 (wrap64 (t510 - 62)) (t513 != 0) a2 t534 t535 _ A30.out).mono ?_); rintro e w31 ⟨rfl, hb⟩; have n0_ := Aside0.mk (below_step (by repeat (first | (with_reducible first | exact HB.out | apply below_alloc | apply pw_below_drewN | apply below_drew1) | exact HB.out)) hb); clear HB; have HB := n0_; clear n0_; (try clear hb); (try clear hb2); (try clear hk); (try clear hi))))
        go_ret2
        exact ⟨by first | rfl | (simp [errW_none, errW_some] <;> rfl) | (simp only [← hji12]; first | rfl | (simp [errW_none, errW_some] <;> rfl)) | (simp [*, errW_none, errW_some] <;> rfl), by repeat (first | (with_reducible first | exact HB.out | apply below_alloc | apply pw_below_drewN | apply below_drew1) | exact HB.out)⟩
def fadd_Add.j0 : Nat → Int → Int → Int → Int → Int → Bool → Option (Int × Int)
  | 0, _, _, _, _, _, _ => none
  | k + 1, x0, x1, x2, x11, x12, x42 => if x42 = true then ((fadd_nought.f x0 x1 x2).bind fun t539 => (some (t539, 0))) else (if x11 < x12 then ((fadd_sum.f k x1 x0 x2).bind fun bt540 => (some (bt540.1, bt540.2))) else ((fadd_sum.f k x0 x1 x2).bind fun bt542 => (some (bt542.1, bt542.2))))
def fadd_Add.f (k : Nat) (a0 : Int) (a1 : Int) (a2 : Int) : Option (Int × Int) := (fadd_odd.f k a0 a1).bind fun bt536 => (if bt536.2.2 = true then (some (bt536.1, bt536.2.1)) else (if (Go.bits .andNot .u64 a0 9223372036854775808) = (Go.bits .andNot .u64 a1 9223372036854775808) then (if a0 = a1 then (if (Go.bits .andNot .u64 a0 9223372036854775808) = 0 then (fadd_Add.j0 k a0 a1 a2 (Go.bits .andNot .u64 a0 9223372036854775808) (Go.bits .andNot .u64 a1 9223372036854775808) ((Go.bits .andNot .u64 a1 9223372036854775808) == 0)) else (fadd_Add.j0 k a0 a1 a2 (Go.bits .andNot .u64 a0 9223372036854775808) (Go.bits .andNot .u64 a1 9223372036854775808) false)) else (fadd_Add.j0 k a0 a1 a2 (Go.bits .andNot .u64 a0 9223372036854775808) (Go.bits .andNot .u64 a1 9223372036854775808) true)) else (if (Go.bits .andNot .u64 a0 9223372036854775808) = 0 then (fadd_Add.j0 k a0 a1 a2 (Go.bits .andNot .u64 a0 9223372036854775808) (Go.bits .andNot .u64 a1 9223372036854775808) ((Go.bits .andNot .u64 a1 9223372036854775808) == 0)) else (fadd_Add.j0 k a0 a1 a2 (Go.bits .andNot .u64 a0 9223372036854775808) (Go.bits .andNot .u64 a1 9223372036854775808) false))))
set_option maxHeartbeats 8000000 in
set_option maxRecDepth 100000 in
theorem fadd_Add.calls (k : Nat) (a0 : Int) (a1 : Int) (a2 : Int) (r1 : Int) (r2 : Int) (w : World) (h : fadd_Add.f k a0 a1 a2 = some (r1, r2)) :
    Calls Try.prog 32 #[.int .u64 a0, .int .u64 a1, .int .i64 a2] w fun e w' => e = .returned (.tuple #[.int .u64 r1, .int .i64 r2]) ∧ Below w.heap.size w w' := by
  have HB := Aside0.mk (Below.refl w.heap.size w)
  have H : ((fadd_odd.f k a0 a1).bind fun bt536 => (if bt536.2.2 = true then (some (bt536.1, bt536.2.1)) else (if (Go.bits .andNot .u64 a0 9223372036854775808) = (Go.bits .andNot .u64 a1 9223372036854775808) then (if a0 = a1 then (if (Go.bits .andNot .u64 a0 9223372036854775808) = 0 then (fadd_Add.j0 k a0 a1 a2 (Go.bits .andNot .u64 a0 9223372036854775808) (Go.bits .andNot .u64 a1 9223372036854775808) ((Go.bits .andNot .u64 a1 9223372036854775808) == 0)) else (fadd_Add.j0 k a0 a1 a2 (Go.bits .andNot .u64 a0 9223372036854775808) (Go.bits .andNot .u64 a1 9223372036854775808) false)) else (fadd_Add.j0 k a0 a1 a2 (Go.bits .andNot .u64 a0 9223372036854775808) (Go.bits .andNot .u64 a1 9223372036854775808) true)) else (if (Go.bits .andNot .u64 a0 9223372036854775808) = 0 then (fadd_Add.j0 k a0 a1 a2 (Go.bits .andNot .u64 a0 9223372036854775808) (Go.bits .andNot .u64 a1 9223372036854775808) ((Go.bits .andNot .u64 a1 9223372036854775808) == 0)) else (fadd_Add.j0 k a0 a1 a2 (Go.bits .andNot .u64 a0 9223372036854775808) (Go.bits .andNot .u64 a1 9223372036854775808) false))))) = some (r1, r2) := h
  clear h
  replace H := Option.bind_eq_some_iff.mp H
  obtain ⟨⟨t536, t537, t538⟩, A40, H⟩ := H
  replace H : (if t538 = true then (some (t536, t537)) else (if (Go.bits .andNot .u64 a0 9223372036854775808) = (Go.bits .andNot .u64 a1 9223372036854775808) then (if a0 = a1 then (if (Go.bits .andNot .u64 a0 9223372036854775808) = 0 then (fadd_Add.j0 k a0 a1 a2 (Go.bits .andNot .u64 a0 9223372036854775808) (Go.bits .andNot .u64 a1 9223372036854775808) ((Go.bits .andNot .u64 a1 9223372036854775808) == 0)) else (fadd_Add.j0 k a0 a1 a2 (Go.bits .andNot .u64 a0 9223372036854775808) (Go.bits .andNot .u64 a1 9223372036854775808) false)) else (fadd_Add.j0 k a0 a1 a2 (Go.bits .andNot .u64 a0 9223372036854775808) (Go.bits .andNot .u64 a1 9223372036854775808) true)) else (if (Go.bits .andNot .u64 a0 9223372036854775808) = 0 then (fadd_Add.j0 k a0 a1 a2 (Go.bits .andNot .u64 a0 9223372036854775808) (Go.bits .andNot .u64 a1 9223372036854775808) ((Go.bits .andNot .u64 a1 9223372036854775808) == 0)) else (fadd_Add.j0 k a0 a1 a2 (Go.bits .andNot .u64 a0 9223372036854775808) (Go.bits .andNot .u64 a1 9223372036854775808) false)))) = some (r1, r2) := H
  have A4 := Aside0.mk A40
  clear A40
  by_cases c5 : t538 = true
  · subst c5
    have H1 : (some (t536, t537)) = some (r1, r2) := by rw [if_pos rfl] at H; exact H
    clear H
    have H := H1
    clear H1
    simp only [Option.some.injEq, Prod.mk.injEq] at H
    obtain ⟨rfl, rfl⟩ := H
    go_enter Try.func32, Try.ntmps32
    go_wp2_with (first | ((with_reducible refine gate_callee (f := 75) rfl ?_); refine goesL_ (some 16) rfl rfl Try.func75 (by kernel_rfl) rfl #[.int .u64 a0, .int .u64 a1] rfl (by (try simp only [List.map_toArray, List.map_cons, List.map_nil]); first | done | rfl | (simp only [List.length_drop, List.length_take]; rfl)) ?_; (with_reducible refine (fadd_odd.calls k a0 a1 t536 t537 true _ A4.out).mono ?_); rintro e w' ⟨rfl, ⟨nd, rfl⟩⟩; refine ⟨_, rfl, ?_⟩))
    go_ret2
    exact ⟨by first | rfl | (simp [errW_none, errW_some] <;> rfl) | (simp [*, errW_none, errW_some] <;> rfl), by repeat (first | (with_reducible first | exact HB.out | apply below_alloc | apply pw_below_drewN | apply below_drew1) | exact HB.out)⟩
  · replace c5 := Bool.eq_false_iff.mpr c5
    subst c5
    have H1 : (if (Go.bits .andNot .u64 a0 9223372036854775808) = (Go.bits .andNot .u64 a1 9223372036854775808) then (if a0 = a1 then (if (Go.bits .andNot .u64 a0 9223372036854775808) = 0 then (fadd_Add.j0 k a0 a1 a2 (Go.bits .andNot .u64 a0 9223372036854775808) (Go.bits .andNot .u64 a1 9223372036854775808) ((Go.bits .andNot .u64 a1 9223372036854775808) == 0)) else (fadd_Add.j0 k a0 a1 a2 (Go.bits .andNot .u64 a0 9223372036854775808) (Go.bits .andNot .u64 a1 9223372036854775808) false)) else (fadd_Add.j0 k a0 a1 a2 (Go.bits .andNot .u64 a0 9223372036854775808) (Go.bits .andNot .u64 a1 9223372036854775808) true)) else (if (Go.bits .andNot .u64 a0 9223372036854775808) = 0 then (fadd_Add.j0 k a0 a1 a2 (Go.bits .andNot .u64 a0 9223372036854775808) (Go.bits .andNot .u64 a1 9223372036854775808) ((Go.bits .andNot .u64 a1 9223372036854775808) == 0)) else (fadd_Add.j0 k a0 a1 a2 (Go.bits .andNot .u64 a0 9223372036854775808) (Go.bits .andNot .u64 a1 9223372036854775808) false))) = some (r1, r2) := by rw [if_neg (show ¬ (false = true) by decide)] at H; exact H
    clear H
    have H := H1
    clear H1
    have HC6 := Aside0.mk H
    clear H
    go_enter Try.func32, Try.ntmps32
    go_upto_region 5 with (first | ((with_reducible refine gate_callee (f := 75) rfl ?_); refine goesL_ (some 16) rfl rfl Try.func75 (by kernel_rfl) rfl #[.int .u64 a0, .int .u64 a1] rfl (by (try simp only [List.map_toArray, List.map_cons, List.map_nil]); first | done | rfl | (simp only [List.length_drop, List.length_take]; rfl)) ?_; (with_reducible refine (fadd_odd.calls k a0 a1 t536 t537 false _ A4.out).mono ?_); rintro e w' ⟨rfl, ⟨nd, rfl⟩⟩; refine ⟨_, rfl, ?_⟩))
    (try simp only [Act.put, List.setIfInBounds_toArray, List.set_cons_zero, List.set_cons_succ])
    go_cut [42] (fun v42 wc => ∃ (kq : Nat) (x42_5 : Bool), v42 = .bool x42_5 ∧ Aside0 (fadd_Add.j0 kq a0 a1 a2 (Go.bits .andNot .u64 a0 9223372036854775808) (Go.bits .andNot .u64 a1 9223372036854775808) x42_5 = some (r1, r2)) ∧ Aside0 (kq ≤ k) ∧ Aside0 (Below w.heap.size w wc))
    case first =>
      have H := HC6.out
      clear HC6
      by_cases c7 : (Go.bits .andNot .u64 a0 9223372036854775808) = (Go.bits .andNot .u64 a1 9223372036854775808)
      · rw [if_pos c7] at H
        have c7b0 : ((Go.bits .andNot .u64 a0 9223372036854775808) == (Go.bits .andNot .u64 a1 9223372036854775808)) = true := beq_iff_eq.mpr c7
        have c7b1 : ((Go.bits .andNot .u64 a0 9223372036854775808) != (Go.bits .andNot .u64 a1 9223372036854775808)) = false := bne_eq_false_iff_eq.mpr c7
        clear c7
        (first | rw [c7b0] | (simp only [i64_w, i32_w]; rw [c7b0]) | skip)
        by_cases c8 : a0 = a1
        · rw [if_pos c8] at H
          have c8b0 : (a0 == a1) = true := beq_iff_eq.mpr c8
          have c8b1 : (a0 != a1) = false := bne_eq_false_iff_eq.mpr c8
          clear c8
          by_cases c9 : (Go.bits .andNot .u64 a0 9223372036854775808) = 0
          · rw [if_pos c9] at H
            have c9b0 : ((Go.bits .andNot .u64 a0 9223372036854775808) == 0) = true := beq_iff_eq.mpr c9
            have c9b1 : ((Go.bits .andNot .u64 a0 9223372036854775808) != 0) = false := bne_eq_false_iff_eq.mpr c9
            clear c9
            have H' := Aside0.mk H
            clear H
            go_wp2
            go_meet
            case rel => exact ⟨_, (((Go.bits .andNot .u64 a1 9223372036854775808) == 0)), (by first | rfl | (simp; done) | (simp [*]; done)), H', ⟨by first | omega | exact Nat.le_refl _⟩, ⟨by repeat (first | (with_reducible first | exact HB.out | apply below_alloc | apply pw_below_drewN | apply below_drew1) | exact HB.out)⟩⟩
          · rw [if_neg c9] at H
            have c9b0 : ((Go.bits .andNot .u64 a0 9223372036854775808) == 0) = false := beq_eq_false_iff_ne.mpr c9
            have c9b1 : ((Go.bits .andNot .u64 a0 9223372036854775808) != 0) = true := bne_iff_ne.mpr c9
            have H' := Aside0.mk H
            clear H
            go_wp2
            go_meet
            case rel => exact ⟨_, (false), (by first | rfl | (simp; done) | (simp [*]; done)), H', ⟨by first | omega | exact Nat.le_refl _⟩, ⟨by repeat (first | (with_reducible first | exact HB.out | apply below_alloc | apply pw_below_drewN | apply below_drew1) | exact HB.out)⟩⟩
        · rw [if_neg c8] at H
          have c8b0 : (a0 == a1) = false := beq_eq_false_iff_ne.mpr c8
          have c8b1 : (a0 != a1) = true := bne_iff_ne.mpr c8
          have H' := Aside0.mk H
          clear H
          go_wp2
          go_meet
          case rel => exact ⟨_, (true), (by first | rfl | (simp; done) | (simp [*]; done)), H', ⟨by first | omega | exact Nat.le_refl _⟩, ⟨by repeat (first | (with_reducible first | exact HB.out | apply below_alloc | apply pw_below_drewN | apply below_drew1) | exact HB.out)⟩⟩
      · rw [if_neg c7] at H
        have c7b0 : ((Go.bits .andNot .u64 a0 9223372036854775808) == (Go.bits .andNot .u64 a1 9223372036854775808)) = false := beq_eq_false_iff_ne.mpr c7
        have c7b1 : ((Go.bits .andNot .u64 a0 9223372036854775808) != (Go.bits .andNot .u64 a1 9223372036854775808)) = true := bne_iff_ne.mpr c7
        (first | rw [c7b0] | (simp only [i64_w, i32_w]; rw [c7b0]) | skip)
        by_cases c10 : (Go.bits .andNot .u64 a0 9223372036854775808) = 0
        · rw [if_pos c10] at H
          have c10b0 : ((Go.bits .andNot .u64 a0 9223372036854775808) == 0) = true := beq_iff_eq.mpr c10
          have c10b1 : ((Go.bits .andNot .u64 a0 9223372036854775808) != 0) = false := bne_eq_false_iff_eq.mpr c10
          clear c10
          have H' := Aside0.mk H
          clear H
          go_wp2
          go_meet
          case rel => exact ⟨_, (((Go.bits .andNot .u64 a1 9223372036854775808) == 0)), (by first | rfl | (simp; done) | (simp [*]; done)), H', ⟨by first | omega | exact Nat.le_refl _⟩, ⟨by repeat (first | (with_reducible first | exact HB.out | apply below_alloc | apply pw_below_drewN | apply below_drew1) | exact HB.out)⟩⟩
        · rw [if_neg c10] at H
          have c10b0 : ((Go.bits .andNot .u64 a0 9223372036854775808) == 0) = false := beq_eq_false_iff_ne.mpr c10
          have c10b1 : ((Go.bits .andNot .u64 a0 9223372036854775808) != 0) = true := bne_iff_ne.mpr c10
          have H' := Aside0.mk H
          clear H
          go_wp2
          go_meet
          case rel => exact ⟨_, (false), (by first | rfl | (simp; done) | (simp [*]; done)), H', ⟨by first | omega | exact Nat.le_refl _⟩, ⟨by repeat (first | (with_reducible first | exact HB.out | apply below_alloc | apply pw_below_drewN | apply below_drew1) | exact HB.out)⟩⟩
    case rest =>
      clear HC6
      try clear c1
      try clear p2
      try clear c3
      try clear c5
      try clear c7
      try clear c7b0
      try clear c7b1
      try clear c8
      try clear c8b0
      try clear c8b1
      try clear c9
      try clear c9b0
      try clear c9b1
      try clear c10
      try clear c10b0
      try clear c10b1
      obtain ⟨kq, x42_5, rfl, HA, HJ5, HB⟩ := hcut
      cases kq with
      | zero => exact absurd HA.out (by simp [fadd_Add.j0])
      | succ kj5 =>
        have H := HA.out
        clear HA
        simp only [fadd_Add.j0] at H
        by_cases c11 : x42_5 = true
        · subst c11
          have H1 : ((fadd_nought.f a0 a1 a2).bind fun t539 => (some (t539, 0))) = some (r1, r2) := by rw [if_pos rfl] at H; exact H
          clear H
          have H := H1
          clear H1
          replace H := Option.bind_eq_some_iff.mp H
          obtain ⟨t539, A120, H⟩ := H
          replace H : (some (t539, 0)) = some (r1, r2) := H
          have A12 := Aside0.mk A120
          clear A120
          simp only [Option.some.injEq, Prod.mk.injEq] at H
          obtain ⟨rfl, rfl⟩ := H
          go_wp2_with (first | ((with_reducible refine gate_callee (f := 76) rfl ?_); refine goesL_ (some 46) rfl rfl Try.func76 (by kernel_rfl) rfl #[.int .u64 a0, .int .u64 a1, .int .i64 a2] rfl (by (try simp only [List.map_toArray, List.map_cons, List.map_nil]); first | done | rfl | (simp only [List.length_drop, List.length_take]; rfl)) ?_; (with_reducible refine (fadd_nought.calls a0 a1 a2 t539 _ A12.out).mono ?_); rintro e w' ⟨rfl, ⟨nd, rfl⟩⟩; refine ⟨_, rfl, ?_⟩))
          go_ret2
          exact ⟨by first | rfl | (simp [errW_none, errW_some] <;> rfl) | (simp [*, errW_none, errW_some] <;> rfl), by repeat (first | (with_reducible first | exact HB.out | apply below_alloc | apply pw_below_drewN | apply below_drew1) | exact HB.out)⟩
        · replace c11 := Bool.eq_false_iff.mpr c11
          subst c11
          have H1 : (if (Go.bits .andNot .u64 a0 9223372036854775808) < (Go.bits .andNot .u64 a1 9223372036854775808) then ((fadd_sum.f kj5 a1 a0 a2).bind fun bt540 => (some (bt540.1, bt540.2))) else ((fadd_sum.f kj5 a0 a1 a2).bind fun bt542 => (some (bt542.1, bt542.2)))) = some (r1, r2) := by rw [if_neg (show ¬ (false = true) by decide)] at H; exact H
          clear H
          have H := H1
          clear H1
          by_cases c13 : (Go.bits .andNot .u64 a0 9223372036854775808) < (Go.bits .andNot .u64 a1 9223372036854775808)
          · rw [if_pos c13] at H
            have c13b0 : decide ((Go.bits .andNot .u64 a0 9223372036854775808) < (Go.bits .andNot .u64 a1 9223372036854775808)) = true := decide_eq_true c13
            clear c13
            replace H := Option.bind_eq_some_iff.mp H
            obtain ⟨⟨t540, t541⟩, A140, H⟩ := H
            replace H : (some (t540, t541)) = some (r1, r2) := H
            have A14 := Aside0.mk A140
            clear A140
            simp only [Option.some.injEq, Prod.mk.injEq] at H
            obtain ⟨rfl, rfl⟩ := H
            go_wp2_with (first | ((with_reducible refine gate_callee (f := 77) rfl ?_); refine goesL_ (some 55) rfl rfl Try.func77 (by kernel_rfl) rfl #[.int .u64 a1, .int .u64 a0, .int .i64 a2] rfl (by (try simp only [List.map_toArray, List.map_cons, List.map_nil]); first | done | rfl | (simp only [List.length_drop, List.length_take]; rfl)) ?_; (with_reducible refine (fadd_sum.calls kj5 a1 a0 a2 t540 t541 _ A14.out).mono ?_); rintro e w15 ⟨rfl, hb⟩; refine ⟨_, rfl, ?_⟩; have n0_ := Aside0.mk (below_step (by repeat (first | (with_reducible first | exact HB.out | apply below_alloc | apply pw_below_drewN | apply below_drew1) | exact HB.out)) hb); clear HB; have HB := n0_; clear n0_; (try clear hb); (try clear hb2); (try clear hk); (try clear hi)))
            go_ret2
            exact ⟨by first | rfl | (simp [errW_none, errW_some] <;> rfl) | (simp [*, errW_none, errW_some] <;> rfl), by repeat (first | (with_reducible first | exact HB.out | apply below_alloc | apply pw_below_drewN | apply below_drew1) | exact HB.out)⟩
          · rw [if_neg c13] at H
            have c13b0 : decide ((Go.bits .andNot .u64 a0 9223372036854775808) < (Go.bits .andNot .u64 a1 9223372036854775808)) = false := decide_eq_false c13
            clear c13
            replace H := Option.bind_eq_some_iff.mp H
            obtain ⟨⟨t542, t543⟩, A160, H⟩ := H
            replace H : (some (t542, t543)) = some (r1, r2) := H
            have A16 := Aside0.mk A160
            clear A160
            simp only [Option.some.injEq, Prod.mk.injEq] at H
            obtain ⟨rfl, rfl⟩ := H
            go_wp2_with (first | ((with_reducible refine gate_callee (f := 77) rfl ?_); refine goesL_ (some 55) rfl rfl Try.func77 (by kernel_rfl) rfl #[.int .u64 a0, .int .u64 a1, .int .i64 a2] rfl (by (try simp only [List.map_toArray, List.map_cons, List.map_nil]); first | done | rfl | (simp only [List.length_drop, List.length_take]; rfl)) ?_; (with_reducible refine (fadd_sum.calls kj5 a0 a1 a2 t542 t543 _ A16.out).mono ?_); rintro e w17 ⟨rfl, hb⟩; refine ⟨_, rfl, ?_⟩; have n0_ := Aside0.mk (below_step (by repeat (first | (with_reducible first | exact HB.out | apply below_alloc | apply pw_below_drewN | apply below_drew1) | exact HB.out)) hb); clear HB; have HB := n0_; clear n0_; (try clear hb); (try clear hb2); (try clear hk); (try clear hi)))
            go_ret2
            exact ⟨by first | rfl | (simp [errW_none, errW_some] <;> rfl) | (simp [*, errW_none, errW_some] <;> rfl), by repeat (first | (with_reducible first | exact HB.out | apply below_alloc | apply pw_below_drewN | apply below_drew1) | exact HB.out)⟩
def vernierref06_Class.j0 : Nat → Int → Int → Bool → Option (Int)
  | 0, _, _, _ => none
  | k + 1, x3, x4, x10 => if x10 = true then (some 3) else (if x3 = 2047 then (some 2) else (if x3 = 0 then (if x4 = 0 then (some 0) else (some 1)) else (some 1)))
def vernierref06_Class.f (k : Nat) (a0 : Int) : Option (Int) := if (Int.tmod (IntKind.u64.wrap (Int.tdiv a0 4503599627370496)) 2048) = 2047 then (vernierref06_Class.j0 k (Int.tmod (IntKind.u64.wrap (Int.tdiv a0 4503599627370496)) 2048) (Int.tmod a0 4503599627370496) (decide ((Int.tmod a0 4503599627370496) > 0))) else (vernierref06_Class.j0 k (Int.tmod (IntKind.u64.wrap (Int.tdiv a0 4503599627370496)) 2048) (Int.tmod a0 4503599627370496) false)
set_option maxHeartbeats 8000000 in
set_option maxRecDepth 100000 in
theorem vernierref06_Class.calls (k : Nat) (a0 : Int) (r : Int) (w : World) (h : vernierref06_Class.f k a0 = some r) :
    Calls Try.prog 35 #[.int .u64 a0] w fun e w' => e = .returned (.int .i64 r) ∧ Drawn0 w w' := by
  have H : (if (Int.tmod (IntKind.u64.wrap (Int.tdiv a0 4503599627370496)) 2048) = 2047 then (vernierref06_Class.j0 k (Int.tmod (IntKind.u64.wrap (Int.tdiv a0 4503599627370496)) 2048) (Int.tmod a0 4503599627370496) (decide ((Int.tmod a0 4503599627370496) > 0))) else (vernierref06_Class.j0 k (Int.tmod (IntKind.u64.wrap (Int.tdiv a0 4503599627370496)) 2048) (Int.tmod a0 4503599627370496) false)) = some r := h
  clear h
  have HC2 := Aside0.mk H
  clear H
  go_enter Try.func35, Try.ntmps35
  go_upto_region 2 with (fail)
  go_cut [10] (fun v10 wc => ∃ (kq : Nat) (x10_1 : Bool), v10 = .bool x10_1 ∧ Aside0 (vernierref06_Class.j0 kq (Int.tmod (IntKind.u64.wrap (Int.tdiv a0 4503599627370496)) 2048) (Int.tmod a0 4503599627370496) x10_1 = some r) ∧ Aside0 (kq ≤ k) ∧ Drawn0 w wc)
  case first =>
    have H := HC2.out
    clear HC2
    by_cases c3 : (Int.tmod (IntKind.u64.wrap (Int.tdiv a0 4503599627370496)) 2048) = 2047
    · rw [if_pos c3] at H
      have c3b0 : ((Int.tmod (IntKind.u64.wrap (Int.tdiv a0 4503599627370496)) 2048) == 2047) = true := beq_iff_eq.mpr c3
      have c3b1 : ((Int.tmod (IntKind.u64.wrap (Int.tdiv a0 4503599627370496)) 2048) != 2047) = false := bne_eq_false_iff_eq.mpr c3
      clear c3
      (first | rw [c3b0] | (simp only [i64_w, i32_w]; rw [c3b0]) | skip)
      have H' := Aside0.mk H
      clear H
      go_wp2
      go_meet
      case rel => exact ⟨_, (decide ((Int.tmod a0 4503599627370496) > 0)), (by first | rfl | (simp; done) | (simp [*]; done)), H', ⟨by first | omega | exact Nat.le_refl _⟩, by repeat (first | exact Drawn0.refl _ | apply Drawn0.step)⟩
    · rw [if_neg c3] at H
      have c3b0 : ((Int.tmod (IntKind.u64.wrap (Int.tdiv a0 4503599627370496)) 2048) == 2047) = false := beq_eq_false_iff_ne.mpr c3
      have c3b1 : ((Int.tmod (IntKind.u64.wrap (Int.tdiv a0 4503599627370496)) 2048) != 2047) = true := bne_iff_ne.mpr c3
      (first | rw [c3b0] | (simp only [i64_w, i32_w]; rw [c3b0]) | skip)
      have H' := Aside0.mk H
      clear H
      go_wp2
      go_meet
      case rel => exact ⟨_, (false), (by first | rfl | (simp; done) | (simp [*]; done)), H', ⟨by first | omega | exact Nat.le_refl _⟩, by repeat (first | exact Drawn0.refl _ | apply Drawn0.step)⟩
  case rest =>
    clear HC2
    try clear p2
    try clear c3
    try clear c3b0
    try clear c3b1
    obtain ⟨kq, x10_1, rfl, HA, HJ1, ⟨mc1, rfl⟩⟩ := hcut
    cases kq with
    | zero => exact absurd HA.out (by simp [vernierref06_Class.j0])
    | succ kj1 =>
      have H := HA.out
      clear HA
      simp only [vernierref06_Class.j0] at H
      by_cases c4 : x10_1 = true
      · subst c4
        have H1 : (some 3) = some r := by rw [if_pos rfl] at H; exact H
        clear H
        have H := H1
        clear H1
        obtain rfl := Option.some.inj H
        go_wp2
        go_ret
        exact ⟨by first | rfl | (simp; done) | (simp [*]; done), by repeat (first | exact Drawn0.refl _ | apply Drawn0.step)⟩
      · replace c4 := Bool.eq_false_iff.mpr c4
        subst c4
        have H1 : (if (Int.tmod (IntKind.u64.wrap (Int.tdiv a0 4503599627370496)) 2048) = 2047 then (some 2) else (if (Int.tmod (IntKind.u64.wrap (Int.tdiv a0 4503599627370496)) 2048) = 0 then (if (Int.tmod a0 4503599627370496) = 0 then (some 0) else (some 1)) else (some 1))) = some r := by rw [if_neg (show ¬ (false = true) by decide)] at H; exact H
        clear H
        have H := H1
        clear H1
        by_cases c5 : (Int.tmod (IntKind.u64.wrap (Int.tdiv a0 4503599627370496)) 2048) = 2047
        · rw [if_pos c5] at H
          have c5b0 : ((Int.tmod (IntKind.u64.wrap (Int.tdiv a0 4503599627370496)) 2048) == 2047) = true := beq_iff_eq.mpr c5
          have c5b1 : ((Int.tmod (IntKind.u64.wrap (Int.tdiv a0 4503599627370496)) 2048) != 2047) = false := bne_eq_false_iff_eq.mpr c5
          clear c5
          obtain rfl := Option.some.inj H
          go_wp2
          go_ret
          exact ⟨by first | rfl | (simp; done) | (simp [*]; done), by repeat (first | exact Drawn0.refl _ | apply Drawn0.step)⟩
        · rw [if_neg c5] at H
          have c5b0 : ((Int.tmod (IntKind.u64.wrap (Int.tdiv a0 4503599627370496)) 2048) == 2047) = false := beq_eq_false_iff_ne.mpr c5
          have c5b1 : ((Int.tmod (IntKind.u64.wrap (Int.tdiv a0 4503599627370496)) 2048) != 2047) = true := bne_iff_ne.mpr c5
          by_cases c6 : (Int.tmod (IntKind.u64.wrap (Int.tdiv a0 4503599627370496)) 2048) = 0
          · rw [if_pos c6] at H
            have c6b0 : ((Int.tmod (IntKind.u64.wrap (Int.tdiv a0 4503599627370496)) 2048) == 0) = true := beq_iff_eq.mpr c6
            have c6b1 : ((Int.tmod (IntKind.u64.wrap (Int.tdiv a0 4503599627370496)) 2048) != 0) = false := bne_eq_false_iff_eq.mpr c6
            clear c6
            by_cases c7 : (Int.tmod a0 4503599627370496) = 0
            · rw [if_pos c7] at H
              have c7b0 : ((Int.tmod a0 4503599627370496) == 0) = true := beq_iff_eq.mpr c7
              have c7b1 : ((Int.tmod a0 4503599627370496) != 0) = false := bne_eq_false_iff_eq.mpr c7
              clear c7
              obtain rfl := Option.some.inj H
              go_wp2
              go_ret
              exact ⟨by first | rfl | (simp; done) | (simp [*]; done), by repeat (first | exact Drawn0.refl _ | apply Drawn0.step)⟩
            · rw [if_neg c7] at H
              have c7b0 : ((Int.tmod a0 4503599627370496) == 0) = false := beq_eq_false_iff_ne.mpr c7
              have c7b1 : ((Int.tmod a0 4503599627370496) != 0) = true := bne_iff_ne.mpr c7
              obtain rfl := Option.some.inj H
              go_wp2
              go_ret
              exact ⟨by first | rfl | (simp; done) | (simp [*]; done), by repeat (first | exact Drawn0.refl _ | apply Drawn0.step)⟩
          · rw [if_neg c6] at H
            have c6b0 : ((Int.tmod (IntKind.u64.wrap (Int.tdiv a0 4503599627370496)) 2048) == 0) = false := beq_eq_false_iff_ne.mpr c6
            have c6b1 : ((Int.tmod (IntKind.u64.wrap (Int.tdiv a0 4503599627370496)) 2048) != 0) = true := bne_iff_ne.mpr c6
            obtain rfl := Option.some.inj H
            go_wp2
            go_ret
            exact ⟨by first | rfl | (simp; done) | (simp [*]; done), by repeat (first | exact Drawn0.refl _ | apply Drawn0.step)⟩
def vernierref06_Split.f (a0 : Int) : Option (Bool × Int × Int) := if (wrap64 (Int.tmod (IntKind.u64.wrap (Int.tdiv a0 4503599627370496)) 2048)) = 0 then (some (decide (a0 ≥ 9223372036854775808), Int.tmod a0 4503599627370496, (-1074))) else (some (decide (a0 ≥ 9223372036854775808), IntKind.u64.wrap ((Int.tmod a0 4503599627370496) + 4503599627370496), wrap64 ((wrap64 (Int.tmod (IntKind.u64.wrap (Int.tdiv a0 4503599627370496)) 2048)) - 1075)))
set_option maxHeartbeats 8000000 in
set_option maxRecDepth 100000 in
theorem vernierref06_Split.calls (a0 : Int) (r1 : Bool) (r2 : Int) (r3 : Int) (w : World) (h : vernierref06_Split.f a0 = some (r1, r2, r3)) :
    Calls Try.prog 56 #[.int .u64 a0] w fun e w' => e = .returned (.tuple #[.bool r1, .int .u64 r2, .int .i64 r3]) ∧ Drawn0 w w' := by
  have H : (if (wrap64 (Int.tmod (IntKind.u64.wrap (Int.tdiv a0 4503599627370496)) 2048)) = 0 then (some (decide (a0 ≥ 9223372036854775808), Int.tmod a0 4503599627370496, (-1074))) else (some (decide (a0 ≥ 9223372036854775808), IntKind.u64.wrap ((Int.tmod a0 4503599627370496) + 4503599627370496), wrap64 ((wrap64 (Int.tmod (IntKind.u64.wrap (Int.tdiv a0 4503599627370496)) 2048)) - 1075)))) = some (r1, r2, r3) := h
  clear h
  by_cases c2 : (wrap64 (Int.tmod (IntKind.u64.wrap (Int.tdiv a0 4503599627370496)) 2048)) = 0
  · rw [if_pos c2] at H
    have c2b0 : ((wrap64 (Int.tmod (IntKind.u64.wrap (Int.tdiv a0 4503599627370496)) 2048)) == 0) = true := beq_iff_eq.mpr c2
    have c2b1 : ((wrap64 (Int.tmod (IntKind.u64.wrap (Int.tdiv a0 4503599627370496)) 2048)) != 0) = false := bne_eq_false_iff_eq.mpr c2
    clear c2
    simp only [Option.some.injEq, Prod.mk.injEq] at H
    obtain ⟨rfl, rfl, rfl⟩ := H
    go_enter Try.func56, Try.ntmps56
    go_wp2
    go_ret3
    exact ⟨by first | rfl | (simp; done) | (simp [*]; done), by repeat (first | exact Drawn0.refl _ | apply Drawn0.step)⟩
  · rw [if_neg c2] at H
    have c2b0 : ((wrap64 (Int.tmod (IntKind.u64.wrap (Int.tdiv a0 4503599627370496)) 2048)) == 0) = false := beq_eq_false_iff_ne.mpr c2
    have c2b1 : ((wrap64 (Int.tmod (IntKind.u64.wrap (Int.tdiv a0 4503599627370496)) 2048)) != 0) = true := bne_iff_ne.mpr c2
    simp only [Option.some.injEq, Prod.mk.injEq] at H
    obtain ⟨rfl, rfl, rfl⟩ := H
    go_enter Try.func56, Try.ntmps56
    go_wp2
    go_ret3
    exact ⟨by first | rfl | (simp; done) | (simp [*]; done), by repeat (first | exact Drawn0.refl _ | apply Drawn0.step)⟩
def vernierref01_Shl.l0 : Nat → List Int → Int → List Int → Int → Int → Option (List Int)
  | 0, _, _, _, _, _ => none
  | k + 1, x0, x1, x5, x6, x7 => if x7 < (Int.tmod x1 16) then (vernierref01_Shl.l0 k x0 x1 x5 (wrap64 (2 * x6)) (wrap64 (x7 + 1))) else ((vernierref01_Mul.f k x0 (([x6] : List Int))).bind fun t550 => (if x5.length + t550.length < 17592186044416 then ((vernierref01_cut.f k (x5 ++ t550)).bind fun t556 => (some t556)) else (none)))
def vernierref01_Shl.f (k : Nat) (l0 : List Int) (a1 : Int) : Option (List Int) := if 0 ≤ (wrap64 (Int.tdiv a1 16)) then (if (wrap64 (Int.tdiv a1 16) : Int).toNat ≤ 35184372088832 then (vernierref01_Shl.l0 k l0 a1 (List.replicate (wrap64 (Int.tdiv a1 16) : Int).toNat 0) 1 0) else (none)) else (none)
set_option maxHeartbeats 8000000 in
set_option maxRecDepth 100000 in
theorem vernierref01_Shl.calls (k : Nat) (A0 : Option Addr) (c0 : Nat) (l0 : List Int) (a1 : Int) (r : List Int) (w : World) (hr0 : Kd.C (Kd.int .i64) w A0 l0.length l0) (hc0 : l0.length ≤ c0) (h : vernierref01_Shl.f k l0 a1 = some r) :
    Calls Try.prog 49 #[.slice A0 l0.length c0, .int .i64 a1] w fun e w' => ∃ v0_ : Value, e = .returned (v0_) ∧ Kd.R (Kd.int .i64) 3 w' w.heap.size (fun _ => True) v0_ r ∧ Below w.heap.size w w' := by
  have HR0 := Aside0.mk hr0
  have HC0 := Aside0.mk hc0
  clear hr0 hc0
  have HB := Aside0.mk (Below.refl w.heap.size w)
  have H : (if 0 ≤ (wrap64 (Int.tdiv a1 16)) then (if (wrap64 (Int.tdiv a1 16) : Int).toNat ≤ 35184372088832 then (vernierref01_Shl.l0 k l0 a1 (List.replicate (wrap64 (Int.tdiv a1 16) : Int).toNat 0) 1 0) else (none)) else (none)) = some r := h
  clear h
  obtain ⟨ji3, hji3⟩ : ∃ j_ : Int, (wrap64 (Int.tdiv a1 16)) = j_ := ⟨_, rfl⟩
  replace H : (if 0 ≤ (ji3) then (if (ji3 : Int).toNat ≤ 35184372088832 then (vernierref01_Shl.l0 k l0 a1 (List.replicate (ji3 : Int).toNat 0) 1 0) else (none)) else (none)) = some r := by first | (rw [hji3] at H; exact H) | (simp only [hji3] at H ⊢; exact H)
  have hji3w : (IntKind.i64.wrap (Int.tdiv a1 16)) = ji3 := (i64_w _).trans hji3
  by_cases c4 : 0 ≤ (ji3)
  · rw [if_pos c4] at H
    have c4b0 := eq_true c4
    have c4b1 : decide (0 ≤ (ji3)) = true := decide_eq_true c4
    clear c4
    by_cases c5 : (ji3 : Int).toNat ≤ 35184372088832
    · rw [if_pos c5] at H
      have c5b0 := eq_true c5
      have c5b1 : decide ((ji3 : Int).toNat ≤ 35184372088832) = true := decide_eq_true c5
      clear c5
      obtain ⟨y544, hy544⟩ : ∃ y_ : List Int, y_ = (List.replicate (ji3 : Int).toNat 0) := ⟨_, rfl⟩
      replace H : (vernierref01_Shl.l0 k l0 a1 y544 1 0) = some r := by first | (rw [hy544]; with_reducible exact H) | (have H2_ := (Option.bind_some _ _).symm.trans H; rw [hy544]; with_reducible exact H2_) | (have H2_ := (Option.bind_some _ _).symm.trans H; with_reducible exact H2_) | with_reducible exact H | (rw [hy544]; exact H) | exact H
      have Ny544 := Aside0.mk hy544
      clear hy544
      have H' := Aside0.mk H
      clear H
      go_enter Try.func49, Try.ntmps49
      go_wp2_with (first | ((with_reducible refine gate_dst (N := 10) rfl ?_); refine Kd.R_make (Kd.int .i64) _ 3 rfl (N := 10) rfl 26 _ _ rfl ji3 rfl rfl Try.underlying26 (.int .i64 0) 8 info3 rfl (by decide) (by omega) 0 (ok := fun _ => True) (okp := fun _ => True) rfl (fun _ hk => hk) trivial (of_decide_eq_true (by first | (with_reducible assumption) | assumption)) (Nat.le_trans (Nat.mul_le_mul_right _ (of_decide_eq_true (by first | (with_reducible assumption) | assumption) : ji3.toNat ≤ 35184372088832)) (by omega)) (Below.refl _ _) (Nat.le_refl _) ?_; intro v545 w6 ho7 hb hg_ hnew_; clear hg_ hnew_; (first | rw [← Ny544.out] at ho7 | (simp only [Int.reduceToNat] at ho7; rw [← Ny544.out] at ho7)); have n0_ := Aside0.mk (Kd.R_lower ho7 (below_size (by repeat (first | (with_reducible first | exact HB.out | apply below_alloc | apply pw_below_drewN | apply below_drew1) | exact HB.out)))); have n1_ := Aside0.mk (below_step (by repeat (first | (with_reducible first | exact HB.out | apply below_alloc | apply pw_below_drewN | apply below_drew1) | exact HB.out)) hb); clear HB; have HO546 := n0_; have HB := n1_; clear n0_ n1_; clear hb ho7))
      go_loopg [6, 7] k (fun kq v6 v7 w' => ∃ (x6_1 : Int) (x7_1 : Int), v6 = .int .i64 x6_1 ∧ v7 = .int .i64 x7_1 ∧ Aside0 (vernierref01_Shl.l0 kq l0 a1 y544 x6_1 x7_1 = some r) ∧ Aside0 (kq ≤ k) ∧ Aside0 (Kd.R (Kd.int .i64) 3 w' w.heap.size (fun _ => True) v545 y544) ∧ Aside0 (Below w.heap.size w w'))
      case atStart => exact ⟨(1), (0), (by first | rfl | (simp; done) | (simp [*]; done)), (by first | rfl | (simp; done) | (simp [*]; done)), H', ⟨Nat.le_refl _⟩, ⟨by (with_reducible repeat (first | apply Kd.R_alloc | apply Kd.R_drewN | apply Kd.R_drew)); exact HO546.out⟩, ⟨by repeat (first | (with_reducible first | exact HB.out | apply below_alloc | apply pw_below_drewN | apply below_drew1) | exact HB.out)⟩⟩
      case round =>
        clear H'
        try clear p2
        try clear c4
        try clear c4b0
        try clear c4b1
        try clear c5
        try clear c5b0
        try clear c5b1
        try clear p6
        obtain ⟨x6_1, x7_1, rfl, rfl, HA, HK1, HO_5, HB⟩ := hrel
        cases gk with
        | zero => exact absurd HA.out (by simp [vernierref01_Shl.l0])
        | succ k1 =>
          have H := HA.out
          clear HA
          simp only [vernierref01_Shl.l0] at H
          by_cases c8 : x7_1 < (Int.tmod a1 16)
          · rw [if_pos c8] at H
            have c8b0 : decide (x7_1 < (Int.tmod a1 16)) = true := decide_eq_true c8
            clear c8
            have H' := Aside0.mk H
            clear H
            go_wp2
            go_roundg k1
            case measure => have := HK1.out; omega
            case rel => exact ⟨(wrap64 (2 * x6_1)), (wrap64 (x7_1 + 1)), (by first | rfl | (simp; done) | (simp [*]; done)), (by first | rfl | (simp; done) | (simp [*]; done)), H', ⟨by have := HK1.out; omega⟩, ⟨by (with_reducible repeat (first | apply Kd.R_alloc | apply Kd.R_drewN | apply Kd.R_drew)); exact HO_5.out⟩, ⟨by repeat (first | (with_reducible first | exact HB.out | apply below_alloc | apply pw_below_drewN | apply below_drew1) | exact HB.out)⟩⟩
          · rw [if_neg c8] at H
            have c8b0 : decide (x7_1 < (Int.tmod a1 16)) = false := decide_eq_false c8
            clear c8
            obtain ⟨y547, hy547⟩ : ∃ y_ : List Int, y_ = (([x6_1] : List Int)) := ⟨_, rfl⟩
            replace H : ((vernierref01_Mul.f k1 l0 y547).bind fun t550 => (if y544.length + t550.length < 17592186044416 then ((vernierref01_cut.f k1 (y544 ++ t550)).bind fun t556 => (some t556)) else (none))) = some r := by first | (rw [hy547]; with_reducible exact H) | (have H2_ := (Option.bind_some _ _).symm.trans H; rw [hy547]; with_reducible exact H2_) | (have H2_ := (Option.bind_some _ _).symm.trans H; with_reducible exact H2_) | with_reducible exact H | (rw [hy547]; exact H) | exact H
            have Ny547 := Aside0.mk hy547
            clear hy547
            replace H := Option.bind_eq_some_iff.mp H
            obtain ⟨t550, A90, H⟩ := H
            replace H : (if y544.length + t550.length < 17592186044416 then ((vernierref01_cut.f k1 (y544 ++ t550)).bind fun t556 => (some t556)) else (none)) = some r := H
            have A9 := Aside0.mk A90
            clear A90
            by_cases c10 : y544.length + t550.length < 17592186044416
            · rw [if_pos c10] at H
              have LMc10 := Aside0.mk c10
              clear c10
              obtain ⟨y553, hy553⟩ : ∃ y_ : List Int, y_ = (y544 ++ t550) := ⟨_, rfl⟩
              replace H : ((vernierref01_cut.f k1 y553).bind fun t556 => (some t556)) = some r := by first | (rw [hy553]; with_reducible exact H) | (have H2_ := (Option.bind_some _ _).symm.trans H; rw [hy553]; with_reducible exact H2_) | (have H2_ := (Option.bind_some _ _).symm.trans H; with_reducible exact H2_) | with_reducible exact H | (rw [hy553]; exact H) | exact H
              have Ny553 := Aside0.mk hy553
              clear hy553
              replace H := Option.bind_eq_some_iff.mp H
              obtain ⟨t556, A110, H⟩ := H
              replace H : (some t556) = some r := H
              have A11 := Aside0.mk A110
              clear A110
              obtain rfl := Option.some.inj H
              go_wp2_with (first | ((with_reducible refine gate_dst (N := 22) rfl ?_); refine Kd.R_lit (Kd.int .i64) _ 3 ?hg (N := 22) ?hd (xs := ([x6_1] : List Int)) (inner := [.int .i64 x6_1]) (ok := fun _ => True) (okp := fun _ => True) ?hr ?hp (fun _ hk => hk) trivial (Below.refl _ _) (Nat.le_refl _) (by simp) ?_; (case hd => rfl); (case hg => rfl); (case hr => first | (go_simp; done) | (go_simp; rfl)); (case hp => exact (Reps.one (show Kd.M (Kd.int .i64) _ _ _ x6_1 [.int .i64 x6_1] from rfl) (Reps.none _ _))); intro v548 w12 ho13 hb hg_ hnew_; clear hg_ hnew_; (first | rw [← Ny547.out] at ho13 | (simp only [Int.reduceToNat] at ho13; rw [← Ny547.out] at ho13)); have n0_ := Aside0.mk (Kd.R_elder' (by (with_reducible repeat (first | apply Kd.R_alloc | apply Kd.R_drewN | apply Kd.R_drew)); exact HO_5.out) (Kd.R_base ho13) hb); have n1_ := Aside0.mk (Kd.R_lower (Kd.R_new' ho13 (Kd.R_lt (by (with_reducible repeat (first | apply Kd.R_alloc | apply Kd.R_drewN | apply Kd.R_drew)); exact HO_5.out))) (below_size (by repeat (first | (with_reducible first | exact HB.out | apply below_alloc | apply pw_below_drewN | apply below_drew1) | exact HB.out)))); have n2_ := Aside0.mk (below_step (by repeat (first | (with_reducible first | exact HB.out | apply below_alloc | apply pw_below_drewN | apply below_drew1) | exact HB.out)) hb); clear HO_5; clear HB; have HO_5 := n0_; have HO549 := n1_; have HB := n2_; clear n0_ n1_ n2_; clear hb ho13; obtain ⟨Ao14, co14, eo14⟩ := Kd.R_slice HO549.out; subst eo14) | ((with_reducible refine gate_callee (f := 18) rfl ?_); refine goesL_ (some 23) rfl rfl Try.func18 (by kernel_rfl) rfl #[.slice A0 l0.length c0, .slice Ao14 y547.length co14] rfl (by (try simp only [List.map_toArray, List.map_cons, List.map_nil]); first | done | rfl | (simp only [List.length_drop, List.length_take]; rfl)) ?_; (with_reducible refine (vernierref01_Mul.calls k1 _ _ l0 _ _ y547 t550 _ ?side1 ?side2 ?side3 ?side4 A9.out).mono ?_); (case side1 => repeat (first | exact (Kd.C_below HR0.out HB.out) | (with_reducible refine Kd.C_alloc ?_ _) | (with_reducible refine Kd.C_drewN ?_ _) | (with_reducible refine Kd.C_drew ?_))); (case side2 => exact HC0.out); (case side3 => repeat (first | exact (Kd.R_reads' HO549.out).2.2 | (with_reducible refine Kd.C_alloc ?_ _) | (with_reducible refine Kd.C_drewN ?_ _) | (with_reducible refine Kd.C_drew ?_))); (case side4 => exact (Kd.R_reads' HO549.out).2.1); rintro e w15 ⟨v551, rfl, ho0, hb⟩; refine ⟨_, rfl, ?_⟩; have n0_ := Aside0.mk (Kd.R_elder' (by (with_reducible repeat (first | apply Kd.R_alloc | apply Kd.R_drewN | apply Kd.R_drew)); exact HO_5.out) (Kd.R_base ho0) hb); have n1_ := Aside0.mk (Kd.R_elder' (by (with_reducible repeat (first | apply Kd.R_alloc | apply Kd.R_drewN | apply Kd.R_drew)); exact HO549.out) (Kd.R_base ho0) hb); have n2_ := Aside0.mk (Kd.R_lower (Kd.R_new' (Kd.R_new' ho0 (Kd.R_lt (by (with_reducible repeat (first | apply Kd.R_alloc | apply Kd.R_drewN | apply Kd.R_drew)); exact HO_5.out))) (Kd.R_lt (by (with_reducible repeat (first | apply Kd.R_alloc | apply Kd.R_drewN | apply Kd.R_drew)); exact HO549.out))) (below_size (by repeat (first | (with_reducible first | exact HB.out | apply below_alloc | apply pw_below_drewN | apply below_drew1) | exact HB.out)))); have n3_ := Aside0.mk (below_step (by repeat (first | (with_reducible first | exact HB.out | apply below_alloc | apply pw_below_drewN | apply below_drew1) | exact HB.out)) hb); clear HO_5; clear HO549; clear HB; have HO_5 := n0_; have HO549 := n1_; have HO552 := n2_; have HB := n3_; clear n0_ n1_ n2_ n3_; (try clear hb); (try clear hb2); (try clear hk); (try clear hi); (try clear ho0); obtain ⟨Ao17, co17, eo17⟩ := Kd.R_slice HO552.out; subst eo17) | ((with_reducible refine gate_builtin (b := .append) (xs := #[.tmp 19, .tmp 23]) rfl ?_); at_builtin; refine Kd.R_append_rows (Kd.int .i64) (w0 := w) w.heap.size rfl (.tmp 19) (.tmp 23) 26 3 (.int .i64 0) 8 rfl Try.underlying26 info3 rfl (by decide) (by omega) v545 y544 t550 _ _ _ (fun k_ => some k_ ≠ (.slice Ao14 y547.length co14 : Value).ownBlock ∧ some k_ ≠ (.slice Ao17 t550.length co17 : Value).ownBlock) (fun _ => False) rfl rfl ?aO ?aR (fun _ _ h => h) (fun _ h => h.elim) ?aF ?aB ?aS ?aL ?_; (case aR => repeat (first | exact (Kd.R_reads' HO552.out).2.2 | (with_reducible refine Kd.C_alloc ?_ _) | (with_reducible refine Kd.C_drewN ?_ _) | (with_reducible refine Kd.C_drew ?_))); (case aB => exact (by repeat (first | (with_reducible first | exact HB.out | apply below_alloc | apply pw_below_drewN | apply below_drew1) | exact HB.out))); (case aF => exact (fun k_ hk => ⟨Kd.fresh' (Kd.R_lt (by (with_reducible repeat (first | apply Kd.R_alloc | apply Kd.R_drewN | apply Kd.R_drew)); exact HO549.out)) k_ hk, Kd.fresh' (Kd.R_lt (by (with_reducible repeat (first | apply Kd.R_alloc | apply Kd.R_drewN | apply Kd.R_drew)); exact HO552.out)) k_ hk⟩)); (case aO => exact (by (with_reducible repeat (first | apply Kd.R_alloc | apply Kd.R_drewN | apply Kd.R_drew)); exact Kd.R_mono HO_5.out (fun _ hk => ⟨hk.1.2, hk.2⟩))); (case aS => exact (below_size (by repeat (first | (with_reducible first | exact HB.out | apply below_alloc | apply pw_below_drewN | apply below_drew1) | exact HB.out)))); (case aL => have := LMc10.out; omega); intro v554 w16 ho hb hg hat; rw [← Ny553.out] at ho; have n0_ := Aside0.mk (Kd.R_after (ok := (fun k_ => some k_ ≠ (.slice Ao17 t550.length co17 : Value).ownBlock)) (by (with_reducible repeat (first | apply Kd.R_alloc | apply Kd.R_drewN | apply Kd.R_drew)); exact Kd.R_mono HO549.out (fun _ hk => ⟨hk.2, hk.1.2⟩)) hg hat); have n1_ := Aside0.mk (Kd.R_after (ok := (fun k_ => some k_ ≠ (.slice Ao14 y547.length co14 : Value).ownBlock)) (by (with_reducible repeat (first | apply Kd.R_alloc | apply Kd.R_drewN | apply Kd.R_drew)); exact Kd.R_mono HO552.out (fun _ hk => ⟨hk.2, hk.1.2⟩)) hg hat); have n2_ := Aside0.mk (hb); have n3_ := Aside0.mk (ho); clear HO549; clear HO552; clear HB; clear HO_5; have HO549 := n0_; have HO552 := n1_; have HB := n2_; have HO555 := n3_; clear n0_ n1_ n2_ n3_; clear ho hb hg hat; obtain ⟨Ao18, co18, eo18⟩ := Kd.R_slice HO555.out; subst eo18) | ((with_reducible refine gate_callee (f := 71) rfl ?_); refine goesL_ (some 25) rfl rfl Try.func71 (by kernel_rfl) rfl #[.slice Ao18 y553.length co18] rfl (by (try simp only [List.map_toArray, List.map_cons, List.map_nil]); first | done | rfl | (simp only [List.length_drop, List.length_take]; rfl)) ?_; (with_reducible refine (vernierref01_cut.calls k1 (fun k_ => some k_ = (.slice Ao18 y553.length co18 : Value).ownBlock) (.slice Ao18 y553.length co18) y553 t556 w _ ?side1 ?side2 A11.out).mono ?_); (case side1 => repeat (first | (with_reducible first | exact HB.out | apply below_alloc | apply pw_below_drewN | apply below_drew1) | exact HB.out)); (case side2 => exact Kd.R_tight rfl HO555.out); rintro e w19 ⟨v557, rfl, ho0, hb, hkp⟩; refine ⟨_, rfl, ?_⟩; have n0_ := Aside0.mk (Kd.R_mono (ok' := fun k_ => some k_ ≠ (.slice Ao17 t550.length co17 : Value).ownBlock ∧ some k_ ≠ (v557 : Value).ownBlock) (Kd.R_keptB (HO549.out) hkp (fun k_ hk_ hs_ => (hk_.2) hs_)) (fun k_ hk_ => ⟨hk_.1.1, fun e_ => Or.elim (ho0.1 k_ e_.symm) (fun hs_ => hk_.2.1 hs_) (fun hn_ => Nat.not_le.2 hk_.2.2 hn_)⟩)); have n1_ := Aside0.mk (Kd.R_mono (ok' := fun k_ => some k_ ≠ (.slice Ao14 y547.length co14 : Value).ownBlock ∧ some k_ ≠ (v557 : Value).ownBlock) (Kd.R_keptB (HO552.out) hkp (fun k_ hk_ hs_ => (hk_.2) hs_)) (fun k_ hk_ => ⟨hk_.1.1, fun e_ => Or.elim (ho0.1 k_ e_.symm) (fun hs_ => hk_.2.1 hs_) (fun hn_ => Nat.not_le.2 hk_.2.2 hn_)⟩)); have n2_ := Aside0.mk (Kd.R_mono (ok' := fun k_ => some k_ ≠ (.slice Ao14 y547.length co14 : Value).ownBlock ∧ some k_ ≠ (.slice Ao17 t550.length co17 : Value).ownBlock) ho0 (fun k_ hk_ => ⟨Or.elim hk_ (fun hs_ => fun e_ => (((HO549.out).1 k_ e_.symm).2) hs_) (fun hn_ => (Kd.fresh' (Kd.R_lt (by (with_reducible repeat (first | apply Kd.R_alloc | apply Kd.R_drewN | apply Kd.R_drew)); exact HO549.out)) k_ hn_)), Or.elim hk_ (fun hs_ => fun e_ => (((HO552.out).1 k_ e_.symm).2) hs_) (fun hn_ => (Kd.fresh' (Kd.R_lt (by (with_reducible repeat (first | apply Kd.R_alloc | apply Kd.R_drewN | apply Kd.R_drew)); exact HO552.out)) k_ hn_))⟩)); have n3_ := Aside0.mk (hb); clear HO549; clear HO552; clear HB; clear HO555; have HO549 := n0_; have HO552 := n1_; have HO558 := n2_; have HB := n3_; clear n0_ n1_ n2_ n3_; (try clear hb); (try clear hkp); (try clear ho0)))
              go_ret
              exact ⟨_, by first | rfl | (simp [errW_none, errW_some] <;> rfl) | (simp only [← hji3]; first | rfl | (simp [errW_none, errW_some] <;> rfl)) | (simp [*, errW_none, errW_some] <;> rfl), by (with_reducible repeat (first | apply Kd.R_alloc | apply Kd.R_drewN | apply Kd.R_drew)); exact Kd.R_mono HO558.out (fun _ hk => trivial), by repeat (first | (with_reducible first | exact HB.out | apply below_alloc | apply pw_below_drewN | apply below_drew1) | exact HB.out)⟩
            · rw [if_neg c10] at H
              exact absurd H (by simp)
    · rw [if_neg c5] at H
      exact absurd H (by simp)
  · rw [if_neg c4] at H
    exact absurd H (by simp)
def vernierref06_Zero.f (a0 : Bool) : Option (Int) := if a0 = true then (some 9223372036854775808) else (some 0)
set_option maxHeartbeats 8000000 in
set_option maxRecDepth 100000 in
theorem vernierref06_Zero.calls (a0 : Bool) (r : Int) (w : World) (h : vernierref06_Zero.f a0 = some r) :
    Calls Try.prog 107 #[.bool a0] w fun e w' => e = .returned (.int .u64 r) ∧ Drawn0 w w' := by
  have H : (if a0 = true then (some 9223372036854775808) else (some 0)) = some r := h
  clear h
  by_cases c2 : a0 = true
  · subst c2
    have H1 : (some 9223372036854775808) = some r := by rw [if_pos rfl] at H; exact H
    clear H
    have H := H1
    clear H1
    obtain rfl := Option.some.inj H
    go_enter Try.func107, Try.ntmps107
    go_wp2
    go_ret
    exact ⟨by first | rfl | (simp; done) | (simp [*]; done), by repeat (first | exact Drawn0.refl _ | apply Drawn0.step)⟩
  · replace c2 := Bool.eq_false_iff.mpr c2
    subst c2
    have H1 : (some 0) = some r := by rw [if_neg (show ¬ (false = true) by decide)] at H; exact H
    clear H
    have H := H1
    clear H1
    obtain rfl := Option.some.inj H
    go_enter Try.func107, Try.ntmps107
    go_wp2
    go_ret
    exact ⟨by first | rfl | (simp; done) | (simp [*]; done), by repeat (first | exact Drawn0.refl _ | apply Drawn0.step)⟩
end Go.Proofs.Ytfmdjhfnbiekaaa.PA
