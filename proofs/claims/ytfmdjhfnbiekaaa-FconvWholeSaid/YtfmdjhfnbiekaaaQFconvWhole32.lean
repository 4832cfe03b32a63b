/- Contracts of Go functions: each call answers what the Lean function of its name answers. Written by a program of this session (vprint.py) round the print of the kit. -/
import Derived.Test.YtfmdjhfnbiekaaaQFconvWhole12
import Derived.Test.YtfmdjhfnbiekaaaQFconvWhole28
import Derived.Test.YtfmdjhfnbiekaaaQFconvWhole31
import Derived.Test.YtfmdjhfnbiekaaaQFconvWhole17
import Derived.Test.YtfmdjhfnbiekaaaQFconvWhole19
namespace Go.Proofs.Ytfmdjhfnbiekaaa.PF
open Go.RowKit Go.Proofs.YtfmdjhfnbiekaaaW.PrintWords Go.Proofs.YtfmdjhfnbiekaaaW.PrintLast Go.Proofs.YtfmdjhfnbiekaaaW.PrintMore
attribute [local go_sem] max2_int min2_int max_two min_two max_three min_three max_four min_four
set_option linter.unusedVariables false
set_option linter.unusedSimpArgs false
attribute [local go_sem] fld136_1
def fadd_lift.f (a0 : Int) (a1 : Int) : Option (Int × Int) := if a1 = 0 then (some (0, a0)) else (if 0 ≤ (wrap64 (64 - a1)) then (if 0 ≤ a1 then (some (shr .u64 a0 (wrap64 (64 - a1)), shl .u64 a0 a1)) else (none)) else (none))
set_option maxHeartbeats 8000000 in
set_option maxRecDepth 100000 in
theorem fadd_lift.calls (a0 : Int) (a1 : Int) (r1 : Int) (r2 : Int) (w : World) (h : fadd_lift.f a0 a1 = some (r1, r2)) :
    Calls Try.prog 105 #[.int .u64 a0, .int .i64 a1] w fun e w' => e = .returned (.tuple #[.int .u64 r1, .int .u64 r2]) ∧ Drawn0 w w' := by
  have H : (if a1 = 0 then (some (0, a0)) else (if 0 ≤ (wrap64 (64 - a1)) then (if 0 ≤ a1 then (some (shr .u64 a0 (wrap64 (64 - a1)), shl .u64 a0 a1)) else (none)) else (none))) = some (r1, r2) := h
  clear h
  by_cases c3 : a1 = 0
  · rw [if_pos c3] at H
    have c3b0 : (a1 == 0) = true := beq_iff_eq.mpr c3
    have c3b1 : (a1 != 0) = false := bne_eq_false_iff_eq.mpr c3
    clear c3
    simp only [Option.some.injEq, Prod.mk.injEq] at H
    obtain ⟨rfl, rfl⟩ := H
    go_enter Try.func105, Try.ntmps105
    go_wp2
    repeat (go_quiet (fail); try go_wp2)
    go_ret2
    exact ⟨by first | rfl | (simp; done) | (simp [*]; done), by repeat (first | exact Drawn0.refl _ | apply Drawn0.step)⟩
  · rw [if_neg c3] at H
    have c3b0 : (a1 == 0) = false := beq_eq_false_iff_ne.mpr c3
    have c3b1 : (a1 != 0) = true := bne_iff_ne.mpr c3
    obtain ⟨ji4, hji4⟩ : ∃ j_ : Int, (wrap64 (64 - a1)) = j_ := ⟨_, rfl⟩
    replace H : (if 0 ≤ (ji4) then (if 0 ≤ a1 then (some (shr .u64 a0 (ji4), shl .u64 a0 a1)) else (none)) else (none)) = some (r1, r2) := by first | (rw [hji4] at H; exact H) | (simp only [hji4] at H ⊢; exact H)
    have hji4w : (IntKind.i64.wrap (64 - a1)) = ji4 := (i64_w _).trans hji4
    by_cases c5 : 0 ≤ (ji4)
    · rw [if_pos c5] at H
      have c5b0 := eq_true c5
      have c5b1 : decide (0 ≤ (ji4)) = true := decide_eq_true c5
      clear c5
      obtain ⟨ji6, hji6⟩ : ∃ j_ : Int, (shr .u64 a0 (ji4)) = j_ := ⟨_, rfl⟩
      replace H : (if 0 ≤ a1 then (some (ji6, shl .u64 a0 a1)) else (none)) = some (r1, r2) := by first | (rw [hji6] at H; exact H) | (simp only [hji6] at H ⊢; exact H)
      have hji6_ : (a0 / 2 ^ min (ji4).toNat 64) = ji6 := hji6
      have hji6z : (ji4) ≤ 64 → (a0 / 2 ^ (ji4).toNat) = ji6 := shr_small hji6
      by_cases c7 : 0 ≤ a1
      · rw [if_pos c7] at H
        have c7b0 := eq_true c7
        have c7b1 : decide (0 ≤ a1) = true := decide_eq_true c7
        clear c7
        obtain ⟨ji8, hji8⟩ : ∃ j_ : Int, (shl .u64 a0 a1) = j_ := ⟨_, rfl⟩
        replace H : (some (ji6, ji8)) = some (r1, r2) := by first | (rw [hji8] at H; exact H) | (simp only [hji8] at H ⊢; exact H)
        have hji8_ : (IntKind.u64.wrap (a0 * 2 ^ min a1.toNat 64)) = ji8 := hji8
        have hji8z : a1 ≤ 64 → (IntKind.u64.wrap (a0 * 2 ^ a1.toNat)) = ji8 := shl_small hji8
        simp only [Option.some.injEq, Prod.mk.injEq] at H
        obtain ⟨rfl, rfl⟩ := H
        go_enter Try.func105, Try.ntmps105
        go_wp2
        repeat (go_quiet (fail); try go_wp2)
        go_ret2
        exact ⟨by first | rfl | (simp; done) | (simp only [← hji4, ← hji6, ← hji8] <;> (first | rfl | simp)) | (simp [*]; done), by repeat (first | exact Drawn0.refl _ | apply Drawn0.step)⟩
      · rw [if_neg c7] at H
        exact absurd H (by simp)
    · rw [if_neg c5] at H
      exact absurd H (by simp)
def fadd_join.f (a0 : Int) (a1 : Int) (a2 : Int) (a3 : Bool) (a4 : Bool) : Option (Int × Int) := if a3 = true then (if a4 = true then ((bits_Sub64.f a1 a2 1).bind fun bt701 => (some (IntKind.u64.wrap (a0 - bt701.2), bt701.1))) else ((bits_Sub64.f a1 a2 0).bind fun bt703 => (some (IntKind.u64.wrap (a0 - bt703.2), bt703.1)))) else ((bits_Add64.f a1 a2 0).bind fun bt705 => (some (IntKind.u64.wrap (a0 + bt705.2), bt705.1)))
set_option maxHeartbeats 8000000 in
set_option maxRecDepth 100000 in
theorem fadd_join.calls (a0 : Int) (a1 : Int) (a2 : Int) (a3 : Bool) (a4 : Bool) (r1 : Int) (r2 : Int) (w : World) (h : fadd_join.f a0 a1 a2 a3 a4 = some (r1, r2)) :
    Calls Try.prog 106 #[.int .u64 a0, .int .u64 a1, .int .u64 a2, .bool a3, .bool a4] w fun e w' => e = .returned (.tuple #[.int .u64 r1, .int .u64 r2]) ∧ Drawn0 w w' := by
  have H : (if a3 = true then (if a4 = true then ((bits_Sub64.f a1 a2 1).bind fun bt701 => (some (IntKind.u64.wrap (a0 - bt701.2), bt701.1))) else ((bits_Sub64.f a1 a2 0).bind fun bt703 => (some (IntKind.u64.wrap (a0 - bt703.2), bt703.1)))) else ((bits_Add64.f a1 a2 0).bind fun bt705 => (some (IntKind.u64.wrap (a0 + bt705.2), bt705.1)))) = some (r1, r2) := h
  clear h
  by_cases c6 : a3 = true
  · subst c6
    have H1 : (if a4 = true then ((bits_Sub64.f a1 a2 1).bind fun bt701 => (some (IntKind.u64.wrap (a0 - bt701.2), bt701.1))) else ((bits_Sub64.f a1 a2 0).bind fun bt703 => (some (IntKind.u64.wrap (a0 - bt703.2), bt703.1)))) = some (r1, r2) := by rw [if_pos rfl] at H; exact H
    clear H
    have H := H1
    clear H1
    by_cases c7 : a4 = true
    · subst c7
      have H1 : ((bits_Sub64.f a1 a2 1).bind fun bt701 => (some (IntKind.u64.wrap (a0 - bt701.2), bt701.1))) = some (r1, r2) := by rw [if_pos rfl] at H; exact H
      clear H
      have H := H1
      clear H1
      replace H := Option.bind_eq_some_iff.mp H
      obtain ⟨⟨t701, t702⟩, A80, H⟩ := H
      replace H : (some (IntKind.u64.wrap (a0 - t702), t701)) = some (r1, r2) := H
      have A8 := Aside0.mk A80
      clear A80
      simp only [Option.some.injEq, Prod.mk.injEq] at H
      obtain ⟨rfl, rfl⟩ := H
      go_enter Try.func106, Try.ntmps106
      go_wp2_with (first | ((with_reducible refine gate_callee (f := 103) rfl ?_); refine goesX_ (some 34) rfl rfl #[.int .u64 a1, .int .u64 a2, .int .u64 1] rfl (by (try simp only [List.map_toArray, List.map_cons, List.map_nil]); first | done | rfl) ?_; (with_reducible refine (bits_Sub64.calls a1 a2 1 t701 t702 _ A8.out).mono ?_); rintro e w' ⟨rfl, ⟨nd, rfl⟩⟩; refine ⟨_, rfl, ?_⟩))
      go_ret2
      exact ⟨by first | rfl | (simp; done) | (simp [*]; done), by repeat (first | exact Drawn0.refl _ | apply Drawn0.step)⟩
    · replace c7 := Bool.eq_false_iff.mpr c7
      subst c7
      have H1 : ((bits_Sub64.f a1 a2 0).bind fun bt703 => (some (IntKind.u64.wrap (a0 - bt703.2), bt703.1))) = some (r1, r2) := by rw [if_neg (show ¬ (false = true) by decide)] at H; exact H
      clear H
      have H := H1
      clear H1
      replace H := Option.bind_eq_some_iff.mp H
      obtain ⟨⟨t703, t704⟩, A90, H⟩ := H
      replace H : (some (IntKind.u64.wrap (a0 - t704), t703)) = some (r1, r2) := H
      have A9 := Aside0.mk A90
      clear A90
      simp only [Option.some.injEq, Prod.mk.injEq] at H
      obtain ⟨rfl, rfl⟩ := H
      go_enter Try.func106, Try.ntmps106
      go_wp2_with (first | ((with_reducible refine gate_callee (f := 103) rfl ?_); refine goesX_ (some 34) rfl rfl #[.int .u64 a1, .int .u64 a2, .int .u64 0] rfl (by (try simp only [List.map_toArray, List.map_cons, List.map_nil]); first | done | rfl) ?_; (with_reducible refine (bits_Sub64.calls a1 a2 0 t703 t704 _ A9.out).mono ?_); rintro e w' ⟨rfl, ⟨nd, rfl⟩⟩; refine ⟨_, rfl, ?_⟩))
      go_ret2
      exact ⟨by first | rfl | (simp; done) | (simp [*]; done), by repeat (first | exact Drawn0.refl _ | apply Drawn0.step)⟩
  · replace c6 := Bool.eq_false_iff.mpr c6
    subst c6
    have H1 : ((bits_Add64.f a1 a2 0).bind fun bt705 => (some (IntKind.u64.wrap (a0 + bt705.2), bt705.1))) = some (r1, r2) := by rw [if_neg (show ¬ (false = true) by decide)] at H; exact H
    clear H
    have H := H1
    clear H1
    replace H := Option.bind_eq_some_iff.mp H
    obtain ⟨⟨t705, t706⟩, A100, H⟩ := H
    replace H : (some (IntKind.u64.wrap (a0 + t706), t705)) = some (r1, r2) := H
    have A10 := Aside0.mk A100
    clear A100
    simp only [Option.some.injEq, Prod.mk.injEq] at H
    obtain ⟨rfl, rfl⟩ := H
    go_enter Try.func106, Try.ntmps106
    go_wp2_with (first | ((with_reducible refine gate_callee (f := 88) rfl ?_); refine goesX_ (some 22) rfl rfl #[.int .u64 a1, .int .u64 a2, .int .u64 0] rfl (by (try simp only [List.map_toArray, List.map_cons, List.map_nil]); first | done | rfl) ?_; (with_reducible refine (bits_Add64.calls a1 a2 0 t705 t706 _ A10.out).mono ?_); rintro e w' ⟨rfl, ⟨nd, rfl⟩⟩; refine ⟨_, rfl, ?_⟩))
    go_ret2
    exact ⟨by first | rfl | (simp; done) | (simp [*]; done), by repeat (first | exact Drawn0.refl _ | apply Drawn0.step)⟩
def fadd_sum.f (k : Nat) (a0 : Int) (a1 : Int) (a2 : Int) : Option (Int × Int) := (parts_Split.f a0).bind fun bt707 => ((parts_Split.f a1).bind fun bt711 => (if (wrap64 (bt707.2.2.1 - bt711.2.2.1)) ≤ 60 then ((fadd_lift.f bt707.2.1 (wrap64 (bt707.2.2.1 - bt711.2.2.1))).bind fun bt715 => ((fadd_join.f bt715.1 bt715.2 bt711.2.1 (bt707.1 != bt711.1) false).bind fun bt717 => ((parts_Round.f k bt707.1 bt717.1 bt717.2 bt711.2.2.1 false a2).bind fun bt719 => (some (bt719.1, bt719.2))))) else ((fadd_lift.f bt707.2.1 62).bind fun bt721 => (if (mn (wrap64 ((wrap64 (bt707.2.2.1 - bt711.2.2.1)) - 62)) 116) ≤ 0 then (if 0 ≤ (wrap64 (-(mn (wrap64 ((wrap64 (bt707.2.2.1 - bt711.2.2.1)) - 62)) 116))) then ((fadd_join.f bt721.1 bt721.2 (shl .u64 bt711.2.1 (wrap64 (-(mn (wrap64 ((wrap64 (bt707.2.2.1 - bt711.2.2.1)) - 62)) 116)))) (bt707.1 != bt711.1) false).bind fun bt723 => ((parts_Round.f k bt707.1 bt723.1 bt723.2 (wrap64 (bt707.2.2.1 - 62)) false a2).bind fun bt725 => (some (bt725.1, bt725.2)))) else (none)) else (if (mn (wrap64 ((wrap64 (bt707.2.2.1 - bt711.2.2.1)) - 62)) 116) < 64 then (if 0 ≤ (mn (wrap64 ((wrap64 (bt707.2.2.1 - bt711.2.2.1)) - 62)) 116) then (if 0 ≤ (wrap64 (64 - (mn (wrap64 ((wrap64 (bt707.2.2.1 - bt711.2.2.1)) - 62)) 116))) then ((fadd_join.f bt721.1 bt721.2 (shr .u64 bt711.2.1 (mn (wrap64 ((wrap64 (bt707.2.2.1 - bt711.2.2.1)) - 62)) 116)) (bt707.1 != bt711.1) ((shl .u64 bt711.2.1 (wrap64 (64 - (mn (wrap64 ((wrap64 (bt707.2.2.1 - bt711.2.2.1)) - 62)) 116)))) != 0)).bind fun bt727 => ((parts_Round.f k bt707.1 bt727.1 bt727.2 (wrap64 (bt707.2.2.1 - 62)) ((shl .u64 bt711.2.1 (wrap64 (64 - (mn (wrap64 ((wrap64 (bt707.2.2.1 - bt711.2.2.1)) - 62)) 116)))) != 0) a2).bind fun bt729 => (some (bt729.1, bt729.2)))) else (none)) else (none)) else ((fadd_join.f bt721.1 bt721.2 0 (bt707.1 != bt711.1) (bt711.2.1 != 0)).bind fun bt731 => ((parts_Round.f k bt707.1 bt731.1 bt731.2 (wrap64 (bt707.2.2.1 - 62)) (bt711.2.1 != 0) a2).bind fun bt733 => (some (bt733.1, bt733.2)))))))))
set_option maxHeartbeats 8000000 in
set_option maxRecDepth 100000 in
theorem fadd_sum.calls (k : Nat) (a0 : Int) (a1 : Int) (a2 : Int) (r1 : Int) (r2 : Int) (w : World) (h : fadd_sum.f k a0 a1 a2 = some (r1, r2)) :
    Calls Try.prog 77 #[.int .u64 a0, .int .u64 a1, .int .i64 a2] w fun e w' => e = .returned (.tuple #[.int .u64 r1, .int .i64 r2]) ∧ Below w.heap.size w w' := by
  have HB := Aside0.mk (Below.refl w.heap.size w)
  have H : ((parts_Split.f a0).bind fun bt707 => ((parts_Split.f a1).bind fun bt711 => (if (wrap64 (bt707.2.2.1 - bt711.2.2.1)) ≤ 60 then ((fadd_lift.f bt707.2.1 (wrap64 (bt707.2.2.1 - bt711.2.2.1))).bind fun bt715 => ((fadd_join.f bt715.1 bt715.2 bt711.2.1 (bt707.1 != bt711.1) false).bind fun bt717 => ((parts_Round.f k bt707.1 bt717.1 bt717.2 bt711.2.2.1 false a2).bind fun bt719 => (some (bt719.1, bt719.2))))) else ((fadd_lift.f bt707.2.1 62).bind fun bt721 => (if (mn (wrap64 ((wrap64 (bt707.2.2.1 - bt711.2.2.1)) - 62)) 116) ≤ 0 then (if 0 ≤ (wrap64 (-(mn (wrap64 ((wrap64 (bt707.2.2.1 - bt711.2.2.1)) - 62)) 116))) then ((fadd_join.f bt721.1 bt721.2 (shl .u64 bt711.2.1 (wrap64 (-(mn (wrap64 ((wrap64 (bt707.2.2.1 - bt711.2.2.1)) - 62)) 116)))) (bt707.1 != bt711.1) false).bind fun bt723 => ((parts_Round.f k bt707.1 bt723.1 bt723.2 (wrap64 (bt707.2.2.1 - 62)) false a2).bind fun bt725 => (some (bt725.1, bt725.2)))) else (none)) else (if (mn (wrap64 ((wrap64 (bt707.2.2.1 - bt711.2.2.1)) - 62)) 116) < 64 then (if 0 ≤ (mn (wrap64 ((wrap64 (bt707.2.2.1 - bt711.2.2.1)) - 62)) 116) then (if 0 ≤ (wrap64 (64 - (mn (wrap64 ((wrap64 (bt707.2.2.1 - bt711.2.2.1)) - 62)) 116))) then ((fadd_join.f bt721.1 bt721.2 (shr .u64 bt711.2.1 (mn (wrap64 ((wrap64 (bt707.2.2.1 - bt711.2.2.1)) - 62)) 116)) (bt707.1 != bt711.1) ((shl .u64 bt711.2.1 (wrap64 (64 - (mn (wrap64 ((wrap64 (bt707.2.2.1 - bt711.2.2.1)) - 62)) 116)))) != 0)).bind fun bt727 => ((parts_Round.f k bt707.1 bt727.1 bt727.2 (wrap64 (bt707.2.2.1 - 62)) ((shl .u64 bt711.2.1 (wrap64 (64 - (mn (wrap64 ((wrap64 (bt707.2.2.1 - bt711.2.2.1)) - 62)) 116)))) != 0) a2).bind fun bt729 => (some (bt729.1, bt729.2)))) else (none)) else (none)) else ((fadd_join.f bt721.1 bt721.2 0 (bt707.1 != bt711.1) (bt711.2.1 != 0)).bind fun bt731 => ((parts_Round.f k bt707.1 bt731.1 bt731.2 (wrap64 (bt707.2.2.1 - 62)) (bt711.2.1 != 0) a2).bind fun bt733 => (some (bt733.1, bt733.2)))))))))) = some (r1, r2) := h
  clear h
  replace H := Option.bind_eq_some_iff.mp H
  obtain ⟨⟨t707, t708, t709, t710⟩, A40, H⟩ := H
  replace H : ((parts_Split.f a1).bind fun bt711 => (if (wrap64 (t709 - bt711.2.2.1)) ≤ 60 then ((fadd_lift.f t708 (wrap64 (t709 - bt711.2.2.1))).bind fun bt715 => ((fadd_join.f bt715.1 bt715.2 bt711.2.1 (t707 != bt711.1) false).bind fun bt717 => ((parts_Round.f k t707 bt717.1 bt717.2 bt711.2.2.1 false a2).bind fun bt719 => (some (bt719.1, bt719.2))))) else ((fadd_lift.f t708 62).bind fun bt721 => (if (mn (wrap64 ((wrap64 (t709 - bt711.2.2.1)) - 62)) 116) ≤ 0 then (if 0 ≤ (wrap64 (-(mn (wrap64 ((wrap64 (t709 - bt711.2.2.1)) - 62)) 116))) then ((fadd_join.f bt721.1 bt721.2 (shl .u64 bt711.2.1 (wrap64 (-(mn (wrap64 ((wrap64 (t709 - bt711.2.2.1)) - 62)) 116)))) (t707 != bt711.1) false).bind fun bt723 => ((parts_Round.f k t707 bt723.1 bt723.2 (wrap64 (t709 - 62)) false a2).bind fun bt725 => (some (bt725.1, bt725.2)))) else (none)) else (if (mn (wrap64 ((wrap64 (t709 - bt711.2.2.1)) - 62)) 116) < 64 then (if 0 ≤ (mn (wrap64 ((wrap64 (t709 - bt711.2.2.1)) - 62)) 116) then (if 0 ≤ (wrap64 (64 - (mn (wrap64 ((wrap64 (t709 - bt711.2.2.1)) - 62)) 116))) then ((fadd_join.f bt721.1 bt721.2 (shr .u64 bt711.2.1 (mn (wrap64 ((wrap64 (t709 - bt711.2.2.1)) - 62)) 116)) (t707 != bt711.1) ((shl .u64 bt711.2.1 (wrap64 (64 - (mn (wrap64 ((wrap64 (t709 - bt711.2.2.1)) - 62)) 116)))) != 0)).bind fun bt727 => ((parts_Round.f k t707 bt727.1 bt727.2 (wrap64 (t709 - 62)) ((shl .u64 bt711.2.1 (wrap64 (64 - (mn (wrap64 ((wrap64 (t709 - bt711.2.2.1)) - 62)) 116)))) != 0) a2).bind fun bt729 => (some (bt729.1, bt729.2)))) else (none)) else (none)) else ((fadd_join.f bt721.1 bt721.2 0 (t707 != bt711.1) (bt711.2.1 != 0)).bind fun bt731 => ((parts_Round.f k t707 bt731.1 bt731.2 (wrap64 (t709 - 62)) (bt711.2.1 != 0) a2).bind fun bt733 => (some (bt733.1, bt733.2))))))))) = some (r1, r2) := H
  have A4 := Aside0.mk A40
  clear A40
  replace H := Option.bind_eq_some_iff.mp H
  obtain ⟨⟨t711, t712, t713, t714⟩, A50, H⟩ := H
  replace H : (if (wrap64 (t709 - t713)) ≤ 60 then ((fadd_lift.f t708 (wrap64 (t709 - t713))).bind fun bt715 => ((fadd_join.f bt715.1 bt715.2 t712 (t707 != t711) false).bind fun bt717 => ((parts_Round.f k t707 bt717.1 bt717.2 t713 false a2).bind fun bt719 => (some (bt719.1, bt719.2))))) else ((fadd_lift.f t708 62).bind fun bt721 => (if (mn (wrap64 ((wrap64 (t709 - t713)) - 62)) 116) ≤ 0 then (if 0 ≤ (wrap64 (-(mn (wrap64 ((wrap64 (t709 - t713)) - 62)) 116))) then ((fadd_join.f bt721.1 bt721.2 (shl .u64 t712 (wrap64 (-(mn (wrap64 ((wrap64 (t709 - t713)) - 62)) 116)))) (t707 != t711) false).bind fun bt723 => ((parts_Round.f k t707 bt723.1 bt723.2 (wrap64 (t709 - 62)) false a2).bind fun bt725 => (some (bt725.1, bt725.2)))) else (none)) else (if (mn (wrap64 ((wrap64 (t709 - t713)) - 62)) 116) < 64 then (if 0 ≤ (mn (wrap64 ((wrap64 (t709 - t713)) - 62)) 116) then (if 0 ≤ (wrap64 (64 - (mn (wrap64 ((wrap64 (t709 - t713)) - 62)) 116))) then ((fadd_join.f bt721.1 bt721.2 (shr .u64 t712 (mn (wrap64 ((wrap64 (t709 - t713)) - 62)) 116)) (t707 != t711) ((shl .u64 t712 (wrap64 (64 - (mn (wrap64 ((wrap64 (t709 - t713)) - 62)) 116)))) != 0)).bind fun bt727 => ((parts_Round.f k t707 bt727.1 bt727.2 (wrap64 (t709 - 62)) ((shl .u64 t712 (wrap64 (64 - (mn (wrap64 ((wrap64 (t709 - t713)) - 62)) 116)))) != 0) a2).bind fun bt729 => (some (bt729.1, bt729.2)))) else (none)) else (none)) else ((fadd_join.f bt721.1 bt721.2 0 (t707 != t711) (t712 != 0)).bind fun bt731 => ((parts_Round.f k t707 bt731.1 bt731.2 (wrap64 (t709 - 62)) (t712 != 0) a2).bind fun bt733 => (some (bt733.1, bt733.2)))))))) = some (r1, r2) := H
  have A5 := Aside0.mk A50
  clear A50
  by_cases c6 : (wrap64 (t709 - t713)) ≤ 60
  · rw [if_pos c6] at H
    have c6b0 : decide ((wrap64 (t709 - t713)) ≤ 60) = true := decide_eq_true c6
    clear c6
    replace H := Option.bind_eq_some_iff.mp H
    obtain ⟨⟨t715, t716⟩, A70, H⟩ := H
    replace H : ((fadd_join.f t715 t716 t712 (t707 != t711) false).bind fun bt717 => ((parts_Round.f k t707 bt717.1 bt717.2 t713 false a2).bind fun bt719 => (some (bt719.1, bt719.2)))) = some (r1, r2) := H
    have A7 := Aside0.mk A70
    clear A70
    replace H := Option.bind_eq_some_iff.mp H
    obtain ⟨⟨t717, t718⟩, A80, H⟩ := H
    replace H : ((parts_Round.f k t707 t717 t718 t713 false a2).bind fun bt719 => (some (bt719.1, bt719.2))) = some (r1, r2) := H
    have A8 := Aside0.mk A80
    clear A80
    replace H := Option.bind_eq_some_iff.mp H
    obtain ⟨⟨t719, t720⟩, A90, H⟩ := H
    replace H : (some (t719, t720)) = some (r1, r2) := H
    have A9 := Aside0.mk A90
    clear A90
    simp only [Option.some.injEq, Prod.mk.injEq] at H
    obtain ⟨rfl, rfl⟩ := H
    go_enter Try.func77, Try.ntmps77
    go_wp2_with (first | (go_at_call 95; (with_reducible refine (parts_Split.calls a0 t707 t708 t709 t710 _ A4.out).mono ?_); rintro e w' ⟨rfl, ⟨nd, rfl⟩⟩; (try first | exact ⟨rfl, _, World.drewN_drewN _ _ _⟩ | exact ⟨rfl, _, Eq.trans (World.drewN_drewN _ _ _) (congrArg (World.drewN _) (Nat.add_assoc _ _ _))⟩)) | (go_at_call 95; (with_reducible refine (parts_Split.calls a1 t711 t712 t713 t714 _ A5.out).mono ?_); rintro e w' ⟨rfl, ⟨nd, rfl⟩⟩; (try first | exact ⟨rfl, _, World.drewN_drewN _ _ _⟩ | exact ⟨rfl, _, Eq.trans (World.drewN_drewN _ _ _) (congrArg (World.drewN _) (Nat.add_assoc _ _ _))⟩)) | (go_at_call 105; (with_reducible refine (fadd_lift.calls t708 (wrap64 (t709 - t713)) t715 t716 _ A7.out).mono ?_); rintro e w' ⟨rfl, ⟨nd, rfl⟩⟩; (try first | exact ⟨rfl, _, World.drewN_drewN _ _ _⟩ | exact ⟨rfl, _, Eq.trans (World.drewN_drewN _ _ _) (congrArg (World.drewN _) (Nat.add_assoc _ _ _))⟩)) | (go_at_call 106; (refine (fadd_join.calls t715 t716 t712 (t707 != t711) false t717 t718 _ A8.out).mono ?_); rintro e w' ⟨rfl, ⟨nd, rfl⟩⟩; (try first | exact ⟨rfl, _, World.drewN_drewN _ _ _⟩ | exact ⟨rfl, _, Eq.trans (World.drewN_drewN _ _ _) (congrArg (World.drewN _) (Nat.add_assoc _ _ _))⟩)) | (go_at_call 97; (with_reducible refine (parts_Round.calls k t707 t717 t718 t713 false a2 t719 t720 _ A9.out).mono ?_); rintro e w10 ⟨rfl, hb⟩; have n0_ := Aside0.mk (below_step (by repeat (first | (with_reducible first | exact HB.out | apply below_alloc | apply pw_below_drewN | apply below_drew1) | exact HB.out)) hb); clear HB; have HB := n0_; clear n0_; (try clear hb); (try clear hb2); (try clear hk); (try clear hi)))
    repeat (go_quiet (first | (go_at_call 95; (with_reducible refine (parts_Split.calls a0 t707 t708 t709 t710 _ A4.out).mono ?_); rintro e w' ⟨rfl, ⟨nd, rfl⟩⟩; (try first | exact ⟨rfl, _, World.drewN_drewN _ _ _⟩ | exact ⟨rfl, _, Eq.trans (World.drewN_drewN _ _ _) (congrArg (World.drewN _) (Nat.add_assoc _ _ _))⟩)) | (go_at_call 95; (with_reducible refine (parts_Split.calls a1 t711 t712 t713 t714 _ A5.out).mono ?_); rintro e w' ⟨rfl, ⟨nd, rfl⟩⟩; (try first | exact ⟨rfl, _, World.drewN_drewN _ _ _⟩ | exact ⟨rfl, _, Eq.trans (World.drewN_drewN _ _ _) (congrArg (World.drewN _) (Nat.add_assoc _ _ _))⟩)) | (go_at_call 105; (with_reducible refine (fadd_lift.calls t708 (wrap64 (t709 - t713)) t715 t716 _ A7.out).mono ?_); rintro e w' ⟨rfl, ⟨nd, rfl⟩⟩; (try first | exact ⟨rfl, _, World.drewN_drewN _ _ _⟩ | exact ⟨rfl, _, Eq.trans (World.drewN_drewN _ _ _) (congrArg (World.drewN _) (Nat.add_assoc _ _ _))⟩)) | (go_at_call 106; (refine (fadd_join.calls t715 t716 t712 (t707 != t711) false t717 t718 _ A8.out).mono ?_); rintro e w' ⟨rfl, ⟨nd, rfl⟩⟩; (try first | exact ⟨rfl, _, World.drewN_drewN _ _ _⟩ | exact ⟨rfl, _, Eq.trans (World.drewN_drewN _ _ _) (congrArg (World.drewN _) (Nat.add_assoc _ _ _))⟩)) | (go_at_call 97; (with_reducible refine (parts_Round.calls k t707 t717 t718 t713 false a2 t719 t720 _ A9.out).mono ?_); rintro e w10 ⟨rfl, hb⟩; have n0_ := Aside0.mk (below_step (by repeat (first | (with_reducible first | exact HB.out | apply below_alloc | apply pw_below_drewN | apply below_drew1) | exact HB.out)) hb); clear HB; have HB := n0_; clear n0_; (try clear hb); (try clear hb2); (try clear hk); (try clear hi))); try go_wp2_with (first | (go_at_call 95; (with_reducible refine (parts_Split.calls a0 t707 t708 t709 t710 _ A4.out).mono ?_); rintro e w' ⟨rfl, ⟨nd, rfl⟩⟩; (try first | exact ⟨rfl, _, World.drewN_drewN _ _ _⟩ | exact ⟨rfl, _, Eq.trans (World.drewN_drewN _ _ _) (congrArg (World.drewN _) (Nat.add_assoc _ _ _))⟩)) | (go_at_call 95; (with_reducible refine (parts_Split.calls a1 t711 t712 t713 t714 _ A5.out).mono ?_); rintro e w' ⟨rfl, ⟨nd, rfl⟩⟩; (try first | exact ⟨rfl, _, World.drewN_drewN _ _ _⟩ | exact ⟨rfl, _, Eq.trans (World.drewN_drewN _ _ _) (congrArg (World.drewN _) (Nat.add_assoc _ _ _))⟩)) | (go_at_call 105; (with_reducible refine (fadd_lift.calls t708 (wrap64 (t709 - t713)) t715 t716 _ A7.out).mono ?_); rintro e w' ⟨rfl, ⟨nd, rfl⟩⟩; (try first | exact ⟨rfl, _, World.drewN_drewN _ _ _⟩ | exact ⟨rfl, _, Eq.trans (World.drewN_drewN _ _ _) (congrArg (World.drewN _) (Nat.add_assoc _ _ _))⟩)) | (go_at_call 106; (refine (fadd_join.calls t715 t716 t712 (t707 != t711) false t717 t718 _ A8.out).mono ?_); rintro e w' ⟨rfl, ⟨nd, rfl⟩⟩; (try first | exact ⟨rfl, _, World.drewN_drewN _ _ _⟩ | exact ⟨rfl, _, Eq.trans (World.drewN_drewN _ _ _) (congrArg (World.drewN _) (Nat.add_assoc _ _ _))⟩)) | (go_at_call 97; (with_reducible refine (parts_Round.calls k t707 t717 t718 t713 false a2 t719 t720 _ A9.out).mono ?_); rintro e w10 ⟨rfl, hb⟩; have n0_ := Aside0.mk (below_step (by repeat (first | (with_reducible first | exact HB.out | apply below_alloc | apply pw_below_drewN | apply below_drew1) | exact HB.out)) hb); clear HB; have HB := n0_; clear n0_; (try clear hb); (try clear hb2); (try clear hk); (try clear hi))))
    go_ret2
    exact ⟨by first | rfl | (simp [errW_none, errW_some] <;> rfl) | (simp [*, errW_none, errW_some] <;> rfl), by repeat (first | (with_reducible first | exact HB.out | apply below_alloc | apply pw_below_drewN | apply below_drew1) | exact HB.out)⟩
  · rw [if_neg c6] at H
    have c6b0 : decide ((wrap64 (t709 - t713)) ≤ 60) = false := decide_eq_false c6
    clear c6
    replace H := Option.bind_eq_some_iff.mp H
    obtain ⟨⟨t721, t722⟩, A110, H⟩ := H
    replace H : (if (mn (wrap64 ((wrap64 (t709 - t713)) - 62)) 116) ≤ 0 then (if 0 ≤ (wrap64 (-(mn (wrap64 ((wrap64 (t709 - t713)) - 62)) 116))) then ((fadd_join.f t721 t722 (shl .u64 t712 (wrap64 (-(mn (wrap64 ((wrap64 (t709 - t713)) - 62)) 116)))) (t707 != t711) false).bind fun bt723 => ((parts_Round.f k t707 bt723.1 bt723.2 (wrap64 (t709 - 62)) false a2).bind fun bt725 => (some (bt725.1, bt725.2)))) else (none)) else (if (mn (wrap64 ((wrap64 (t709 - t713)) - 62)) 116) < 64 then (if 0 ≤ (mn (wrap64 ((wrap64 (t709 - t713)) - 62)) 116) then (if 0 ≤ (wrap64 (64 - (mn (wrap64 ((wrap64 (t709 - t713)) - 62)) 116))) then ((fadd_join.f t721 t722 (shr .u64 t712 (mn (wrap64 ((wrap64 (t709 - t713)) - 62)) 116)) (t707 != t711) ((shl .u64 t712 (wrap64 (64 - (mn (wrap64 ((wrap64 (t709 - t713)) - 62)) 116)))) != 0)).bind fun bt727 => ((parts_Round.f k t707 bt727.1 bt727.2 (wrap64 (t709 - 62)) ((shl .u64 t712 (wrap64 (64 - (mn (wrap64 ((wrap64 (t709 - t713)) - 62)) 116)))) != 0) a2).bind fun bt729 => (some (bt729.1, bt729.2)))) else (none)) else (none)) else ((fadd_join.f t721 t722 0 (t707 != t711) (t712 != 0)).bind fun bt731 => ((parts_Round.f k t707 bt731.1 bt731.2 (wrap64 (t709 - 62)) (t712 != 0) a2).bind fun bt733 => (some (bt733.1, bt733.2)))))) = some (r1, r2) := H
    have A11 := Aside0.mk A110
    clear A110
    obtain ⟨ji12, hji12⟩ : ∃ j_ : Int, (mn (wrap64 ((wrap64 (t709 - t713)) - 62)) 116) = j_ := ⟨_, rfl⟩
    replace H : (if (ji12) ≤ 0 then (if 0 ≤ (wrap64 (-(ji12))) then ((fadd_join.f t721 t722 (shl .u64 t712 (wrap64 (-(ji12)))) (t707 != t711) false).bind fun bt723 => ((parts_Round.f k t707 bt723.1 bt723.2 (wrap64 (t709 - 62)) false a2).bind fun bt725 => (some (bt725.1, bt725.2)))) else (none)) else (if (ji12) < 64 then (if 0 ≤ (ji12) then (if 0 ≤ (wrap64 (64 - (ji12))) then ((fadd_join.f t721 t722 (shr .u64 t712 (ji12)) (t707 != t711) ((shl .u64 t712 (wrap64 (64 - (ji12)))) != 0)).bind fun bt727 => ((parts_Round.f k t707 bt727.1 bt727.2 (wrap64 (t709 - 62)) ((shl .u64 t712 (wrap64 (64 - (ji12)))) != 0) a2).bind fun bt729 => (some (bt729.1, bt729.2)))) else (none)) else (none)) else ((fadd_join.f t721 t722 0 (t707 != t711) (t712 != 0)).bind fun bt731 => ((parts_Round.f k t707 bt731.1 bt731.2 (wrap64 (t709 - 62)) (t712 != 0) a2).bind fun bt733 => (some (bt733.1, bt733.2)))))) = some (r1, r2) := by first | (rw [hji12] at H; exact H) | (simp only [hji12] at H ⊢; exact H)
    (try rw [hji12] at A4)
    (try rw [hji12] at A5)
    (try rw [hji12] at A11)
    (try (have hji12h : ji12 ≤ 116 := by (rw [← hji12]; unfold mn; (repeat' split) <;> omega)))
    (try (have hji12g : ji12 ≤ 64 := by omega))
    have hji12_ : (if 116 < (wrap64 ((wrap64 (t709 - t713)) - 62)) then 116 else (wrap64 ((wrap64 (t709 - t713)) - 62))) = ji12 := hji12
    by_cases c13 : (ji12) ≤ 0
    · rw [if_pos c13] at H
      have c13b0 : decide ((ji12) ≤ 0) = true := decide_eq_true c13
      clear c13
      obtain ⟨ji14, hji14⟩ : ∃ j_ : Int, (wrap64 (-(ji12))) = j_ := ⟨_, rfl⟩
      replace H : (if 0 ≤ (ji14) then ((fadd_join.f t721 t722 (shl .u64 t712 (ji14)) (t707 != t711) false).bind fun bt723 => ((parts_Round.f k t707 bt723.1 bt723.2 (wrap64 (t709 - 62)) false a2).bind fun bt725 => (some (bt725.1, bt725.2)))) else (none)) = some (r1, r2) := by first | (rw [hji14] at H; exact H) | (simp only [hji14] at H ⊢; exact H)
      (try rw [hji14] at A4)
      (try rw [hji14] at A5)
      (try rw [hji14] at A11)
      have hji14w : (IntKind.i64.wrap (-(ji12))) = ji14 := (i64_w _).trans hji14
      by_cases c15 : 0 ≤ (ji14)
      · rw [if_pos c15] at H
        have c15b0 := eq_true c15
        have c15b1 : decide (0 ≤ (ji14)) = true := decide_eq_true c15
        clear c15
        obtain ⟨ji16, hji16⟩ : ∃ j_ : Int, (shl .u64 t712 (ji14)) = j_ := ⟨_, rfl⟩
        replace H : ((fadd_join.f t721 t722 (ji16) (t707 != t711) false).bind fun bt723 => ((parts_Round.f k t707 bt723.1 bt723.2 (wrap64 (t709 - 62)) false a2).bind fun bt725 => (some (bt725.1, bt725.2)))) = some (r1, r2) := by first | (rw [hji16] at H; exact H) | (simp only [hji16] at H ⊢; exact H)
        (try rw [hji16] at A4)
        (try rw [hji16] at A5)
        (try rw [hji16] at A11)
        have hji16_ : (IntKind.u64.wrap (t712 * 2 ^ min (ji14).toNat 64)) = ji16 := hji16
        have hji16z : (ji14) ≤ 64 → (IntKind.u64.wrap (t712 * 2 ^ (ji14).toNat)) = ji16 := shl_small hji16
        replace H := Option.bind_eq_some_iff.mp H
        obtain ⟨⟨t723, t724⟩, A170, H⟩ := H
        replace H : ((parts_Round.f k t707 t723 t724 (wrap64 (t709 - 62)) false a2).bind fun bt725 => (some (bt725.1, bt725.2))) = some (r1, r2) := H
        have A17 := Aside0.mk A170
        clear A170
        replace H := Option.bind_eq_some_iff.mp H
        obtain ⟨⟨t725, t726⟩, A180, H⟩ := H
        replace H : (some (t725, t726)) = some (r1, r2) := H
        have A18 := Aside0.mk A180
        clear A180
        simp only [Option.some.injEq, Prod.mk.injEq] at H
        obtain ⟨rfl, rfl⟩ := H
        go_enter Try.func77, Try.ntmps77
        go_wp2_with (first | (go_at_call 95; (with_reducible refine (parts_Split.calls a0 t707 t708 t709 t710 _ A4.out).mono ?_); rintro e w' ⟨rfl, ⟨nd, rfl⟩⟩; (try first | exact ⟨rfl, _, World.drewN_drewN _ _ _⟩ | exact ⟨rfl, _, Eq.trans (World.drewN_drewN _ _ _) (congrArg (World.drewN _) (Nat.add_assoc _ _ _))⟩)) | (go_at_call 95; (with_reducible refine (parts_Split.calls a1 t711 t712 t713 t714 _ A5.out).mono ?_); rintro e w' ⟨rfl, ⟨nd, rfl⟩⟩; (try first | exact ⟨rfl, _, World.drewN_drewN _ _ _⟩ | exact ⟨rfl, _, Eq.trans (World.drewN_drewN _ _ _) (congrArg (World.drewN _) (Nat.add_assoc _ _ _))⟩)) | (go_at_call 105; (with_reducible refine (fadd_lift.calls t708 62 t721 t722 _ A11.out).mono ?_); rintro e w' ⟨rfl, ⟨nd, rfl⟩⟩; (try first | exact ⟨rfl, _, World.drewN_drewN _ _ _⟩ | exact ⟨rfl, _, Eq.trans (World.drewN_drewN _ _ _) (congrArg (World.drewN _) (Nat.add_assoc _ _ _))⟩)) | (go_at_call 106; (refine (fadd_join.calls t721 t722 ji16 (t707 != t711) false t723 t724 _ A17.out).mono ?_); rintro e w' ⟨rfl, ⟨nd, rfl⟩⟩; (try first | exact ⟨rfl, _, World.drewN_drewN _ _ _⟩ | exact ⟨rfl, _, Eq.trans (World.drewN_drewN _ _ _) (congrArg (World.drewN _) (Nat.add_assoc _ _ _))⟩)) | (go_at_call 97; (with_reducible refine (parts_Round.calls k t707 t723 t724 (wrap64 (t709 - 62)) false a2 t725 t726 _ A18.out).mono ?_); rintro e w19 ⟨rfl, hb⟩; have n0_ := Aside0.mk (below_step (by repeat (first | (with_reducible first | exact HB.out | apply below_alloc | apply pw_below_drewN | apply below_drew1) | exact HB.out)) hb); clear HB; have HB := n0_; clear n0_; (try clear hb); (try clear hb2); (try clear hk); (try clear hi)))
        repeat (go_quiet (first | (go_at_call 95; (with_reducible refine (parts_Split.calls a0 t707 t708 t709 t710 _ A4.out).mono ?_); rintro e w' ⟨rfl, ⟨nd, rfl⟩⟩; (try first | exact ⟨rfl, _, World.drewN_drewN _ _ _⟩ | exact ⟨rfl, _, Eq.trans (World.drewN_drewN _ _ _) (congrArg (World.drewN _) (Nat.add_assoc _ _ _))⟩)) | (go_at_call 95; (with_reducible refine (parts_Split.calls a1 t711 t712 t713 t714 _ A5.out).mono ?_); rintro e w' ⟨rfl, ⟨nd, rfl⟩⟩; (try first | exact ⟨rfl, _, World.drewN_drewN _ _ _⟩ | exact ⟨rfl, _, Eq.trans (World.drewN_drewN _ _ _) (congrArg (World.drewN _) (Nat.add_assoc _ _ _))⟩)) | (go_at_call 105; (with_reducible refine (fadd_lift.calls t708 62 t721 t722 _ A11.out).mono ?_); rintro e w' ⟨rfl, ⟨nd, rfl⟩⟩; (try first | exact ⟨rfl, _, World.drewN_drewN _ _ _⟩ | exact ⟨rfl, _, Eq.trans (World.drewN_drewN _ _ _) (congrArg (World.drewN _) (Nat.add_assoc _ _ _))⟩)) | (go_at_call 106; (refine (fadd_join.calls t721 t722 ji16 (t707 != t711) false t723 t724 _ A17.out).mono ?_); rintro e w' ⟨rfl, ⟨nd, rfl⟩⟩; (try first | exact ⟨rfl, _, World.drewN_drewN _ _ _⟩ | exact ⟨rfl, _, Eq.trans (World.drewN_drewN _ _ _) (congrArg (World.drewN _) (Nat.add_assoc _ _ _))⟩)) | (go_at_call 97; (with_reducible refine (parts_Round.calls k t707 t723 t724 (wrap64 (t709 - 62)) false a2 t725 t726 _ A18.out).mono ?_); rintro e w19 ⟨rfl, hb⟩; have n0_ := Aside0.mk (below_step (by repeat (first | (with_reducible first | exact HB.out | apply below_alloc | apply pw_below_drewN | apply below_drew1) | exact HB.out)) hb); clear HB; have HB := n0_; clear n0_; (try clear hb); (try clear hb2); (try clear hk); (try clear hi))); try go_wp2_with (first | (go_at_call 95; (with_reducible refine (parts_Split.calls a0 t707 t708 t709 t710 _ A4.out).mono ?_); rintro e w' ⟨rfl, ⟨nd, rfl⟩⟩; (try first | exact ⟨rfl, _, World.drewN_drewN _ _ _⟩ | exact ⟨rfl, _, Eq.trans (World.drewN_drewN _ _ _) (congrArg (World.drewN _) (Nat.add_assoc _ _ _))⟩)) | (go_at_call 95; (with_reducible refine (parts_Split.calls a1 t711 t712 t713 t714 _ A5.out).mono ?_); rintro e w' ⟨rfl, ⟨nd, rfl⟩⟩; (try first | exact ⟨rfl, _, World.drewN_drewN _ _ _⟩ | exact ⟨rfl, _, Eq.trans (World.drewN_drewN _ _ _) (congrArg (World.drewN _) (Nat.add_assoc _ _ _))⟩)) | (go_at_call 105; (with_reducible refine (fadd_lift.calls t708 62 t721 t722 _ A11.out).mono ?_); rintro e w' ⟨rfl, ⟨nd, rfl⟩⟩; (try first | exact ⟨rfl, _, World.drewN_drewN _ _ _⟩ | exact ⟨rfl, _, Eq.trans (World.drewN_drewN _ _ _) (congrArg (World.drewN _) (Nat.add_assoc _ _ _))⟩)) | (go_at_call 106; (refine (fadd_join.calls t721 t722 ji16 (t707 != t711) false t723 t724 _ A17.out).mono ?_); rintro e w' ⟨rfl, ⟨nd, rfl⟩⟩; (try first | exact ⟨rfl, _, World.drewN_drewN _ _ _⟩ | exact ⟨rfl, _, Eq.trans (World.drewN_drewN _ _ _) (congrArg (World.drewN _) (Nat.add_assoc _ _ _))⟩)) | (go_at_call 97; (with_reducible refine (parts_Round.calls k t707 t723 t724 (wrap64 (t709 - 62)) false a2 t725 t726 _ A18.out).mono ?_); rintro e w19 ⟨rfl, hb⟩; have n0_ := Aside0.mk (below_step (by repeat (first | (with_reducible first | exact HB.out | apply below_alloc | apply pw_below_drewN | apply below_drew1) | exact HB.out)) hb); clear HB; have HB := n0_; clear n0_; (try clear hb); (try clear hb2); (try clear hk); (try clear hi))))
        go_ret2
        exact ⟨by first | rfl | (simp [errW_none, errW_some] <;> rfl) | (simp only [← hji12, ← hji14, ← hji16]; first | rfl | (simp [errW_none, errW_some] <;> rfl)) | (simp [*, errW_none, errW_some] <;> rfl), by repeat (first | (with_reducible first | exact HB.out | apply below_alloc | apply pw_below_drewN | apply below_drew1) | exact HB.out)⟩
      · rw [if_neg c15] at H
        exact absurd H (by simp)
    · rw [if_neg c13] at H
      have c13b0 : decide ((ji12) ≤ 0) = false := decide_eq_false c13
      clear c13
      by_cases c20 : (ji12) < 64
      · rw [if_pos c20] at H
        have c20b0 : decide ((ji12) < 64) = true := decide_eq_true c20
        clear c20
        by_cases c21 : 0 ≤ (ji12)
        · rw [if_pos c21] at H
          have c21b0 := eq_true c21
          have c21b1 : decide (0 ≤ (ji12)) = true := decide_eq_true c21
          clear c21
          obtain ⟨ji22, hji22⟩ : ∃ j_ : Int, (shr .u64 t712 (ji12)) = j_ := ⟨_, rfl⟩
          replace H : (if 0 ≤ (wrap64 (64 - (ji12))) then ((fadd_join.f t721 t722 (ji22) (t707 != t711) ((shl .u64 t712 (wrap64 (64 - (ji12)))) != 0)).bind fun bt727 => ((parts_Round.f k t707 bt727.1 bt727.2 (wrap64 (t709 - 62)) ((shl .u64 t712 (wrap64 (64 - (ji12)))) != 0) a2).bind fun bt729 => (some (bt729.1, bt729.2)))) else (none)) = some (r1, r2) := by first | (rw [hji22] at H; exact H) | (simp only [hji22] at H ⊢; exact H)
          (try rw [hji22] at A4)
          (try rw [hji22] at A5)
          (try rw [hji22] at A11)
          have hji22_ : (t712 / 2 ^ min (ji12).toNat 64) = ji22 := hji22
          have hji22z : (ji12) ≤ 64 → (t712 / 2 ^ (ji12).toNat) = ji22 := shr_small hji22
          obtain ⟨ji23, hji23⟩ : ∃ j_ : Int, (wrap64 (64 - (ji12))) = j_ := ⟨_, rfl⟩
          replace H : (if 0 ≤ (ji23) then ((fadd_join.f t721 t722 (ji22) (t707 != t711) ((shl .u64 t712 (ji23)) != 0)).bind fun bt727 => ((parts_Round.f k t707 bt727.1 bt727.2 (wrap64 (t709 - 62)) ((shl .u64 t712 (ji23)) != 0) a2).bind fun bt729 => (some (bt729.1, bt729.2)))) else (none)) = some (r1, r2) := by first | (rw [hji23] at H; exact H) | (simp only [hji23] at H ⊢; exact H)
          (try rw [hji23] at A4)
          (try rw [hji23] at A5)
          (try rw [hji23] at A11)
          have hji23w : (IntKind.i64.wrap (64 - (ji12))) = ji23 := (i64_w _).trans hji23
          by_cases c24 : 0 ≤ (ji23)
          · rw [if_pos c24] at H
            have c24b0 := eq_true c24
            have c24b1 : decide (0 ≤ (ji23)) = true := decide_eq_true c24
            clear c24
            obtain ⟨ji25, hji25⟩ : ∃ j_ : Int, (shl .u64 t712 (ji23)) = j_ := ⟨_, rfl⟩
            replace H : ((fadd_join.f t721 t722 (ji22) (t707 != t711) ((ji25) != 0)).bind fun bt727 => ((parts_Round.f k t707 bt727.1 bt727.2 (wrap64 (t709 - 62)) ((ji25) != 0) a2).bind fun bt729 => (some (bt729.1, bt729.2)))) = some (r1, r2) := by first | (rw [hji25] at H; exact H) | (simp only [hji25] at H ⊢; exact H)
            (try rw [hji25] at A4)
            (try rw [hji25] at A5)
            (try rw [hji25] at A11)
            have hji25_ : (IntKind.u64.wrap (t712 * 2 ^ min (ji23).toNat 64)) = ji25 := hji25
            have hji25z : (ji23) ≤ 64 → (IntKind.u64.wrap (t712 * 2 ^ (ji23).toNat)) = ji25 := shl_small hji25
            replace H := Option.bind_eq_some_iff.mp H
            obtain ⟨⟨t727, t728⟩, A260, H⟩ := H
            replace H : ((parts_Round.f k t707 t727 t728 (wrap64 (t709 - 62)) ((ji25) != 0) a2).bind fun bt729 => (some (bt729.1, bt729.2))) = some (r1, r2) := H
            have A26 := Aside0.mk A260
            clear A260
            replace H := Option.bind_eq_some_iff.mp H
            obtain ⟨⟨t729, t730⟩, A270, H⟩ := H
            replace H : (some (t729, t730)) = some (r1, r2) := H
            have A27 := Aside0.mk A270
            clear A270
            simp only [Option.some.injEq, Prod.mk.injEq] at H
            obtain ⟨rfl, rfl⟩ := H
            go_enter Try.func77, Try.ntmps77
            go_wp2_with (first | (go_at_call 95; (with_reducible refine (parts_Split.calls a0 t707 t708 t709 t710 _ A4.out).mono ?_); rintro e w' ⟨rfl, ⟨nd, rfl⟩⟩; (try first | exact ⟨rfl, _, World.drewN_drewN _ _ _⟩ | exact ⟨rfl, _, Eq.trans (World.drewN_drewN _ _ _) (congrArg (World.drewN _) (Nat.add_assoc _ _ _))⟩)) | (go_at_call 95; (with_reducible refine (parts_Split.calls a1 t711 t712 t713 t714 _ A5.out).mono ?_); rintro e w' ⟨rfl, ⟨nd, rfl⟩⟩; (try first | exact ⟨rfl, _, World.drewN_drewN _ _ _⟩ | exact ⟨rfl, _, Eq.trans (World.drewN_drewN _ _ _) (congrArg (World.drewN _) (Nat.add_assoc _ _ _))⟩)) | (go_at_call 105; (with_reducible refine (fadd_lift.calls t708 62 t721 t722 _ A11.out).mono ?_); rintro e w' ⟨rfl, ⟨nd, rfl⟩⟩; (try first | exact ⟨rfl, _, World.drewN_drewN _ _ _⟩ | exact ⟨rfl, _, Eq.trans (World.drewN_drewN _ _ _) (congrArg (World.drewN _) (Nat.add_assoc _ _ _))⟩)) | (go_at_call 106; (refine (fadd_join.calls t721 t722 ji22 (t707 != t711) ((ji25) != 0) t727 t728 _ A26.out).mono ?_); rintro e w' ⟨rfl, ⟨nd, rfl⟩⟩; (try first | exact ⟨rfl, _, World.drewN_drewN _ _ _⟩ | exact ⟨rfl, _, Eq.trans (World.drewN_drewN _ _ _) (congrArg (World.drewN _) (Nat.add_assoc _ _ _))⟩)) | (go_at_call 97; (refine (parts_Round.calls k t707 t727 t728 (wrap64 (t709 - 62)) ((ji25) != 0) a2 t729 t730 _ A27.out).mono ?_); rintro e w28 ⟨rfl, hb⟩; have n0_ := Aside0.mk (below_step (by repeat (first | (with_reducible first | exact HB.out | apply below_alloc | apply pw_below_drewN | apply below_drew1) | exact HB.out)) hb); clear HB; have HB := n0_; clear n0_; (try clear hb); (try clear hb2); (try clear hk); (try clear hi)))
            repeat (go_quiet (first | (go_at_call 95; (with_reducible refine (parts_Split.calls a0 t707 t708 t709 t710 _ A4.out).mono ?_); rintro e w' ⟨rfl, ⟨nd, rfl⟩⟩; (try first | exact ⟨rfl, _, World.drewN_drewN _ _ _⟩ | exact ⟨rfl, _, Eq.trans (World.drewN_drewN _ _ _) (congrArg (World.drewN _) (Nat.add_assoc _ _ _))⟩)) | (go_at_call 95; (with_reducible refine (parts_Split.calls a1 t711 t712 t713 t714 _ A5.out).mono ?_); rintro e w' ⟨rfl, ⟨nd, rfl⟩⟩; (try first | exact ⟨rfl, _, World.drewN_drewN _ _ _⟩ | exact ⟨rfl, _, Eq.trans (World.drewN_drewN _ _ _) (congrArg (World.drewN _) (Nat.add_assoc _ _ _))⟩)) | (go_at_call 105; (with_reducible refine (fadd_lift.calls t708 62 t721 t722 _ A11.out).mono ?_); rintro e w' ⟨rfl, ⟨nd, rfl⟩⟩; (try first | exact ⟨rfl, _, World.drewN_drewN _ _ _⟩ | exact ⟨rfl, _, Eq.trans (World.drewN_drewN _ _ _) (congrArg (World.drewN _) (Nat.add_assoc _ _ _))⟩)) | (go_at_call 106; (refine (fadd_join.calls t721 t722 ji22 (t707 != t711) ((ji25) != 0) t727 t728 _ A26.out).mono ?_); rintro e w' ⟨rfl, ⟨nd, rfl⟩⟩; (try first | exact ⟨rfl, _, World.drewN_drewN _ _ _⟩ | exact ⟨rfl, _, Eq.trans (World.drewN_drewN _ _ _) (congrArg (World.drewN _) (Nat.add_assoc _ _ _))⟩)) | (go_at_call 97; (refine (parts_Round.calls k t707 t727 t728 (wrap64 (t709 - 62)) ((ji25) != 0) a2 t729 t730 _ A27.out).mono ?_); rintro e w28 ⟨rfl, hb⟩; have n0_ := Aside0.mk (below_step (by repeat (first | (with_reducible first | exact HB.out | apply below_alloc | apply pw_below_drewN | apply below_drew1) | exact HB.out)) hb); clear HB; have HB := n0_; clear n0_; (try clear hb); (try clear hb2); (try clear hk); (try clear hi))); try go_wp2_with (first | (go_at_call 95; (with_reducible refine (parts_Split.calls a0 t707 t708 t709 t710 _ A4.out).mono ?_); rintro e w' ⟨rfl, ⟨nd, rfl⟩⟩; (try first | exact ⟨rfl, _, World.drewN_drewN _ _ _⟩ | exact ⟨rfl, _, Eq.trans (World.drewN_drewN _ _ _) (congrArg (World.drewN _) (Nat.add_assoc _ _ _))⟩)) | (go_at_call 95; (with_reducible refine (parts_Split.calls a1 t711 t712 t713 t714 _ A5.out).mono ?_); rintro e w' ⟨rfl, ⟨nd, rfl⟩⟩; (try first | exact ⟨rfl, _, World.drewN_drewN _ _ _⟩ | exact ⟨rfl, _, Eq.trans (World.drewN_drewN _ _ _) (congrArg (World.drewN _) (Nat.add_assoc _ _ _))⟩)) | (go_at_call 105; (with_reducible refine (fadd_lift.calls t708 62 t721 t722 _ A11.out).mono ?_); rintro e w' ⟨rfl, ⟨nd, rfl⟩⟩; (try first | exact ⟨rfl, _, World.drewN_drewN _ _ _⟩ | exact ⟨rfl, _, Eq.trans (World.drewN_drewN _ _ _) (congrArg (World.drewN _) (Nat.add_assoc _ _ _))⟩)) | (go_at_call 106; (refine (fadd_join.calls t721 t722 ji22 (t707 != t711) ((ji25) != 0) t727 t728 _ A26.out).mono ?_); rintro e w' ⟨rfl, ⟨nd, rfl⟩⟩; (try first | exact ⟨rfl, _, World.drewN_drewN _ _ _⟩ | exact ⟨rfl, _, Eq.trans (World.drewN_drewN _ _ _) (congrArg (World.drewN _) (Nat.add_assoc _ _ _))⟩)) | (go_at_call 97; (refine (parts_Round.calls k t707 t727 t728 (wrap64 (t709 - 62)) ((ji25) != 0) a2 t729 t730 _ A27.out).mono ?_); rintro e w28 ⟨rfl, hb⟩; have n0_ := Aside0.mk (below_step (by repeat (first | (with_reducible first | exact HB.out | apply below_alloc | apply pw_below_drewN | apply below_drew1) | exact HB.out)) hb); clear HB; have HB := n0_; clear n0_; (try clear hb); (try clear hb2); (try clear hk); (try clear hi))))
            go_ret2
            exact ⟨by first | rfl | (simp [errW_none, errW_some] <;> rfl) | (simp only [← hji12, ← hji22, ← hji23, ← hji25]; first | rfl | (simp [errW_none, errW_some] <;> rfl)) | (simp [*, errW_none, errW_some] <;> rfl), by repeat (first | (with_reducible first | exact HB.out | apply below_alloc | apply pw_below_drewN | apply below_drew1) | exact HB.out)⟩
          · rw [if_neg c24] at H
            exact absurd H (by simp)
        · rw [if_neg c21] at H
          exact absurd H (by simp)
      · rw [if_neg c20] at H
        have c20b0 : decide ((ji12) < 64) = false := decide_eq_false c20
        clear c20
        replace H := Option.bind_eq_some_iff.mp H
        obtain ⟨⟨t731, t732⟩, A290, H⟩ := H
        replace H : ((parts_Round.f k t707 t731 t732 (wrap64 (t709 - 62)) (t712 != 0) a2).bind fun bt733 => (some (bt733.1, bt733.2))) = some (r1, r2) := H
        have A29 := Aside0.mk A290
        clear A290
        replace H := Option.bind_eq_some_iff.mp H
        obtain ⟨⟨t733, t734⟩, A300, H⟩ := H
        replace H : (some (t733, t734)) = some (r1, r2) := H
        have A30 := Aside0.mk A300
        clear A300
        simp only [Option.some.injEq, Prod.mk.injEq] at H
        obtain ⟨rfl, rfl⟩ := H
        go_enter Try.func77, Try.ntmps77
        go_wp2_with (first | (go_at_call 95; (with_reducible refine (parts_Split.calls a0 t707 t708 t709 t710 _ A4.out).mono ?_); rintro e w' ⟨rfl, ⟨nd, rfl⟩⟩; (try first | exact ⟨rfl, _, World.drewN_drewN _ _ _⟩ | exact ⟨rfl, _, Eq.trans (World.drewN_drewN _ _ _) (congrArg (World.drewN _) (Nat.add_assoc _ _ _))⟩)) | (go_at_call 95; (with_reducible refine (parts_Split.calls a1 t711 t712 t713 t714 _ A5.out).mono ?_); rintro e w' ⟨rfl, ⟨nd, rfl⟩⟩; (try first | exact ⟨rfl, _, World.drewN_drewN _ _ _⟩ | exact ⟨rfl, _, Eq.trans (World.drewN_drewN _ _ _) (congrArg (World.drewN _) (Nat.add_assoc _ _ _))⟩)) | (go_at_call 105; (with_reducible refine (fadd_lift.calls t708 62 t721 t722 _ A11.out).mono ?_); rintro e w' ⟨rfl, ⟨nd, rfl⟩⟩; (try first | exact ⟨rfl, _, World.drewN_drewN _ _ _⟩ | exact ⟨rfl, _, Eq.trans (World.drewN_drewN _ _ _) (congrArg (World.drewN _) (Nat.add_assoc _ _ _))⟩)) | (go_at_call 106; (refine (fadd_join.calls t721 t722 0 (t707 != t711) (t712 != 0) t731 t732 _ A29.out).mono ?_); rintro e w' ⟨rfl, ⟨nd, rfl⟩⟩; (try first | exact ⟨rfl, _, World.drewN_drewN _ _ _⟩ | exact ⟨rfl, _, Eq.trans (World.drewN_drewN _ _ _) (congrArg (World.drewN _) (Nat.add_assoc _ _ _))⟩)) | (go_at_call 97; (refine (parts_Round.calls k t707 t731 t732 (wrap64 (t709 - 62)) (t712 != 0) a2 t733 t734 _ A30.out).mono ?_); rintro e w31 ⟨rfl, hb⟩; have n0_ := Aside0.mk (below_step (by repeat (first | (with_reducible first | exact HB.out | apply below_alloc | apply pw_below_drewN | apply below_drew1) | exact HB.out)) hb); clear HB; have HB := n0_; clear n0_; (try clear hb); (try clear hb2); (try clear hk); (try clear hi)))
        repeat (go_quiet (first | (go_at_call 95; (with_reducible refine (parts_Split.calls a0 t707 t708 t709 t710 _ A4.out).mono ?_); rintro e w' ⟨rfl, ⟨nd, rfl⟩⟩; (try first | exact ⟨rfl, _, World.drewN_drewN _ _ _⟩ | exact ⟨rfl, _, Eq.trans (World.drewN_drewN _ _ _) (congrArg (World.drewN _) (Nat.add_assoc _ _ _))⟩)) | (go_at_call 95; (with_reducible refine (parts_Split.calls a1 t711 t712 t713 t714 _ A5.out).mono ?_); rintro e w' ⟨rfl, ⟨nd, rfl⟩⟩; (try first | exact ⟨rfl, _, World.drewN_drewN _ _ _⟩ | exact ⟨rfl, _, Eq.trans (World.drewN_drewN _ _ _) (congrArg (World.drewN _) (Nat.add_assoc _ _ _))⟩)) | (go_at_call 105; (with_reducible refine (fadd_lift.calls t708 62 t721 t722 _ A11.out).mono ?_); rintro e w' ⟨rfl, ⟨nd, rfl⟩⟩; (try first | exact ⟨rfl, _, World.drewN_drewN _ _ _⟩ | exact ⟨rfl, _, Eq.trans (World.drewN_drewN _ _ _) (congrArg (World.drewN _) (Nat.add_assoc _ _ _))⟩)) | (go_at_call 106; (refine (fadd_join.calls t721 t722 0 (t707 != t711) (t712 != 0) t731 t732 _ A29.out).mono ?_); rintro e w' ⟨rfl, ⟨nd, rfl⟩⟩; (try first | exact ⟨rfl, _, World.drewN_drewN _ _ _⟩ | exact ⟨rfl, _, Eq.trans (World.drewN_drewN _ _ _) (congrArg (World.drewN _) (Nat.add_assoc _ _ _))⟩)) | (go_at_call 97; (refine (parts_Round.calls k t707 t731 t732 (wrap64 (t709 - 62)) (t712 != 0) a2 t733 t734 _ A30.out).mono ?_); rintro e w31 ⟨rfl, hb⟩; have n0_ := Aside0.mk (below_step (by repeat (first | (with_reducible first | exact HB.out | apply below_alloc | apply pw_below_drewN | apply below_drew1) | exact HB.out)) hb); clear HB; have HB := n0_; clear n0_; (try clear hb); (try clear hb2); (try clear hk); (try clear hi))); try go_wp2_with (first | (go_at_call 95; (with_reducible refine (parts_Split.calls a0 t707 t708 t709 t710 _ A4.out).mono ?_); rintro e w' ⟨rfl, ⟨nd, rfl⟩⟩; (try first | exact ⟨rfl, _, World.drewN_drewN _ _ _⟩ | exact ⟨rfl, _, Eq.trans (World.drewN_drewN _ _ _) (congrArg (World.drewN _) (Nat.add_assoc _ _ _))⟩)) | (go_at_call 95; (with_reducible refine (parts_Split.calls a1 t711 t712 t713 t714 _ A5.out).mono ?_); rintro e w' ⟨rfl, ⟨nd, rfl⟩⟩; (try first | exact ⟨rfl, _, World.drewN_drewN _ _ _⟩ | exact ⟨rfl, _, Eq.trans (World.drewN_drewN _ _ _) (congrArg (World.drewN _) (Nat.add_assoc _ _ _))⟩)) | (go_at_call 105; (with_reducible refine (fadd_lift.calls t708 62 t721 t722 _ A11.out).mono ?_); rintro e w' ⟨rfl, ⟨nd, rfl⟩⟩; (try first | exact ⟨rfl, _, World.drewN_drewN _ _ _⟩ | exact ⟨rfl, _, Eq.trans (World.drewN_drewN _ _ _) (congrArg (World.drewN _) (Nat.add_assoc _ _ _))⟩)) | (go_at_call 106; (refine (fadd_join.calls t721 t722 0 (t707 != t711) (t712 != 0) t731 t732 _ A29.out).mono ?_); rintro e w' ⟨rfl, ⟨nd, rfl⟩⟩; (try first | exact ⟨rfl, _, World.drewN_drewN _ _ _⟩ | exact ⟨rfl, _, Eq.trans (World.drewN_drewN _ _ _) (congrArg (World.drewN _) (Nat.add_assoc _ _ _))⟩)) | (go_at_call 97; (refine (parts_Round.calls k t707 t731 t732 (wrap64 (t709 - 62)) (t712 != 0) a2 t733 t734 _ A30.out).mono ?_); rintro e w31 ⟨rfl, hb⟩; have n0_ := Aside0.mk (below_step (by repeat (first | (with_reducible first | exact HB.out | apply below_alloc | apply pw_below_drewN | apply below_drew1) | exact HB.out)) hb); clear HB; have HB := n0_; clear n0_; (try clear hb); (try clear hb2); (try clear hk); (try clear hi))))
        go_ret2
        exact ⟨by first | rfl | (simp [errW_none, errW_some] <;> rfl) | (simp only [← hji12]; first | rfl | (simp [errW_none, errW_some] <;> rfl)) | (simp [*, errW_none, errW_some] <;> rfl), by repeat (first | (with_reducible first | exact HB.out | apply below_alloc | apply pw_below_drewN | apply below_drew1) | exact HB.out)⟩
def fadd_Add.j0 : Nat → Int → Int → Int → Int → Int → Bool → Option (Int × Int)
  | 0, _, _, _, _, _, _ => none
  | k + 1, x0, x1, x2, x11, x12, x42 => if x42 = true then ((fadd_nought.f x0 x1 x2).bind fun t738 => (some (t738, 0))) else (if x11 < x12 then ((fadd_sum.f k x1 x0 x2).bind fun bt739 => (some (bt739.1, bt739.2))) else ((fadd_sum.f k x0 x1 x2).bind fun bt741 => (some (bt741.1, bt741.2))))
def fadd_Add.f (k : Nat) (a0 : Int) (a1 : Int) (a2 : Int) : Option (Int × Int) := (fadd_odd.f k a0 a1).bind fun bt735 => (if bt735.2.2 = true then (some (bt735.1, bt735.2.1)) else (if (Go.bits .andNot .u64 a0 9223372036854775808) = (Go.bits .andNot .u64 a1 9223372036854775808) then (if a0 = a1 then (if (Go.bits .andNot .u64 a0 9223372036854775808) = 0 then (fadd_Add.j0 k a0 a1 a2 (Go.bits .andNot .u64 a0 9223372036854775808) (Go.bits .andNot .u64 a1 9223372036854775808) ((Go.bits .andNot .u64 a1 9223372036854775808) == 0)) else (fadd_Add.j0 k a0 a1 a2 (Go.bits .andNot .u64 a0 9223372036854775808) (Go.bits .andNot .u64 a1 9223372036854775808) false)) else (fadd_Add.j0 k a0 a1 a2 (Go.bits .andNot .u64 a0 9223372036854775808) (Go.bits .andNot .u64 a1 9223372036854775808) true)) else (if (Go.bits .andNot .u64 a0 9223372036854775808) = 0 then (fadd_Add.j0 k a0 a1 a2 (Go.bits .andNot .u64 a0 9223372036854775808) (Go.bits .andNot .u64 a1 9223372036854775808) ((Go.bits .andNot .u64 a1 9223372036854775808) == 0)) else (fadd_Add.j0 k a0 a1 a2 (Go.bits .andNot .u64 a0 9223372036854775808) (Go.bits .andNot .u64 a1 9223372036854775808) false))))
set_option maxHeartbeats 8000000 in
set_option maxRecDepth 100000 in
theorem fadd_Add.calls (k : Nat) (a0 : Int) (a1 : Int) (a2 : Int) (r1 : Int) (r2 : Int) (w : World) (h : fadd_Add.f k a0 a1 a2 = some (r1, r2)) :
    Calls Try.prog 32 #[.int .u64 a0, .int .u64 a1, .int .i64 a2] w fun e w' => e = .returned (.tuple #[.int .u64 r1, .int .i64 r2]) ∧ Below w.heap.size w w' := by
  have HB := Aside0.mk (Below.refl w.heap.size w)
  have H : ((fadd_odd.f k a0 a1).bind fun bt735 => (if bt735.2.2 = true then (some (bt735.1, bt735.2.1)) else (if (Go.bits .andNot .u64 a0 9223372036854775808) = (Go.bits .andNot .u64 a1 9223372036854775808) then (if a0 = a1 then (if (Go.bits .andNot .u64 a0 9223372036854775808) = 0 then (fadd_Add.j0 k a0 a1 a2 (Go.bits .andNot .u64 a0 9223372036854775808) (Go.bits .andNot .u64 a1 9223372036854775808) ((Go.bits .andNot .u64 a1 9223372036854775808) == 0)) else (fadd_Add.j0 k a0 a1 a2 (Go.bits .andNot .u64 a0 9223372036854775808) (Go.bits .andNot .u64 a1 9223372036854775808) false)) else (fadd_Add.j0 k a0 a1 a2 (Go.bits .andNot .u64 a0 9223372036854775808) (Go.bits .andNot .u64 a1 9223372036854775808) true)) else (if (Go.bits .andNot .u64 a0 9223372036854775808) = 0 then (fadd_Add.j0 k a0 a1 a2 (Go.bits .andNot .u64 a0 9223372036854775808) (Go.bits .andNot .u64 a1 9223372036854775808) ((Go.bits .andNot .u64 a1 9223372036854775808) == 0)) else (fadd_Add.j0 k a0 a1 a2 (Go.bits .andNot .u64 a0 9223372036854775808) (Go.bits .andNot .u64 a1 9223372036854775808) false))))) = some (r1, r2) := h
  clear h
  replace H := Option.bind_eq_some_iff.mp H
  obtain ⟨⟨t735, t736, t737⟩, A40, H⟩ := H
  replace H : (if t737 = true then (some (t735, t736)) else (if (Go.bits .andNot .u64 a0 9223372036854775808) = (Go.bits .andNot .u64 a1 9223372036854775808) then (if a0 = a1 then (if (Go.bits .andNot .u64 a0 9223372036854775808) = 0 then (fadd_Add.j0 k a0 a1 a2 (Go.bits .andNot .u64 a0 9223372036854775808) (Go.bits .andNot .u64 a1 9223372036854775808) ((Go.bits .andNot .u64 a1 9223372036854775808) == 0)) else (fadd_Add.j0 k a0 a1 a2 (Go.bits .andNot .u64 a0 9223372036854775808) (Go.bits .andNot .u64 a1 9223372036854775808) false)) else (fadd_Add.j0 k a0 a1 a2 (Go.bits .andNot .u64 a0 9223372036854775808) (Go.bits .andNot .u64 a1 9223372036854775808) true)) else (if (Go.bits .andNot .u64 a0 9223372036854775808) = 0 then (fadd_Add.j0 k a0 a1 a2 (Go.bits .andNot .u64 a0 9223372036854775808) (Go.bits .andNot .u64 a1 9223372036854775808) ((Go.bits .andNot .u64 a1 9223372036854775808) == 0)) else (fadd_Add.j0 k a0 a1 a2 (Go.bits .andNot .u64 a0 9223372036854775808) (Go.bits .andNot .u64 a1 9223372036854775808) false)))) = some (r1, r2) := H
  have A4 := Aside0.mk A40
  clear A40
  by_cases c5 : t737 = true
  · subst c5
    have H1 : (some (t735, t736)) = some (r1, r2) := by rw [if_pos rfl] at H; exact H
    clear H
    have H := H1
    clear H1
    simp only [Option.some.injEq, Prod.mk.injEq] at H
    obtain ⟨rfl, rfl⟩ := H
    go_enter Try.func32, Try.ntmps32
    go_wp2_with (first | ((with_reducible refine gate_callee (f := 75) rfl ?_); refine goesL_ (some 16) rfl rfl Try.func75 (by kernel_rfl) rfl #[.int .u64 a0, .int .u64 a1] rfl (by (try simp only [List.map_toArray, List.map_cons, List.map_nil]); first | done | rfl | (simp only [List.length_drop, List.length_take]; rfl)) ?_; (with_reducible refine (fadd_odd.calls k a0 a1 t735 t736 true _ A4.out).mono ?_); rintro e w' ⟨rfl, ⟨nd, rfl⟩⟩; refine ⟨_, rfl, ?_⟩))
    go_ret2
    exact ⟨by first | rfl | (simp [errW_none, errW_some] <;> rfl) | (simp [*, errW_none, errW_some] <;> rfl), by repeat (first | (with_reducible first | exact HB.out | apply below_alloc | apply pw_below_drewN | apply below_drew1) | exact HB.out)⟩
  · replace c5 := Bool.eq_false_iff.mpr c5
    subst c5
    have H1 : (if (Go.bits .andNot .u64 a0 9223372036854775808) = (Go.bits .andNot .u64 a1 9223372036854775808) then (if a0 = a1 then (if (Go.bits .andNot .u64 a0 9223372036854775808) = 0 then (fadd_Add.j0 k a0 a1 a2 (Go.bits .andNot .u64 a0 9223372036854775808) (Go.bits .andNot .u64 a1 9223372036854775808) ((Go.bits .andNot .u64 a1 9223372036854775808) == 0)) else (fadd_Add.j0 k a0 a1 a2 (Go.bits .andNot .u64 a0 9223372036854775808) (Go.bits .andNot .u64 a1 9223372036854775808) false)) else (fadd_Add.j0 k a0 a1 a2 (Go.bits .andNot .u64 a0 9223372036854775808) (Go.bits .andNot .u64 a1 9223372036854775808) true)) else (if (Go.bits .andNot .u64 a0 9223372036854775808) = 0 then (fadd_Add.j0 k a0 a1 a2 (Go.bits .andNot .u64 a0 9223372036854775808) (Go.bits .andNot .u64 a1 9223372036854775808) ((Go.bits .andNot .u64 a1 9223372036854775808) == 0)) else (fadd_Add.j0 k a0 a1 a2 (Go.bits .andNot .u64 a0 9223372036854775808) (Go.bits .andNot .u64 a1 9223372036854775808) false))) = some (r1, r2) := by rw [if_neg (show ¬ (false = true) by decide)] at H; exact H
    clear H
    have H := H1
    clear H1
    have HC6 := Aside0.mk H
    clear H
    go_enter Try.func32, Try.ntmps32
    go_upto_region 5 with (first | ((with_reducible refine gate_callee (f := 75) rfl ?_); refine goesL_ (some 16) rfl rfl Try.func75 (by kernel_rfl) rfl #[.int .u64 a0, .int .u64 a1] rfl (by (try simp only [List.map_toArray, List.map_cons, List.map_nil]); first | done | rfl | (simp only [List.length_drop, List.length_take]; rfl)) ?_; (with_reducible refine (fadd_odd.calls k a0 a1 t735 t736 false _ A4.out).mono ?_); rintro e w' ⟨rfl, ⟨nd, rfl⟩⟩; refine ⟨_, rfl, ?_⟩))
    (try simp only [Act.put, List.setIfInBounds_toArray, List.set_cons_zero, List.set_cons_succ])
    go_cut [42] (fun v42 wc => ∃ (kq : Nat) (x42_5 : Bool), v42 = .bool x42_5 ∧ Aside0 (fadd_Add.j0 kq a0 a1 a2 (Go.bits .andNot .u64 a0 9223372036854775808) (Go.bits .andNot .u64 a1 9223372036854775808) x42_5 = some (r1, r2)) ∧ Aside0 (kq ≤ k) ∧ Aside0 (Below w.heap.size w wc))
    case first =>
      have H := HC6.out
      clear HC6
      by_cases c7 : (Go.bits .andNot .u64 a0 9223372036854775808) = (Go.bits .andNot .u64 a1 9223372036854775808)
      · rw [if_pos c7] at H
        have c7b0 : ((Go.bits .andNot .u64 a0 9223372036854775808) == (Go.bits .andNot .u64 a1 9223372036854775808)) = true := beq_iff_eq.mpr c7
        have c7b1 : ((Go.bits .andNot .u64 a0 9223372036854775808) != (Go.bits .andNot .u64 a1 9223372036854775808)) = false := bne_eq_false_iff_eq.mpr c7
        clear c7
        (first | rw [c7b0] | (simp only [i64_w, i32_w]; rw [c7b0]) | skip)
        by_cases c8 : a0 = a1
        · rw [if_pos c8] at H
          have c8b0 : (a0 == a1) = true := beq_iff_eq.mpr c8
          have c8b1 : (a0 != a1) = false := bne_eq_false_iff_eq.mpr c8
          clear c8
          by_cases c9 : (Go.bits .andNot .u64 a0 9223372036854775808) = 0
          · rw [if_pos c9] at H
            have c9b0 : ((Go.bits .andNot .u64 a0 9223372036854775808) == 0) = true := beq_iff_eq.mpr c9
            have c9b1 : ((Go.bits .andNot .u64 a0 9223372036854775808) != 0) = false := bne_eq_false_iff_eq.mpr c9
            clear c9
            have H' := Aside0.mk H
            clear H
            go_wp2
            go_meet
            case rel => exact ⟨_, (((Go.bits .andNot .u64 a1 9223372036854775808) == 0)), (by first | rfl | (simp; done) | (simp [*]; done)), H', ⟨by first | omega | exact Nat.le_refl _⟩, ⟨by repeat (first | (with_reducible first | exact HB.out | apply below_alloc | apply pw_below_drewN | apply below_drew1) | exact HB.out)⟩⟩
          · rw [if_neg c9] at H
            have c9b0 : ((Go.bits .andNot .u64 a0 9223372036854775808) == 0) = false := beq_eq_false_iff_ne.mpr c9
            have c9b1 : ((Go.bits .andNot .u64 a0 9223372036854775808) != 0) = true := bne_iff_ne.mpr c9
            have H' := Aside0.mk H
            clear H
            go_wp2
            go_meet
            case rel => exact ⟨_, (false), (by first | rfl | (simp; done) | (simp [*]; done)), H', ⟨by first | omega | exact Nat.le_refl _⟩, ⟨by repeat (first | (with_reducible first | exact HB.out | apply below_alloc | apply pw_below_drewN | apply below_drew1) | exact HB.out)⟩⟩
        · rw [if_neg c8] at H
          have c8b0 : (a0 == a1) = false := beq_eq_false_iff_ne.mpr c8
          have c8b1 : (a0 != a1) = true := bne_iff_ne.mpr c8
          have H' := Aside0.mk H
          clear H
          go_wp2
          go_meet
          case rel => exact ⟨_, (true), (by first | rfl | (simp; done) | (simp [*]; done)), H', ⟨by first | omega | exact Nat.le_refl _⟩, ⟨by repeat (first | (with_reducible first | exact HB.out | apply below_alloc | apply pw_below_drewN | apply below_drew1) | exact HB.out)⟩⟩
      · rw [if_neg c7] at H
        have c7b0 : ((Go.bits .andNot .u64 a0 9223372036854775808) == (Go.bits .andNot .u64 a1 9223372036854775808)) = false := beq_eq_false_iff_ne.mpr c7
        have c7b1 : ((Go.bits .andNot .u64 a0 9223372036854775808) != (Go.bits .andNot .u64 a1 9223372036854775808)) = true := bne_iff_ne.mpr c7
        (first | rw [c7b0] | (simp only [i64_w, i32_w]; rw [c7b0]) | skip)
        by_cases c10 : (Go.bits .andNot .u64 a0 9223372036854775808) = 0
        · rw [if_pos c10] at H
          have c10b0 : ((Go.bits .andNot .u64 a0 9223372036854775808) == 0) = true := beq_iff_eq.mpr c10
          have c10b1 : ((Go.bits .andNot .u64 a0 9223372036854775808) != 0) = false := bne_eq_false_iff_eq.mpr c10
          clear c10
          have H' := Aside0.mk H
          clear H
          go_wp2
          go_meet
          case rel => exact ⟨_, (((Go.bits .andNot .u64 a1 9223372036854775808) == 0)), (by first | rfl | (simp; done) | (simp [*]; done)), H', ⟨by first | omega | exact Nat.le_refl _⟩, ⟨by repeat (first | (with_reducible first | exact HB.out | apply below_alloc | apply pw_below_drewN | apply below_drew1) | exact HB.out)⟩⟩
        · rw [if_neg c10] at H
          have c10b0 : ((Go.bits .andNot .u64 a0 9223372036854775808) == 0) = false := beq_eq_false_iff_ne.mpr c10
          have c10b1 : ((Go.bits .andNot .u64 a0 9223372036854775808) != 0) = true := bne_iff_ne.mpr c10
          have H' := Aside0.mk H
          clear H
          go_wp2
          go_meet
          case rel => exact ⟨_, (false), (by first | rfl | (simp; done) | (simp [*]; done)), H', ⟨by first | omega | exact Nat.le_refl _⟩, ⟨by repeat (first | (with_reducible first | exact HB.out | apply below_alloc | apply pw_below_drewN | apply below_drew1) | exact HB.out)⟩⟩
    case rest =>
      clear HC6
      try clear c1
      try clear p2
      try clear c3
      try clear c5
      try clear c7
      try clear c7b0
      try clear c7b1
      try clear c8
      try clear c8b0
      try clear c8b1
      try clear c9
      try clear c9b0
      try clear c9b1
      try clear c10
      try clear c10b0
      try clear c10b1
      obtain ⟨kq, x42_5, rfl, HA, HJ5, HB⟩ := hcut
      cases kq with
      | zero => exact absurd HA.out (by simp [fadd_Add.j0])
      | succ kj5 =>
        have H := HA.out
        clear HA
        simp only [fadd_Add.j0] at H
        by_cases c11 : x42_5 = true
        · subst c11
          have H1 : ((fadd_nought.f a0 a1 a2).bind fun t738 => (some (t738, 0))) = some (r1, r2) := by rw [if_pos rfl] at H; exact H
          clear H
          have H := H1
          clear H1
          replace H := Option.bind_eq_some_iff.mp H
          obtain ⟨t738, A120, H⟩ := H
          replace H : (some (t738, 0)) = some (r1, r2) := H
          have A12 := Aside0.mk A120
          clear A120
          simp only [Option.some.injEq, Prod.mk.injEq] at H
          obtain ⟨rfl, rfl⟩ := H
          go_wp2_with (first | ((with_reducible refine gate_callee (f := 76) rfl ?_); refine goesL_ (some 46) rfl rfl Try.func76 (by kernel_rfl) rfl #[.int .u64 a0, .int .u64 a1, .int .i64 a2] rfl (by (try simp only [List.map_toArray, List.map_cons, List.map_nil]); first | done | rfl | (simp only [List.length_drop, List.length_take]; rfl)) ?_; (with_reducible refine (fadd_nought.calls a0 a1 a2 t738 _ A12.out).mono ?_); rintro e w' ⟨rfl, ⟨nd, rfl⟩⟩; refine ⟨_, rfl, ?_⟩))
          go_ret2
          exact ⟨by first | rfl | (simp [errW_none, errW_some] <;> rfl) | (simp [*, errW_none, errW_some] <;> rfl), by repeat (first | (with_reducible first | exact HB.out | apply below_alloc | apply pw_below_drewN | apply below_drew1) | exact HB.out)⟩
        · replace c11 := Bool.eq_false_iff.mpr c11
          subst c11
          have H1 : (if (Go.bits .andNot .u64 a0 9223372036854775808) < (Go.bits .andNot .u64 a1 9223372036854775808) then ((fadd_sum.f kj5 a1 a0 a2).bind fun bt739 => (some (bt739.1, bt739.2))) else ((fadd_sum.f kj5 a0 a1 a2).bind fun bt741 => (some (bt741.1, bt741.2)))) = some (r1, r2) := by rw [if_neg (show ¬ (false = true) by decide)] at H; exact H
          clear H
          have H := H1
          clear H1
          by_cases c13 : (Go.bits .andNot .u64 a0 9223372036854775808) < (Go.bits .andNot .u64 a1 9223372036854775808)
          · rw [if_pos c13] at H
            have c13b0 : decide ((Go.bits .andNot .u64 a0 9223372036854775808) < (Go.bits .andNot .u64 a1 9223372036854775808)) = true := decide_eq_true c13
            clear c13
            replace H := Option.bind_eq_some_iff.mp H
            obtain ⟨⟨t739, t740⟩, A140, H⟩ := H
            replace H : (some (t739, t740)) = some (r1, r2) := H
            have A14 := Aside0.mk A140
            clear A140
            simp only [Option.some.injEq, Prod.mk.injEq] at H
            obtain ⟨rfl, rfl⟩ := H
            go_wp2_with (first | ((with_reducible refine gate_callee (f := 77) rfl ?_); refine goesL_ (some 55) rfl rfl Try.func77 (by kernel_rfl) rfl #[.int .u64 a1, .int .u64 a0, .int .i64 a2] rfl (by (try simp only [List.map_toArray, List.map_cons, List.map_nil]); first | done | rfl | (simp only [List.length_drop, List.length_take]; rfl)) ?_; (with_reducible refine (fadd_sum.calls kj5 a1 a0 a2 t739 t740 _ A14.out).mono ?_); rintro e w15 ⟨rfl, hb⟩; refine ⟨_, rfl, ?_⟩; have n0_ := Aside0.mk (below_step (by repeat (first | (with_reducible first | exact HB.out | apply below_alloc | apply pw_below_drewN | apply below_drew1) | exact HB.out)) hb); clear HB; have HB := n0_; clear n0_; (try clear hb); (try clear hb2); (try clear hk); (try clear hi)))
            go_ret2
            exact ⟨by first | rfl | (simp [errW_none, errW_some] <;> rfl) | (simp [*, errW_none, errW_some] <;> rfl), by repeat (first | (with_reducible first | exact HB.out | apply below_alloc | apply pw_below_drewN | apply below_drew1) | exact HB.out)⟩
          · rw [if_neg c13] at H
            have c13b0 : decide ((Go.bits .andNot .u64 a0 9223372036854775808) < (Go.bits .andNot .u64 a1 9223372036854775808)) = false := decide_eq_false c13
            clear c13
            replace H := Option.bind_eq_some_iff.mp H
            obtain ⟨⟨t741, t742⟩, A160, H⟩ := H
            replace H : (some (t741, t742)) = some (r1, r2) := H
            have A16 := Aside0.mk A160
            clear A160
            simp only [Option.some.injEq, Prod.mk.injEq] at H
            obtain ⟨rfl, rfl⟩ := H
            go_wp2_with (first | ((with_reducible refine gate_callee (f := 77) rfl ?_); refine goesL_ (some 55) rfl rfl Try.func77 (by kernel_rfl) rfl #[.int .u64 a0, .int .u64 a1, .int .i64 a2] rfl (by (try simp only [List.map_toArray, List.map_cons, List.map_nil]); first | done | rfl | (simp only [List.length_drop, List.length_take]; rfl)) ?_; (with_reducible refine (fadd_sum.calls kj5 a0 a1 a2 t741 t742 _ A16.out).mono ?_); rintro e w17 ⟨rfl, hb⟩; refine ⟨_, rfl, ?_⟩; have n0_ := Aside0.mk (below_step (by repeat (first | (with_reducible first | exact HB.out | apply below_alloc | apply pw_below_drewN | apply below_drew1) | exact HB.out)) hb); clear HB; have HB := n0_; clear n0_; (try clear hb); (try clear hb2); (try clear hk); (try clear hi)))
            go_ret2
            exact ⟨by first | rfl | (simp [errW_none, errW_some] <;> rfl) | (simp [*, errW_none, errW_some] <;> rfl), by repeat (first | (with_reducible first | exact HB.out | apply below_alloc | apply pw_below_drewN | apply below_drew1) | exact HB.out)⟩
def fadd_Sub.f (k : Nat) (a0 : Int) (a1 : Int) (a2 : Int) : Option (Int × Int) := (parts_Class.f k a1).bind fun t743 => (if t743 = 3 then (some (9221120237041090560, 0)) else ((fadd_Add.f k a0 (Go.bits .xor .u64 a1 9223372036854775808) a2).bind fun bt744 => (some (bt744.1, bt744.2))))
set_option maxHeartbeats 8000000 in
set_option maxRecDepth 100000 in
theorem fadd_Sub.calls (k : Nat) (a0 : Int) (a1 : Int) (a2 : Int) (r1 : Int) (r2 : Int) (w : World) (h : fadd_Sub.f k a0 a1 a2 = some (r1, r2)) :
    Calls Try.prog 34 #[.int .u64 a0, .int .u64 a1, .int .i64 a2] w fun e w' => e = .returned (.tuple #[.int .u64 r1, .int .i64 r2]) ∧ Below w.heap.size w w' := by
  have HB := Aside0.mk (Below.refl w.heap.size w)
  have H : ((parts_Class.f k a1).bind fun t743 => (if t743 = 3 then (some (9221120237041090560, 0)) else ((fadd_Add.f k a0 (Go.bits .xor .u64 a1 9223372036854775808) a2).bind fun bt744 => (some (bt744.1, bt744.2))))) = some (r1, r2) := h
  clear h
  replace H := Option.bind_eq_some_iff.mp H
  obtain ⟨t743, A40, H⟩ := H
  replace H : (if t743 = 3 then (some (9221120237041090560, 0)) else ((fadd_Add.f k a0 (Go.bits .xor .u64 a1 9223372036854775808) a2).bind fun bt744 => (some (bt744.1, bt744.2)))) = some (r1, r2) := H
  have A4 := Aside0.mk A40
  clear A40
  by_cases c5 : t743 = 3
  · rw [if_pos c5] at H
    have c5b0 : (t743 == 3) = true := beq_iff_eq.mpr c5
    have c5b1 : (t743 != 3) = false := bne_eq_false_iff_eq.mpr c5
    clear c5
    simp only [Option.some.injEq, Prod.mk.injEq] at H
    obtain ⟨rfl, rfl⟩ := H
    go_enter Try.func34, Try.ntmps34
    go_wp2_with (first | ((with_reducible refine gate_callee (f := 79) rfl ?_); refine goesL_ (some 9) rfl rfl Try.func79 (by kernel_rfl) rfl #[.int .u64 a1] rfl (by (try simp only [List.map_toArray, List.map_cons, List.map_nil]); first | done | rfl | (simp only [List.length_drop, List.length_take]; rfl)) ?_; (with_reducible refine (parts_Class.calls k a1 t743 _ A4.out).mono ?_); rintro e w' ⟨rfl, ⟨nd, rfl⟩⟩; refine ⟨_, rfl, ?_⟩))
    go_ret2
    exact ⟨by first | rfl | (simp [errW_none, errW_some] <;> rfl) | (simp [*, errW_none, errW_some] <;> rfl), by repeat (first | (with_reducible first | exact HB.out | apply below_alloc | apply pw_below_drewN | apply below_drew1) | exact HB.out)⟩
  · rw [if_neg c5] at H
    have c5b0 : (t743 == 3) = false := beq_eq_false_iff_ne.mpr c5
    have c5b1 : (t743 != 3) = true := bne_iff_ne.mpr c5
    replace H := Option.bind_eq_some_iff.mp H
    obtain ⟨⟨t744, t745⟩, A60, H⟩ := H
    replace H : (some (t744, t745)) = some (r1, r2) := H
    have A6 := Aside0.mk A60
    clear A60
    simp only [Option.some.injEq, Prod.mk.injEq] at H
    obtain ⟨rfl, rfl⟩ := H
    go_enter Try.func34, Try.ntmps34
    go_wp2_with (first | ((with_reducible refine gate_callee (f := 79) rfl ?_); refine goesL_ (some 9) rfl rfl Try.func79 (by kernel_rfl) rfl #[.int .u64 a1] rfl (by (try simp only [List.map_toArray, List.map_cons, List.map_nil]); first | done | rfl | (simp only [List.length_drop, List.length_take]; rfl)) ?_; (with_reducible refine (parts_Class.calls k a1 t743 _ A4.out).mono ?_); rintro e w' ⟨rfl, ⟨nd, rfl⟩⟩; refine ⟨_, rfl, ?_⟩) | ((with_reducible refine gate_callee (f := 32) rfl ?_); refine goesL_ (some 15) rfl rfl Try.func32 (by kernel_rfl) rfl #[.int .u64 a0, .int .u64 (Go.bits .xor .u64 a1 9223372036854775808), .int .i64 a2] rfl (by (try simp only [List.map_toArray, List.map_cons, List.map_nil]); first | done | rfl | (simp only [List.length_drop, List.length_take]; rfl)) ?_; (with_reducible refine (fadd_Add.calls k a0 (Go.bits .xor .u64 a1 9223372036854775808) a2 t744 t745 _ A6.out).mono ?_); rintro e w7 ⟨rfl, hb⟩; refine ⟨_, rfl, ?_⟩; have n0_ := Aside0.mk (below_step (by repeat (first | (with_reducible first | exact HB.out | apply below_alloc | apply pw_below_drewN | apply below_drew1) | exact HB.out)) hb); clear HB; have HB := n0_; clear n0_; (try clear hb); (try clear hb2); (try clear hk); (try clear hi)))
    go_ret2
    exact ⟨by first | rfl | (simp [errW_none, errW_some] <;> rfl) | (simp [*, errW_none, errW_some] <;> rfl), by repeat (first | (with_reducible first | exact HB.out | apply below_alloc | apply pw_below_drewN | apply below_drew1) | exact HB.out)⟩
def fconv_up.f (a0 : Bool) (a1 : Bool) (a2 : Bool) (a3 : Int) (a4 : Int) : Option (Bool) := if a4 = 1 then (some a1) else (if a4 = 2 then (some false) else (if a4 = 3 then (some (!a0)) else (if a4 = 4 then (some a0) else (if a1 = true then (if a2 = true then (some true) else (some ((Go.bits .and .u64 a3 1) == 1))) else (some false)))))
set_option maxHeartbeats 8000000 in
set_option maxRecDepth 100000 in
theorem fconv_up.calls (a0 : Bool) (a1 : Bool) (a2 : Bool) (a3 : Int) (a4 : Int) (r : Bool) (w : World) (h : fconv_up.f a0 a1 a2 a3 a4 = some r) :
    Calls Try.prog 114 #[.bool a0, .bool a1, .bool a2, .int .u64 a3, .int .i64 a4] w fun e w' => e = .returned (.bool r) ∧ Drawn0 w w' := by
  have H : (if a4 = 1 then (some a1) else (if a4 = 2 then (some false) else (if a4 = 3 then (some (!a0)) else (if a4 = 4 then (some a0) else (if a1 = true then (if a2 = true then (some true) else (some ((Go.bits .and .u64 a3 1) == 1))) else (some false)))))) = some r := h
  clear h
  by_cases c6 : a4 = 1
  · rw [if_pos c6] at H
    have c6b0 : (a4 == 1) = true := beq_iff_eq.mpr c6
    have c6b1 : (a4 != 1) = false := bne_eq_false_iff_eq.mpr c6
    clear c6
    obtain rfl := Option.some.inj H
    go_enter Try.func114, Try.ntmps114
    go_wp2
    go_ret
    exact ⟨by first | rfl | (simp; done) | (simp [*]; done), by repeat (first | exact Drawn0.refl _ | apply Drawn0.step)⟩
  · rw [if_neg c6] at H
    have c6b0 : (a4 == 1) = false := beq_eq_false_iff_ne.mpr c6
    have c6b1 : (a4 != 1) = true := bne_iff_ne.mpr c6
    by_cases c7 : a4 = 2
    · rw [if_pos c7] at H
      have c7b0 : (a4 == 2) = true := beq_iff_eq.mpr c7
      have c7b1 : (a4 != 2) = false := bne_eq_false_iff_eq.mpr c7
      clear c7
      obtain rfl := Option.some.inj H
      go_enter Try.func114, Try.ntmps114
      go_wp2
      go_ret
      exact ⟨by first | rfl | (simp; done) | (simp [*]; done), by repeat (first | exact Drawn0.refl _ | apply Drawn0.step)⟩
    · rw [if_neg c7] at H
      have c7b0 : (a4 == 2) = false := beq_eq_false_iff_ne.mpr c7
      have c7b1 : (a4 != 2) = true := bne_iff_ne.mpr c7
      by_cases c8 : a4 = 3
      · rw [if_pos c8] at H
        have c8b0 : (a4 == 3) = true := beq_iff_eq.mpr c8
        have c8b1 : (a4 != 3) = false := bne_eq_false_iff_eq.mpr c8
        clear c8
        obtain rfl := Option.some.inj H
        go_enter Try.func114, Try.ntmps114
        go_wp2
        go_ret
        exact ⟨by first | rfl | (simp; done) | (simp [*]; done), by repeat (first | exact Drawn0.refl _ | apply Drawn0.step)⟩
      · rw [if_neg c8] at H
        have c8b0 : (a4 == 3) = false := beq_eq_false_iff_ne.mpr c8
        have c8b1 : (a4 != 3) = true := bne_iff_ne.mpr c8
        by_cases c9 : a4 = 4
        · rw [if_pos c9] at H
          have c9b0 : (a4 == 4) = true := beq_iff_eq.mpr c9
          have c9b1 : (a4 != 4) = false := bne_eq_false_iff_eq.mpr c9
          clear c9
          obtain rfl := Option.some.inj H
          go_enter Try.func114, Try.ntmps114
          go_wp2
          go_ret
          exact ⟨by first | rfl | (simp; done) | (simp [*]; done), by repeat (first | exact Drawn0.refl _ | apply Drawn0.step)⟩
        · rw [if_neg c9] at H
          have c9b0 : (a4 == 4) = false := beq_eq_false_iff_ne.mpr c9
          have c9b1 : (a4 != 4) = true := bne_iff_ne.mpr c9
          by_cases c10 : a1 = true
          · subst c10
            have H1 : (if a2 = true then (some true) else (some ((Go.bits .and .u64 a3 1) == 1))) = some r := by rw [if_pos rfl] at H; exact H
            clear H
            have H := H1
            clear H1
            by_cases c11 : a2 = true
            · subst c11
              have H1 : (some true) = some r := by rw [if_pos rfl] at H; exact H
              clear H
              have H := H1
              clear H1
              obtain rfl := Option.some.inj H
              go_enter Try.func114, Try.ntmps114
              go_wp2
              go_ret
              exact ⟨by first | rfl | (simp; done) | (simp [*]; done), by repeat (first | exact Drawn0.refl _ | apply Drawn0.step)⟩
            · replace c11 := Bool.eq_false_iff.mpr c11
              subst c11
              have H1 : (some ((Go.bits .and .u64 a3 1) == 1)) = some r := by rw [if_neg (show ¬ (false = true) by decide)] at H; exact H
              clear H
              have H := H1
              clear H1
              obtain rfl := Option.some.inj H
              go_enter Try.func114, Try.ntmps114
              go_wp2
              go_ret
              exact ⟨by first | rfl | (simp; done) | (simp [*]; done), by repeat (first | exact Drawn0.refl _ | apply Drawn0.step)⟩
          · replace c10 := Bool.eq_false_iff.mpr c10
            subst c10
            have H1 : (some false) = some r := by rw [if_neg (show ¬ (false = true) by decide)] at H; exact H
            clear H
            have H := H1
            clear H1
            obtain rfl := Option.some.inj H
            go_enter Try.func114, Try.ntmps114
            go_wp2
            go_ret
            exact ⟨by first | rfl | (simp; done) | (simp [*]; done), by repeat (first | exact Drawn0.refl _ | apply Drawn0.step)⟩
def fconv_near.j0 : Nat → Bool → Int → Int → Bool → Bool → Bool → Option (Int × Bool)
  | 0, _, _, _, _, _, _ => none
  | k + 1, x0, x3, x10, x11, x12, x36 => if x36 = true then (some (x10, false)) else ((fconv_up.f x0 x11 x12 x10 x3).bind fun t746 => (if t746 = true then (some (IntKind.u64.wrap (x10 + 1), true)) else (some (x10, true))))
def fconv_near.f (k : Nat) (a0 : Bool) (a1 : Int) (a2 : Int) (a3 : Int) : Option (Int × Bool) := if 0 ≤ (mn a2 63) then (if 0 ≤ (wrap64 ((mn a2 63) - 1)) then (if ((Go.bits .and .u64 (shr .u64 a1 (wrap64 ((mn a2 63) - 1))) 1) = 1) then (fconv_near.j0 k a0 a3 (a1 / 2 ^ (mn a2 63).toNat) ((Go.bits .and .u64 (shr .u64 a1 (wrap64 ((mn a2 63) - 1))) 1) == 1) ((Go.bits .and .u64 a1 (IntKind.u64.wrap ((shl .u64 1 (wrap64 ((mn a2 63) - 1))) - 1))) != 0) false) else (fconv_near.j0 k a0 a3 (a1 / 2 ^ (mn a2 63).toNat) ((Go.bits .and .u64 (shr .u64 a1 (wrap64 ((mn a2 63) - 1))) 1) == 1) ((Go.bits .and .u64 a1 (IntKind.u64.wrap ((shl .u64 1 (wrap64 ((mn a2 63) - 1))) - 1))) != 0) (!((Go.bits .and .u64 a1 (IntKind.u64.wrap ((shl .u64 1 (wrap64 ((mn a2 63) - 1))) - 1))) != 0)))) else (none)) else (none)
set_option maxHeartbeats 8000000 in
set_option maxRecDepth 100000 in
theorem fconv_near.calls (k : Nat) (a0 : Bool) (a1 : Int) (a2 : Int) (a3 : Int) (r1 : Int) (r2 : Bool) (w : World) (h : fconv_near.f k a0 a1 a2 a3 = some (r1, r2)) :
    Calls Try.prog 96 #[.bool a0, .int .u64 a1, .int .i64 a2, .int .i64 a3] w fun e w' => e = .returned (.tuple #[.int .u64 r1, .bool r2]) ∧ Below w.heap.size w w' := by
  have HB := Aside0.mk (Below.refl w.heap.size w)
  have H : (if 0 ≤ (mn a2 63) then (if 0 ≤ (wrap64 ((mn a2 63) - 1)) then (if ((Go.bits .and .u64 (shr .u64 a1 (wrap64 ((mn a2 63) - 1))) 1) = 1) then (fconv_near.j0 k a0 a3 (a1 / 2 ^ (mn a2 63).toNat) ((Go.bits .and .u64 (shr .u64 a1 (wrap64 ((mn a2 63) - 1))) 1) == 1) ((Go.bits .and .u64 a1 (IntKind.u64.wrap ((shl .u64 1 (wrap64 ((mn a2 63) - 1))) - 1))) != 0) false) else (fconv_near.j0 k a0 a3 (a1 / 2 ^ (mn a2 63).toNat) ((Go.bits .and .u64 (shr .u64 a1 (wrap64 ((mn a2 63) - 1))) 1) == 1) ((Go.bits .and .u64 a1 (IntKind.u64.wrap ((shl .u64 1 (wrap64 ((mn a2 63) - 1))) - 1))) != 0) (!((Go.bits .and .u64 a1 (IntKind.u64.wrap ((shl .u64 1 (wrap64 ((mn a2 63) - 1))) - 1))) != 0)))) else (none)) else (none)) = some (r1, r2) := h
  clear h
  obtain ⟨ji5, hji5⟩ : ∃ j_ : Int, (mn a2 63) = j_ := ⟨_, rfl⟩
  replace H : (if 0 ≤ (ji5) then (if 0 ≤ (wrap64 ((ji5) - 1)) then (if ((Go.bits .and .u64 (shr .u64 a1 (wrap64 ((ji5) - 1))) 1) = 1) then (fconv_near.j0 k a0 a3 (a1 / 2 ^ (ji5).toNat) ((Go.bits .and .u64 (shr .u64 a1 (wrap64 ((ji5) - 1))) 1) == 1) ((Go.bits .and .u64 a1 (IntKind.u64.wrap ((shl .u64 1 (wrap64 ((ji5) - 1))) - 1))) != 0) false) else (fconv_near.j0 k a0 a3 (a1 / 2 ^ (ji5).toNat) ((Go.bits .and .u64 (shr .u64 a1 (wrap64 ((ji5) - 1))) 1) == 1) ((Go.bits .and .u64 a1 (IntKind.u64.wrap ((shl .u64 1 (wrap64 ((ji5) - 1))) - 1))) != 0) (!((Go.bits .and .u64 a1 (IntKind.u64.wrap ((shl .u64 1 (wrap64 ((ji5) - 1))) - 1))) != 0)))) else (none)) else (none)) = some (r1, r2) := by first | (rw [hji5] at H; exact H) | (simp only [hji5] at H ⊢; exact H)
  (try (have hji5h : ji5 ≤ 63 := by (rw [← hji5]; unfold mn; (repeat' split) <;> omega)))
  (try (have hji5g : ji5 ≤ 64 := by omega))
  have hji5_ : (if 63 < a2 then 63 else a2) = ji5 := hji5
  by_cases c6 : 0 ≤ (ji5)
  · rw [if_pos c6] at H
    have c6b0 := eq_true c6
    have c6b1 : decide (0 ≤ (ji5)) = true := decide_eq_true c6
    clear c6
    obtain ⟨ji7, hji7⟩ : ∃ j_ : Int, (wrap64 ((ji5) - 1)) = j_ := ⟨_, rfl⟩
    replace H : (if 0 ≤ (ji7) then (if ((Go.bits .and .u64 (shr .u64 a1 (ji7)) 1) = 1) then (fconv_near.j0 k a0 a3 (a1 / 2 ^ (ji5).toNat) ((Go.bits .and .u64 (shr .u64 a1 (ji7)) 1) == 1) ((Go.bits .and .u64 a1 (IntKind.u64.wrap ((shl .u64 1 (ji7)) - 1))) != 0) false) else (fconv_near.j0 k a0 a3 (a1 / 2 ^ (ji5).toNat) ((Go.bits .and .u64 (shr .u64 a1 (ji7)) 1) == 1) ((Go.bits .and .u64 a1 (IntKind.u64.wrap ((shl .u64 1 (ji7)) - 1))) != 0) (!((Go.bits .and .u64 a1 (IntKind.u64.wrap ((shl .u64 1 (ji7)) - 1))) != 0)))) else (none)) = some (r1, r2) := by first | (rw [hji7] at H; exact H) | (simp only [hji7] at H ⊢; exact H)
    have hji7w : (IntKind.i64.wrap ((ji5) - 1)) = ji7 := (i64_w _).trans hji7
    by_cases c8 : 0 ≤ (ji7)
    · rw [if_pos c8] at H
      have c8b0 := eq_true c8
      have c8b1 : decide (0 ≤ (ji7)) = true := decide_eq_true c8
      clear c8
      obtain ⟨ji9, hji9⟩ : ∃ j_ : Int, (shr .u64 a1 (ji7)) = j_ := ⟨_, rfl⟩
      replace H : (if ((Go.bits .and .u64 (ji9) 1) = 1) then (fconv_near.j0 k a0 a3 (a1 / 2 ^ (ji5).toNat) ((Go.bits .and .u64 (ji9) 1) == 1) ((Go.bits .and .u64 a1 (IntKind.u64.wrap ((shl .u64 1 (ji7)) - 1))) != 0) false) else (fconv_near.j0 k a0 a3 (a1 / 2 ^ (ji5).toNat) ((Go.bits .and .u64 (ji9) 1) == 1) ((Go.bits .and .u64 a1 (IntKind.u64.wrap ((shl .u64 1 (ji7)) - 1))) != 0) (!((Go.bits .and .u64 a1 (IntKind.u64.wrap ((shl .u64 1 (ji7)) - 1))) != 0)))) = some (r1, r2) := by first | (rw [hji9] at H; exact H) | (simp only [hji9] at H ⊢; exact H)
      have hji9_ : (a1 / 2 ^ min (ji7).toNat 64) = ji9 := hji9
      have hji9z : (ji7) ≤ 64 → (a1 / 2 ^ (ji7).toNat) = ji9 := shr_small hji9
      have c10b0 := eq_true (of_decide_eq_true (by first | (with_reducible assumption) | assumption) : 0 ≤ (ji7))
      obtain ⟨ji11, hji11⟩ : ∃ j_ : Int, (shl .u64 1 (ji7)) = j_ := ⟨_, rfl⟩
      replace H : (if ((Go.bits .and .u64 (ji9) 1) = 1) then (fconv_near.j0 k a0 a3 (a1 / 2 ^ (ji5).toNat) ((Go.bits .and .u64 (ji9) 1) == 1) ((Go.bits .and .u64 a1 (IntKind.u64.wrap ((ji11) - 1))) != 0) false) else (fconv_near.j0 k a0 a3 (a1 / 2 ^ (ji5).toNat) ((Go.bits .and .u64 (ji9) 1) == 1) ((Go.bits .and .u64 a1 (IntKind.u64.wrap ((ji11) - 1))) != 0) (!((Go.bits .and .u64 a1 (IntKind.u64.wrap ((ji11) - 1))) != 0)))) = some (r1, r2) := by first | (rw [hji11] at H; exact H) | (simp only [hji11] at H ⊢; exact H)
      have hji11_ : (IntKind.u64.wrap (1 * 2 ^ min (ji7).toNat 64)) = ji11 := hji11
      have hji11z : (ji7) ≤ 64 → (IntKind.u64.wrap (1 * 2 ^ (ji7).toNat)) = ji11 := shl_small hji11
      have hji11u : (IntKind.u64.wrap (2 ^ min (ji7).toNat 64)) = ji11 := by have h_ := hji11_; rw [Int.one_mul] at h_; exact h_
      have hji11v : (ji7) ≤ 64 → (IntKind.u64.wrap (2 ^ (ji7).toNat)) = ji11 := fun hle_ => by have h_ := hji11z hle_; rw [Int.one_mul] at h_; exact h_
      have HC12 := Aside0.mk H
      clear H
      go_enter Try.func96, Try.ntmps96
      go_upto_region 5 with (fail)
      go_cut [36] (fun v36 wc => ∃ (kq : Nat) (x36_11 : Bool), v36 = .bool x36_11 ∧ Aside0 (fconv_near.j0 kq a0 a3 (a1 / 2 ^ (ji5).toNat) ((Go.bits .and .u64 (ji9) 1) == 1) ((Go.bits .and .u64 a1 (IntKind.u64.wrap ((ji11) - 1))) != 0) x36_11 = some (r1, r2)) ∧ Aside0 (kq ≤ k) ∧ Aside0 (Below w.heap.size w wc))
      case first =>
        have H := HC12.out
        clear HC12
        by_cases c13 : ((Go.bits .and .u64 (ji9) 1) = 1)
        · rw [if_pos c13] at H
          have c13b0 : ((Go.bits .and .u64 (ji9) 1) == 1) = true := beq_iff_eq.mpr c13
          have c13b1 : ((Go.bits .and .u64 (ji9) 1) != 1) = false := bne_eq_false_iff_eq.mpr c13
          clear c13
          (first | rw [c13b0] | (simp only [i64_w, i32_w]; rw [c13b0]) | skip)
          have H' := Aside0.mk H
          clear H
          go_wp2
          (try simp only [c13b0] at *)
          go_meet
          case rel => exact ⟨_, (false), (by first | rfl | (simp; done) | (simp [*]; done)), H', ⟨by first | omega | exact Nat.le_refl _⟩, ⟨by repeat (first | (with_reducible first | exact HB.out | apply below_alloc | apply pw_below_drewN | apply below_drew1) | exact HB.out)⟩⟩
        · rw [if_neg c13] at H
          have c13b0 : ((Go.bits .and .u64 (ji9) 1) == 1) = false := beq_eq_false_iff_ne.mpr c13
          have c13b1 : ((Go.bits .and .u64 (ji9) 1) != 1) = true := bne_iff_ne.mpr c13
          (first | rw [c13b0] | (simp only [i64_w, i32_w]; rw [c13b0]) | skip)
          have H' := Aside0.mk H
          clear H
          go_wp2
          (try simp only [c13b0] at *)
          go_meet
          case rel => exact ⟨_, (!((Go.bits .and .u64 a1 (IntKind.u64.wrap ((ji11) - 1))) != 0)), (by first | rfl | (simp; done) | (simp only [← hji11] <;> (first | rfl | simp)) | (simp [*]; done)), H', ⟨by first | omega | exact Nat.le_refl _⟩, ⟨by repeat (first | (with_reducible first | exact HB.out | apply below_alloc | apply pw_below_drewN | apply below_drew1) | exact HB.out)⟩⟩
      case rest =>
        clear HC12
        try clear c1
        try clear p2
        try clear c6
        try clear c6b0
        try clear c6b1
        try clear p6
        try clear c8
        try clear c8b0
        try clear c8b1
        try clear c9
        try clear c10
        try clear c10b0
        try clear c13
        try clear c13b0
        try clear c13b1
        obtain ⟨kq, x36_11, rfl, HA, HJ11, HB⟩ := hcut
        cases kq with
        | zero => exact absurd HA.out (by simp [fconv_near.j0])
        | succ kj11 =>
          have H := HA.out
          clear HA
          simp only [fconv_near.j0] at H
          by_cases c14 : x36_11 = true
          · subst c14
            have H1 : (some ((a1 / 2 ^ (ji5).toNat), false)) = some (r1, r2) := by rw [if_pos rfl] at H; exact H
            clear H
            have H := H1
            clear H1
            simp only [Option.some.injEq, Prod.mk.injEq] at H
            obtain ⟨rfl, rfl⟩ := H
            go_wp2
            go_ret2
            exact ⟨by first | rfl | (simp [errW_none, errW_some] <;> rfl) | (simp only [← hji5, ← hji7, ← hji9, ← hji11]; first | rfl | (simp [errW_none, errW_some] <;> rfl)) | (simp [*, errW_none, errW_some] <;> rfl), by repeat (first | (with_reducible first | exact HB.out | apply below_alloc | apply pw_below_drewN | apply below_drew1) | exact HB.out)⟩
          · replace c14 := Bool.eq_false_iff.mpr c14
            subst c14
            have H1 : ((fconv_up.f a0 ((Go.bits .and .u64 (ji9) 1) == 1) ((Go.bits .and .u64 a1 (IntKind.u64.wrap ((ji11) - 1))) != 0) (a1 / 2 ^ (ji5).toNat) a3).bind fun t746 => (if t746 = true then (some (IntKind.u64.wrap ((a1 / 2 ^ (ji5).toNat) + 1), true)) else (some ((a1 / 2 ^ (ji5).toNat), true)))) = some (r1, r2) := by rw [if_neg (show ¬ (false = true) by decide)] at H; exact H
            clear H
            have H := H1
            clear H1
            replace H := Option.bind_eq_some_iff.mp H
            obtain ⟨t746, A150, H⟩ := H
            replace H : (if t746 = true then (some (IntKind.u64.wrap ((a1 / 2 ^ (ji5).toNat) + 1), true)) else (some ((a1 / 2 ^ (ji5).toNat), true))) = some (r1, r2) := H
            have A15 := Aside0.mk A150
            clear A150
            by_cases c16 : t746 = true
            · subst c16
              have H1 : (some (IntKind.u64.wrap ((a1 / 2 ^ (ji5).toNat) + 1), true)) = some (r1, r2) := by rw [if_pos rfl] at H; exact H
              clear H
              have H := H1
              clear H1
              simp only [Option.some.injEq, Prod.mk.injEq] at H
              obtain ⟨rfl, rfl⟩ := H
              go_wp2_with (first | ((with_reducible refine gate_callee (f := 114) rfl ?_); refine goesL_ (some 43) rfl rfl Try.func114 (by kernel_rfl) rfl #[.bool a0, .bool ((Go.bits .and .u64 (ji9) 1) == 1), .bool ((Go.bits .and .u64 a1 (IntKind.u64.wrap ((ji11) - 1))) != 0), .int .u64 (a1 / 2 ^ (ji5).toNat), .int .i64 a3] rfl (by (try simp only [List.map_toArray, List.map_cons, List.map_nil]); first | done | (simp only [hji11, hji5, hji9]; rfl) | rfl | (simp only [List.length_drop, List.length_take]; rfl)) ?_; (refine (fconv_up.calls a0 ((Go.bits .and .u64 (ji9) 1) == 1) ((Go.bits .and .u64 a1 (IntKind.u64.wrap ((ji11) - 1))) != 0) (a1 / 2 ^ (ji5).toNat) a3 true _ A15.out).mono ?_); rintro e w' ⟨rfl, ⟨nd, rfl⟩⟩; refine ⟨_, rfl, ?_⟩))
              go_ret2
              exact ⟨by first | rfl | (simp [errW_none, errW_some] <;> rfl) | (simp only [← hji5, ← hji7, ← hji9, ← hji11]; first | rfl | (simp [errW_none, errW_some] <;> rfl)) | (simp [*, errW_none, errW_some] <;> rfl), by repeat (first | (with_reducible first | exact HB.out | apply below_alloc | apply pw_below_drewN | apply below_drew1) | exact HB.out)⟩
            · replace c16 := Bool.eq_false_iff.mpr c16
              subst c16
              have H1 : (some ((a1 / 2 ^ (ji5).toNat), true)) = some (r1, r2) := by rw [if_neg (show ¬ (false = true) by decide)] at H; exact H
              clear H
              have H := H1
              clear H1
              simp only [Option.some.injEq, Prod.mk.injEq] at H
              obtain ⟨rfl, rfl⟩ := H
              go_wp2_with (first | ((with_reducible refine gate_callee (f := 114) rfl ?_); refine goesL_ (some 43) rfl rfl Try.func114 (by kernel_rfl) rfl #[.bool a0, .bool ((Go.bits .and .u64 (ji9) 1) == 1), .bool ((Go.bits .and .u64 a1 (IntKind.u64.wrap ((ji11) - 1))) != 0), .int .u64 (a1 / 2 ^ (ji5).toNat), .int .i64 a3] rfl (by (try simp only [List.map_toArray, List.map_cons, List.map_nil]); first | done | (simp only [hji11, hji5, hji9]; rfl) | rfl | (simp only [List.length_drop, List.length_take]; rfl)) ?_; (refine (fconv_up.calls a0 ((Go.bits .and .u64 (ji9) 1) == 1) ((Go.bits .and .u64 a1 (IntKind.u64.wrap ((ji11) - 1))) != 0) (a1 / 2 ^ (ji5).toNat) a3 false _ A15.out).mono ?_); rintro e w' ⟨rfl, ⟨nd, rfl⟩⟩; refine ⟨_, rfl, ?_⟩))
              go_ret2
              exact ⟨by first | rfl | (simp [errW_none, errW_some] <;> rfl) | (simp only [← hji5, ← hji7, ← hji9, ← hji11]; first | rfl | (simp [errW_none, errW_some] <;> rfl)) | (simp [*, errW_none, errW_some] <;> rfl), by repeat (first | (with_reducible first | exact HB.out | apply below_alloc | apply pw_below_drewN | apply below_drew1) | exact HB.out)⟩
    · rw [if_neg c8] at H
      exact absurd H (by simp)
  · rw [if_neg c6] at H
    exact absurd H (by simp)
end Go.Proofs.Ytfmdjhfnbiekaaa.PF
