/- Contracts of Go functions: each call answers what the Lean function of its name answers. Written by a program of this session (vprint.py) round the print of the kit. -/
import Derived.Test.YtjgdpjbkmcjbcaaDoorZFconvScales38
namespace Go.Proofs.YtjgdpjbkmcjbcaaDoor.PG
open Go.RowKit Go.Proofs.YtjgdpjbkmcjbcaaDoorW.PrintWords Go.Proofs.YtjgdpjbkmcjbcaaDoorW.PrintLast Go.Proofs.YtjgdpjbkmcjbcaaDoorW.PrintMore
attribute [local go_sem] max2_int min2_int max_two min_two max_three min_three max_four min_four
set_option linter.unusedVariables false
set_option linter.unusedSimpArgs false
attribute [local go_sem] fld139_1
def fmul_Scale.f (k : Nat) (a0 : Int) (a1 : Int) (a2 : Int) : Option (Int × Int) := (parts_Class.f k a0).bind fun t1429 => (if t1429 = 3 then (some (9221120237041090560, 0)) else (if t1429 = 1 then ((parts_Split.f a0).bind fun bt1430 => ((parts_Round.f k bt1430.1 0 bt1430.2.1 (wrap64 (bt1430.2.2.1 + (mn (mx a1 (-8192)) 8192))) false a2).bind fun bt1434 => (some (bt1434.1, bt1434.2)))) else (some (a0, 0))))
set_option maxHeartbeats 8000000 in
set_option maxRecDepth 100000 in
theorem fmul_Scale.calls (k : Nat) (a0 : Int) (a1 : Int) (a2 : Int) (r1 : Int) (r2 : Int) (w : World) (h : fmul_Scale.f k a0 a1 a2 = some (r1, r2)) :
    Calls Tryd.prog 57 #[.int .u64 a0, .int .i64 a1, .int .i64 a2] w fun e w' => e = .returned (.tuple #[.int .u64 r1, .int .i64 r2]) ∧ Below w.heap.size w w' := by
  have HB := Aside0.mk (Below.refl w.heap.size w)
  have H : ((parts_Class.f k a0).bind fun t1429 => (if t1429 = 3 then (some (9221120237041090560, 0)) else (if t1429 = 1 then ((parts_Split.f a0).bind fun bt1430 => ((parts_Round.f k bt1430.1 0 bt1430.2.1 (wrap64 (bt1430.2.2.1 + (mn (mx a1 (-8192)) 8192))) false a2).bind fun bt1434 => (some (bt1434.1, bt1434.2)))) else (some (a0, 0))))) = some (r1, r2) := h
  clear h
  replace H := Option.bind_eq_some_iff.mp H
  obtain ⟨t1429, A40, H⟩ := H
  replace H : (if t1429 = 3 then (some (9221120237041090560, 0)) else (if t1429 = 1 then ((parts_Split.f a0).bind fun bt1430 => ((parts_Round.f k bt1430.1 0 bt1430.2.1 (wrap64 (bt1430.2.2.1 + (mn (mx a1 (-8192)) 8192))) false a2).bind fun bt1434 => (some (bt1434.1, bt1434.2)))) else (some (a0, 0)))) = some (r1, r2) := H
  have A4 := Aside0.mk A40
  clear A40
  by_cases c5 : t1429 = 3
  · rw [if_pos c5] at H
    have c5b0 : (t1429 == 3) = true := beq_iff_eq.mpr c5
    have c5b1 : (t1429 != 3) = false := bne_eq_false_iff_eq.mpr c5
    clear c5
    simp only [Option.some.injEq, Prod.mk.injEq] at H
    obtain ⟨rfl, rfl⟩ := H
    go_enter Tryd.func57, Tryd.ntmps57
    go_wp2_with (first | ((with_reducible refine gate_callee (f := 101) rfl ?_); refine goesL_ (some 13) rfl rfl Tryd.func101 (by kernel_rfl) rfl #[.int .u64 a0] rfl (by (try simp only [List.map_toArray, List.map_cons, List.map_nil]); first | done | rfl | (simp only [List.length_drop, List.length_take]; rfl)) ?_; (with_reducible refine (parts_Class.calls k a0 t1429 _ A4.out).mono ?_); rintro e w' ⟨rfl, ⟨nd, rfl⟩⟩; refine ⟨_, rfl, ?_⟩))
    go_ret2
    exact ⟨by first | rfl | (simp [errW_none, errW_some] <;> rfl) | (simp [*, errW_none, errW_some] <;> rfl), by repeat (first | (with_reducible first | exact HB.out | apply below_alloc | apply pw_below_drewN | apply below_drew1) | exact HB.out)⟩
  · rw [if_neg c5] at H
    have c5b0 : (t1429 == 3) = false := beq_eq_false_iff_ne.mpr c5
    have c5b1 : (t1429 != 3) = true := bne_iff_ne.mpr c5
    by_cases c6 : t1429 = 1
    · rw [if_pos c6] at H
      have c6b0 : (t1429 == 1) = true := beq_iff_eq.mpr c6
      have c6b1 : (t1429 != 1) = false := bne_eq_false_iff_eq.mpr c6
      clear c6
      replace H := Option.bind_eq_some_iff.mp H
      obtain ⟨⟨t1430, t1431, t1432, t1433⟩, A70, H⟩ := H
      replace H : ((parts_Round.f k t1430 0 t1431 (wrap64 (t1432 + (mn (mx a1 (-8192)) 8192))) false a2).bind fun bt1434 => (some (bt1434.1, bt1434.2))) = some (r1, r2) := H
      have A7 := Aside0.mk A70
      clear A70
      obtain ⟨ji8, hji8⟩ : ∃ j_ : Int, (mx a1 (-8192)) = j_ := ⟨_, rfl⟩
      replace H : ((parts_Round.f k t1430 0 t1431 (wrap64 (t1432 + (mn (ji8) 8192))) false a2).bind fun bt1434 => (some (bt1434.1, bt1434.2))) = some (r1, r2) := by first | (rw [hji8] at H; exact H) | (simp only [hji8] at H ⊢; exact H)
      (try rw [hji8] at A4)
      (try rw [hji8] at A7)
      have hji8_ : (if a1 < (-8192) then (-8192) else a1) = ji8 := hji8
      obtain ⟨ji9, hji9⟩ : ∃ j_ : Int, (mn (ji8) 8192) = j_ := ⟨_, rfl⟩
      replace H : ((parts_Round.f k t1430 0 t1431 (wrap64 (t1432 + (ji9))) false a2).bind fun bt1434 => (some (bt1434.1, bt1434.2))) = some (r1, r2) := by first | (rw [hji9] at H; exact H) | (simp only [hji9] at H ⊢; exact H)
      (try rw [hji9] at A4)
      (try rw [hji9] at A7)
      have hji9_ : (if 8192 < (ji8) then 8192 else (ji8)) = ji9 := hji9
      replace H := Option.bind_eq_some_iff.mp H
      obtain ⟨⟨t1434, t1435⟩, A100, H⟩ := H
      replace H : (some (t1434, t1435)) = some (r1, r2) := H
      have A10 := Aside0.mk A100
      clear A100
      simp only [Option.some.injEq, Prod.mk.injEq] at H
      obtain ⟨rfl, rfl⟩ := H
      go_enter Tryd.func57, Tryd.ntmps57
      go_wp2_with (first | ((with_reducible refine gate_callee (f := 101) rfl ?_); refine goesL_ (some 13) rfl rfl Tryd.func101 (by kernel_rfl) rfl #[.int .u64 a0] rfl (by (try simp only [List.map_toArray, List.map_cons, List.map_nil]); first | done | rfl | (simp only [List.length_drop, List.length_take]; rfl)) ?_; (with_reducible refine (parts_Class.calls k a0 t1429 _ A4.out).mono ?_); rintro e w' ⟨rfl, ⟨nd, rfl⟩⟩; refine ⟨_, rfl, ?_⟩) | ((with_reducible refine gate_callee (f := 100) rfl ?_); refine goesL_ (some 20) rfl rfl Tryd.func100 (by kernel_rfl) rfl #[.int .u64 a0] rfl (by (try simp only [List.map_toArray, List.map_cons, List.map_nil]); first | done | rfl | (simp only [List.length_drop, List.length_take]; rfl)) ?_; (with_reducible refine (parts_Split.calls a0 t1430 t1431 t1432 t1433 _ A7.out).mono ?_); rintro e w' ⟨rfl, ⟨nd, rfl⟩⟩; refine ⟨_, rfl, ?_⟩) | ((with_reducible refine gate_callee (f := 96) rfl ?_); refine goesL_ (some 33) rfl rfl Tryd.func96 (by kernel_rfl) rfl #[.bool t1430, .int .u64 0, .int .u64 t1431, .int .i64 (wrap64 (t1432 + (ji9))), .bool false, .int .i64 a2] rfl (by (try simp only [List.map_toArray, List.map_cons, List.map_nil]); first | done | (simp only [hji9]; rfl) | rfl | (simp only [List.length_drop, List.length_take]; rfl)) ?_; (with_reducible refine (parts_Round.calls k t1430 0 t1431 (wrap64 (t1432 + (ji9))) false a2 t1434 t1435 _ A10.out).mono ?_); rintro e w11 ⟨rfl, hb⟩; refine ⟨_, rfl, ?_⟩; have n0_ := Aside0.mk (below_step (by repeat (first | (with_reducible first | exact HB.out | apply below_alloc | apply pw_below_drewN | apply below_drew1) | exact HB.out)) hb); clear HB; have HB := n0_; clear n0_; (try clear hb); (try clear hb2); (try clear hk); (try clear hi)))
      go_ret2
      exact ⟨by first | rfl | (simp [errW_none, errW_some] <;> rfl) | (simp only [← hji8, ← hji9]; first | rfl | (simp [errW_none, errW_some] <;> rfl)) | (simp [*, errW_none, errW_some] <;> rfl), by repeat (first | (with_reducible first | exact HB.out | apply below_alloc | apply pw_below_drewN | apply below_drew1) | exact HB.out)⟩
    · rw [if_neg c6] at H
      have c6b0 : (t1429 == 1) = false := beq_eq_false_iff_ne.mpr c6
      have c6b1 : (t1429 != 1) = true := bne_iff_ne.mpr c6
      simp only [Option.some.injEq, Prod.mk.injEq] at H
      obtain ⟨rfl, rfl⟩ := H
      go_enter Tryd.func57, Tryd.ntmps57
      go_wp2_with (first | ((with_reducible refine gate_callee (f := 101) rfl ?_); refine goesL_ (some 13) rfl rfl Tryd.func101 (by kernel_rfl) rfl #[.int .u64 a0] rfl (by (try simp only [List.map_toArray, List.map_cons, List.map_nil]); first | done | rfl | (simp only [List.length_drop, List.length_take]; rfl)) ?_; (with_reducible refine (parts_Class.calls k a0 t1429 _ A4.out).mono ?_); rintro e w' ⟨rfl, ⟨nd, rfl⟩⟩; refine ⟨_, rfl, ?_⟩))
      go_ret2
      exact ⟨by first | rfl | (simp [errW_none, errW_some] <;> rfl) | (simp [*, errW_none, errW_some] <;> rfl), by repeat (first | (with_reducible first | exact HB.out | apply below_alloc | apply pw_below_drewN | apply below_drew1) | exact HB.out)⟩
end Go.Proofs.YtjgdpjbkmcjbcaaDoor.PG
