/- Contracts of Go functions: each call answers what the Lean function of its name answers. Written by a program of this session (vprint.py) round the print of the kit. -/
import Derived.Test.YtfmdjhfnbiekaaaQFaddOrder11
import Derived.WalkSpells
import Derived.Lib.SliceRun
import Derived.Test.YtfmdjhfnbiekaaaQFaddOrder23
import Derived.Test.YtfmdjhfnbiekaaaQFaddOrder26
import Derived.Laws.MakeOwn
namespace Go.Proofs.Ytfmdjhfnbiekaaa.PA
open Go.RowKit Go.Proofs.YtfmdjhfnbiekaaaW.PrintWords Go.Proofs.YtfmdjhfnbiekaaaW.PrintLast Go.Proofs.YtfmdjhfnbiekaaaW.PrintMore
attribute [local go_sem] max2_int min2_int max_two min_two max_three min_three max_four min_four
set_option linter.unusedVariables false
set_option linter.unusedSimpArgs false
attribute [local go_sem] fld24_0 fld24_1 fld136_1
def vernierlaw07_FaddOrder.j0 : Nat → Int → Int → Int → Int → Int → Int → Bool → Option (Bool)
  | 0, _, _, _, _, _, _, _ => none
  | k + 1, x0, x2, x7, x8, x9, x10, x43 => if x43 = true then (if x7 = x9 then (some (x8 == x10)) else (some false)) else ((fadd_Sub.f k x0 x0 x2).bind fun bt682 => ((fadd_Add.f k x0 0 x2).bind fun bt684 => (if (IntKind.u64.wrap (bt682.1 * 2)) = 0 then (if bt684.2 = 0 then (if bt684.1 = x0 then (some true) else (if (IntKind.u64.wrap (x0 * 2)) = 0 then (some ((IntKind.u64.wrap (bt684.1 * 2)) == 0)) else (some false))) else (some false)) else (some false))))
def vernierlaw07_FaddOrder.f (k : Nat) (a0 : Int) (a1 : Int) (a2 : Int) : Option (Bool) := (vernierlaw07_alive.f k).bind fun t676 => (if t676 = true then ((fadd_Add.f k a0 a1 a2).bind fun bt677 => ((fadd_Add.f k a1 a0 a2).bind fun bt679 => (if bt677.1 = bt679.1 then (if bt677.2 = bt679.2 then ((vernierref06_Class.f k a0).bind fun t681 => (vernierlaw07_FaddOrder.j0 k a0 a2 bt677.1 bt677.2 bt679.1 bt679.2 (decide (t681 > 1)))) else (vernierlaw07_FaddOrder.j0 k a0 a2 bt677.1 bt677.2 bt679.1 bt679.2 true)) else (vernierlaw07_FaddOrder.j0 k a0 a2 bt677.1 bt677.2 bt679.1 bt679.2 true)))) else (some false))
set_option maxHeartbeats 8000000 in
set_option maxRecDepth 100000 in
theorem vernierlaw07_FaddOrder.calls (k : Nat) (a0 : Int) (a1 : Int) (a2 : Int) (r : Bool) (w : World) (h : vernierlaw07_FaddOrder.f k a0 a1 a2 = some r) (hT : r = true := by rfl) :
    Calls Try.prog 5 #[.int .u64 a0, .int .u64 a1, .int .i64 a2] w fun e w' => e = .returned (.bool r) ∧ Below w.heap.size w w' := by
  have HB := Aside0.mk (Below.refl w.heap.size w)
  have H : ((vernierlaw07_alive.f k).bind fun t676 => (if t676 = true then ((fadd_Add.f k a0 a1 a2).bind fun bt677 => ((fadd_Add.f k a1 a0 a2).bind fun bt679 => (if bt677.1 = bt679.1 then (if bt677.2 = bt679.2 then ((vernierref06_Class.f k a0).bind fun t681 => (vernierlaw07_FaddOrder.j0 k a0 a2 bt677.1 bt677.2 bt679.1 bt679.2 (decide (t681 > 1)))) else (vernierlaw07_FaddOrder.j0 k a0 a2 bt677.1 bt677.2 bt679.1 bt679.2 true)) else (vernierlaw07_FaddOrder.j0 k a0 a2 bt677.1 bt677.2 bt679.1 bt679.2 true)))) else (some false))) = some r := h
  clear h
  replace H := Option.bind_eq_some_iff.mp H
  obtain ⟨t676, A40, H⟩ := H
  replace H : (if t676 = true then ((fadd_Add.f k a0 a1 a2).bind fun bt677 => ((fadd_Add.f k a1 a0 a2).bind fun bt679 => (if bt677.1 = bt679.1 then (if bt677.2 = bt679.2 then ((vernierref06_Class.f k a0).bind fun t681 => (vernierlaw07_FaddOrder.j0 k a0 a2 bt677.1 bt677.2 bt679.1 bt679.2 (decide (t681 > 1)))) else (vernierlaw07_FaddOrder.j0 k a0 a2 bt677.1 bt677.2 bt679.1 bt679.2 true)) else (vernierlaw07_FaddOrder.j0 k a0 a2 bt677.1 bt677.2 bt679.1 bt679.2 true)))) else (some false)) = some r := H
  have A4 := Aside0.mk A40
  clear A40
  by_cases c5 : t676 = true
  · subst c5
    have H1 : ((fadd_Add.f k a0 a1 a2).bind fun bt677 => ((fadd_Add.f k a1 a0 a2).bind fun bt679 => (if bt677.1 = bt679.1 then (if bt677.2 = bt679.2 then ((vernierref06_Class.f k a0).bind fun t681 => (vernierlaw07_FaddOrder.j0 k a0 a2 bt677.1 bt677.2 bt679.1 bt679.2 (decide (t681 > 1)))) else (vernierlaw07_FaddOrder.j0 k a0 a2 bt677.1 bt677.2 bt679.1 bt679.2 true)) else (vernierlaw07_FaddOrder.j0 k a0 a2 bt677.1 bt677.2 bt679.1 bt679.2 true)))) = some r := by rw [if_pos rfl] at H; exact H
    clear H
    have H := H1
    clear H1
    replace H := Option.bind_eq_some_iff.mp H
    obtain ⟨⟨t677, t678⟩, A60, H⟩ := H
    replace H : ((fadd_Add.f k a1 a0 a2).bind fun bt679 => (if t677 = bt679.1 then (if t678 = bt679.2 then ((vernierref06_Class.f k a0).bind fun t681 => (vernierlaw07_FaddOrder.j0 k a0 a2 t677 t678 bt679.1 bt679.2 (decide (t681 > 1)))) else (vernierlaw07_FaddOrder.j0 k a0 a2 t677 t678 bt679.1 bt679.2 true)) else (vernierlaw07_FaddOrder.j0 k a0 a2 t677 t678 bt679.1 bt679.2 true))) = some r := H
    have A6 := Aside0.mk A60
    clear A60
    replace H := Option.bind_eq_some_iff.mp H
    obtain ⟨⟨t679, t680⟩, A70, H⟩ := H
    replace H : (if t677 = t679 then (if t678 = t680 then ((vernierref06_Class.f k a0).bind fun t681 => (vernierlaw07_FaddOrder.j0 k a0 a2 t677 t678 t679 t680 (decide (t681 > 1)))) else (vernierlaw07_FaddOrder.j0 k a0 a2 t677 t678 t679 t680 true)) else (vernierlaw07_FaddOrder.j0 k a0 a2 t677 t678 t679 t680 true)) = some r := H
    have A7 := Aside0.mk A70
    clear A70
    have HC8 := Aside0.mk H
    clear H
    go_enter Try.func5, Try.ntmps5
    go_upto_region 5 with (first | ((with_reducible refine gate_callee (f := 36) rfl ?_); refine goesL_ (some 15) rfl rfl Try.func36 (by kernel_rfl) rfl #[] rfl (by (try simp only [List.map_toArray, List.map_cons, List.map_nil]); first | done | rfl | (simp only [List.length_drop, List.length_take]; rfl)) ?_; (with_reducible refine (vernierlaw07_alive.calls k  true _ A4.out).mono ?_); rintro e w9 ⟨rfl, hb⟩; refine ⟨_, rfl, ?_⟩; have n0_ := Aside0.mk (below_step (by repeat (first | (with_reducible first | exact HB.out | apply below_alloc | apply pw_below_drewN | apply below_drew1) | exact HB.out)) hb); clear HB; have HB := n0_; clear n0_; (try clear hb); (try clear hb2); (try clear hk); (try clear hi)) | ((with_reducible refine gate_callee (f := 32) rfl ?_); refine goesL_ (some 21) rfl rfl Try.func32 (by kernel_rfl) rfl #[.int .u64 a0, .int .u64 a1, .int .i64 a2] rfl (by (try simp only [List.map_toArray, List.map_cons, List.map_nil]); first | done | rfl | (simp only [List.length_drop, List.length_take]; rfl)) ?_; (with_reducible refine (fadd_Add.calls k a0 a1 a2 t677 t678 _ A6.out).mono ?_); rintro e w10 ⟨rfl, hb⟩; refine ⟨_, rfl, ?_⟩; have n0_ := Aside0.mk (below_step (by repeat (first | (with_reducible first | exact HB.out | apply below_alloc | apply pw_below_drewN | apply below_drew1) | exact HB.out)) hb); clear HB; have HB := n0_; clear n0_; (try clear hb); (try clear hb2); (try clear hk); (try clear hi)) | ((with_reducible refine gate_callee (f := 32) rfl ?_); refine goesL_ (some 28) rfl rfl Try.func32 (by kernel_rfl) rfl #[.int .u64 a1, .int .u64 a0, .int .i64 a2] rfl (by (try simp only [List.map_toArray, List.map_cons, List.map_nil]); first | done | rfl | (simp only [List.length_drop, List.length_take]; rfl)) ?_; (with_reducible refine (fadd_Add.calls k a1 a0 a2 t679 t680 _ A7.out).mono ?_); rintro e w11 ⟨rfl, hb⟩; refine ⟨_, rfl, ?_⟩; have n0_ := Aside0.mk (below_step (by repeat (first | (with_reducible first | exact HB.out | apply below_alloc | apply pw_below_drewN | apply below_drew1) | exact HB.out)) hb); clear HB; have HB := n0_; clear n0_; (try clear hb); (try clear hb2); (try clear hk); (try clear hi)))
    (try simp only [Act.put, List.setIfInBounds_toArray, List.set_cons_zero, List.set_cons_succ])
    go_cut [43] (fun v43 wc => ∃ (kq : Nat) (x43_7 : Bool), v43 = .bool x43_7 ∧ Aside0 (vernierlaw07_FaddOrder.j0 kq a0 a2 t677 t678 t679 t680 x43_7 = some r) ∧ Aside0 (kq ≤ k) ∧ Aside0 (Below w.heap.size w wc))
    case first =>
      have H := HC8.out
      clear HC8
      by_cases c12 : t677 = t679
      · rw [if_pos c12] at H
        have c12b0 : (t677 == t679) = true := beq_iff_eq.mpr c12
        have c12b1 : (t677 != t679) = false := bne_eq_false_iff_eq.mpr c12
        clear c12
        (first | rw [c12b0] | (simp only [i64_w, i32_w]; rw [c12b0]) | skip)
        by_cases c13 : t678 = t680
        · rw [if_pos c13] at H
          have c13b0 : (t678 == t680) = true := beq_iff_eq.mpr c13
          have c13b1 : (t678 != t680) = false := bne_eq_false_iff_eq.mpr c13
          clear c13
          replace H := Option.bind_eq_some_iff.mp H
          obtain ⟨t681, A140, H⟩ := H
          replace H : (vernierlaw07_FaddOrder.j0 k a0 a2 t677 t678 t679 t680 (decide (t681 > 1))) = some r := H
          have A14 := Aside0.mk A140
          clear A140
          have H' := Aside0.mk H
          clear H
          go_wp2_with (first | (go_at_call 35; (with_reducible refine (vernierref06_Class.calls k a0 t681 _ A14.out).mono ?_); rintro e w' ⟨rfl, ⟨nd, rfl⟩⟩))
          go_meet
          case rel => exact ⟨_, (decide (t681 > 1)), (by first | rfl | (simp; done) | (simp [*]; done)), H', ⟨by first | omega | exact Nat.le_refl _⟩, ⟨by repeat (first | (with_reducible first | exact HB.out | apply below_alloc | apply pw_below_drewN | apply below_drew1) | exact HB.out)⟩⟩
        · rw [if_neg c13] at H
          have c13b0 : (t678 == t680) = false := beq_eq_false_iff_ne.mpr c13
          have c13b1 : (t678 != t680) = true := bne_iff_ne.mpr c13
          have H' := Aside0.mk H
          clear H
          go_wp2
          go_meet
          case rel => exact ⟨_, (true), (by first | rfl | (simp; done) | (simp [*]; done)), H', ⟨by first | omega | exact Nat.le_refl _⟩, ⟨by repeat (first | (with_reducible first | exact HB.out | apply below_alloc | apply pw_below_drewN | apply below_drew1) | exact HB.out)⟩⟩
      · rw [if_neg c12] at H
        have c12b0 : (t677 == t679) = false := beq_eq_false_iff_ne.mpr c12
        have c12b1 : (t677 != t679) = true := bne_iff_ne.mpr c12
        (first | rw [c12b0] | (simp only [i64_w, i32_w]; rw [c12b0]) | skip)
        have H' := Aside0.mk H
        clear H
        go_wp2
        go_meet
        case rel => exact ⟨_, (true), (by first | rfl | (simp; done) | (simp [*]; done)), H', ⟨by first | omega | exact Nat.le_refl _⟩, ⟨by repeat (first | (with_reducible first | exact HB.out | apply below_alloc | apply pw_below_drewN | apply below_drew1) | exact HB.out)⟩⟩
    case rest =>
      clear HC8
      try clear c1
      try clear p2
      try clear c3
      try clear c5
      try clear c12
      try clear c12b0
      try clear c12b1
      try clear c13
      try clear c13b0
      try clear c13b1
      obtain ⟨kq, x43_7, rfl, HA, HJ7, HB⟩ := hcut
      cases kq with
      | zero => exact absurd HA.out (by simp [vernierlaw07_FaddOrder.j0])
      | succ kj7 =>
        have H := HA.out
        clear HA
        simp only [vernierlaw07_FaddOrder.j0] at H
        by_cases c15 : x43_7 = true
        · subst c15
          have H1 : (if t677 = t679 then (some (t678 == t680)) else (some false)) = some r := by rw [if_pos rfl] at H; exact H
          clear H
          have H := H1
          clear H1
          by_cases c16 : t677 = t679
          · rw [if_pos c16] at H
            have c16b0 : (t677 == t679) = true := beq_iff_eq.mpr c16
            have c16b1 : (t677 != t679) = false := bne_eq_false_iff_eq.mpr c16
            clear c16
            obtain rfl := Option.some.inj H
            go_wp2
            go_ret
            exact ⟨by first | rfl | (simp [errW_none, errW_some] <;> rfl) | (simp [*, errW_none, errW_some] <;> rfl), by repeat (first | (with_reducible first | exact HB.out | apply below_alloc | apply pw_below_drewN | apply below_drew1) | exact HB.out)⟩
          · rw [if_neg c16] at H
            have c16b0 : (t677 == t679) = false := beq_eq_false_iff_ne.mpr c16
            have c16b1 : (t677 != t679) = true := bne_iff_ne.mpr c16
            exact absurd (Option.some.inj H) (by subst hT; decide)
        · replace c15 := Bool.eq_false_iff.mpr c15
          subst c15
          have H1 : ((fadd_Sub.f kj7 a0 a0 a2).bind fun bt682 => ((fadd_Add.f kj7 a0 0 a2).bind fun bt684 => (if (IntKind.u64.wrap (bt682.1 * 2)) = 0 then (if bt684.2 = 0 then (if bt684.1 = a0 then (some true) else (if (IntKind.u64.wrap (a0 * 2)) = 0 then (some ((IntKind.u64.wrap (bt684.1 * 2)) == 0)) else (some false))) else (some false)) else (some false)))) = some r := by rw [if_neg (show ¬ (false = true) by decide)] at H; exact H
          clear H
          have H := H1
          clear H1
          replace H := Option.bind_eq_some_iff.mp H
          obtain ⟨⟨t682, t683⟩, A170, H⟩ := H
          replace H : ((fadd_Add.f kj7 a0 0 a2).bind fun bt684 => (if (IntKind.u64.wrap (t682 * 2)) = 0 then (if bt684.2 = 0 then (if bt684.1 = a0 then (some true) else (if (IntKind.u64.wrap (a0 * 2)) = 0 then (some ((IntKind.u64.wrap (bt684.1 * 2)) == 0)) else (some false))) else (some false)) else (some false))) = some r := H
          have A17 := Aside0.mk A170
          clear A170
          replace H := Option.bind_eq_some_iff.mp H
          obtain ⟨⟨t684, t685⟩, A180, H⟩ := H
          replace H : (if (IntKind.u64.wrap (t682 * 2)) = 0 then (if t685 = 0 then (if t684 = a0 then (some true) else (if (IntKind.u64.wrap (a0 * 2)) = 0 then (some ((IntKind.u64.wrap (t684 * 2)) == 0)) else (some false))) else (some false)) else (some false)) = some r := H
          have A18 := Aside0.mk A180
          clear A180
          by_cases c19 : (IntKind.u64.wrap (t682 * 2)) = 0
          · rw [if_pos c19] at H
            have c19b0 : ((IntKind.u64.wrap (t682 * 2)) == 0) = true := beq_iff_eq.mpr c19
            have c19b1 : ((IntKind.u64.wrap (t682 * 2)) != 0) = false := bne_eq_false_iff_eq.mpr c19
            clear c19
            by_cases c20 : t685 = 0
            · rw [if_pos c20] at H
              have c20b0 : (t685 == 0) = true := beq_iff_eq.mpr c20
              have c20b1 : (t685 != 0) = false := bne_eq_false_iff_eq.mpr c20
              clear c20
              by_cases c21 : t684 = a0
              · rw [if_pos c21] at H
                have c21b0 : (t684 == a0) = true := beq_iff_eq.mpr c21
                have c21b1 : (t684 != a0) = false := bne_eq_false_iff_eq.mpr c21
                clear c21
                obtain rfl := Option.some.inj H
                go_wp2_with (first | ((with_reducible refine gate_callee (f := 34) rfl ?_); refine goesL_ (some 56) rfl rfl Try.func34 (by kernel_rfl) rfl #[.int .u64 a0, .int .u64 a0, .int .i64 a2] rfl (by (try simp only [List.map_toArray, List.map_cons, List.map_nil]); first | done | rfl | (simp only [List.length_drop, List.length_take]; rfl)) ?_; (with_reducible refine (fadd_Sub.calls kj7 a0 a0 a2 t682 t683 _ A17.out).mono ?_); rintro e w22 ⟨rfl, hb⟩; refine ⟨_, rfl, ?_⟩; have n0_ := Aside0.mk (below_step (by repeat (first | (with_reducible first | exact HB.out | apply below_alloc | apply pw_below_drewN | apply below_drew1) | exact HB.out)) hb); clear HB; have HB := n0_; clear n0_; (try clear hb); (try clear hb2); (try clear hk); (try clear hi)) | ((with_reducible refine gate_callee (f := 32) rfl ?_); refine goesL_ (some 62) rfl rfl Try.func32 (by kernel_rfl) rfl #[.int .u64 a0, .int .u64 0, .int .i64 a2] rfl (by (try simp only [List.map_toArray, List.map_cons, List.map_nil]); first | done | rfl | (simp only [List.length_drop, List.length_take]; rfl)) ?_; (with_reducible refine (fadd_Add.calls kj7 a0 0 a2 t684 t685 _ A18.out).mono ?_); rintro e w23 ⟨rfl, hb⟩; refine ⟨_, rfl, ?_⟩; have n0_ := Aside0.mk (below_step (by repeat (first | (with_reducible first | exact HB.out | apply below_alloc | apply pw_below_drewN | apply below_drew1) | exact HB.out)) hb); clear HB; have HB := n0_; clear n0_; (try clear hb); (try clear hb2); (try clear hk); (try clear hi)))
                go_ret
                exact ⟨by first | rfl | (simp [errW_none, errW_some] <;> rfl) | (simp [*, errW_none, errW_some] <;> rfl), by repeat (first | (with_reducible first | exact HB.out | apply below_alloc | apply pw_below_drewN | apply below_drew1) | exact HB.out)⟩
              · rw [if_neg c21] at H
                have c21b0 : (t684 == a0) = false := beq_eq_false_iff_ne.mpr c21
                have c21b1 : (t684 != a0) = true := bne_iff_ne.mpr c21
                by_cases c24 : (IntKind.u64.wrap (a0 * 2)) = 0
                · rw [if_pos c24] at H
                  have c24b0 : ((IntKind.u64.wrap (a0 * 2)) == 0) = true := beq_iff_eq.mpr c24
                  have c24b1 : ((IntKind.u64.wrap (a0 * 2)) != 0) = false := bne_eq_false_iff_eq.mpr c24
                  clear c24
                  obtain rfl := Option.some.inj H
                  go_wp2_with (first | ((with_reducible refine gate_callee (f := 34) rfl ?_); refine goesL_ (some 56) rfl rfl Try.func34 (by kernel_rfl) rfl #[.int .u64 a0, .int .u64 a0, .int .i64 a2] rfl (by (try simp only [List.map_toArray, List.map_cons, List.map_nil]); first | done | rfl | (simp only [List.length_drop, List.length_take]; rfl)) ?_; (with_reducible refine (fadd_Sub.calls kj7 a0 a0 a2 t682 t683 _ A17.out).mono ?_); rintro e w25 ⟨rfl, hb⟩; refine ⟨_, rfl, ?_⟩; have n0_ := Aside0.mk (below_step (by repeat (first | (with_reducible first | exact HB.out | apply below_alloc | apply pw_below_drewN | apply below_drew1) | exact HB.out)) hb); clear HB; have HB := n0_; clear n0_; (try clear hb); (try clear hb2); (try clear hk); (try clear hi)) | ((with_reducible refine gate_callee (f := 32) rfl ?_); refine goesL_ (some 62) rfl rfl Try.func32 (by kernel_rfl) rfl #[.int .u64 a0, .int .u64 0, .int .i64 a2] rfl (by (try simp only [List.map_toArray, List.map_cons, List.map_nil]); first | done | rfl | (simp only [List.length_drop, List.length_take]; rfl)) ?_; (with_reducible refine (fadd_Add.calls kj7 a0 0 a2 t684 t685 _ A18.out).mono ?_); rintro e w26 ⟨rfl, hb⟩; refine ⟨_, rfl, ?_⟩; have n0_ := Aside0.mk (below_step (by repeat (first | (with_reducible first | exact HB.out | apply below_alloc | apply pw_below_drewN | apply below_drew1) | exact HB.out)) hb); clear HB; have HB := n0_; clear n0_; (try clear hb); (try clear hb2); (try clear hk); (try clear hi)))
                  go_ret
                  exact ⟨by first | rfl | (simp [errW_none, errW_some] <;> rfl) | (simp [*, errW_none, errW_some] <;> rfl), by repeat (first | (with_reducible first | exact HB.out | apply below_alloc | apply pw_below_drewN | apply below_drew1) | exact HB.out)⟩
                · rw [if_neg c24] at H
                  have c24b0 : ((IntKind.u64.wrap (a0 * 2)) == 0) = false := beq_eq_false_iff_ne.mpr c24
                  have c24b1 : ((IntKind.u64.wrap (a0 * 2)) != 0) = true := bne_iff_ne.mpr c24
                  exact absurd (Option.some.inj H) (by subst hT; decide)
            · rw [if_neg c20] at H
              have c20b0 : (t685 == 0) = false := beq_eq_false_iff_ne.mpr c20
              have c20b1 : (t685 != 0) = true := bne_iff_ne.mpr c20
              exact absurd (Option.some.inj H) (by subst hT; decide)
          · rw [if_neg c19] at H
            have c19b0 : ((IntKind.u64.wrap (t682 * 2)) == 0) = false := beq_eq_false_iff_ne.mpr c19
            have c19b1 : ((IntKind.u64.wrap (t682 * 2)) != 0) = true := bne_iff_ne.mpr c19
            exact absurd (Option.some.inj H) (by subst hT; decide)
  · replace c5 := Bool.eq_false_iff.mpr c5
    subst c5
    have H1 : (some false) = some r := by rw [if_neg (show ¬ (false = true) by decide)] at H; exact H
    clear H
    have H := H1
    clear H1
    exact absurd (Option.some.inj H) (by subst hT; decide)
end Go.Proofs.Ytfmdjhfnbiekaaa.PA
