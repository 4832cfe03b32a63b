/- Contracts of Go functions: each call answers what the Lean function of its name answers. Written by a program of this session (vprint.py) round the print of the kit. -/
import Derived.Test.YtfmdjhfnbiekaaaQFaddExact11
import Derived.WalkSpells
import Derived.Lib.SliceRun
import Derived.Test.YtfmdjhfnbiekaaaQFaddExact23
import Derived.Test.YtfmdjhfnbiekaaaQFaddExact26
import Derived.Laws.MakeOwn
namespace Go.Proofs.Ytfmdjhfnbiekaaa.PA
open Go.RowKit Go.Proofs.YtfmdjhfnbiekaaaW.PrintWords Go.Proofs.YtfmdjhfnbiekaaaW.PrintLast Go.Proofs.YtfmdjhfnbiekaaaW.PrintMore
attribute [local go_sem] max2_int min2_int max_two min_two max_three min_three max_four min_four
set_option linter.unusedVariables false
set_option linter.unusedSimpArgs false
attribute [local go_sem] fld24_0 fld24_1 fld136_1
def vernierlaw07_FaddExact.j0 : Nat → Bool → Int → Int → Option (Bool)
  | 0, _, _, _ => none
  | k + 1, x4, x12, x13 => if x4 = true then ((fadd_Add.f k x12 (IntKind.u64.wrap (x13 + 9223372036854775808)) 0).bind fun bt687 => ((fadd_Sub.f k bt687.1 (IntKind.u64.wrap (x13 + 9223372036854775808)) 0).bind fun bt689 => (if bt687.2 = 0 then (if bt689.2 = 0 then (some (bt689.1 == x12)) else (some false)) else (some false)))) else ((fadd_Add.f k x12 x13 0).bind fun bt691 => ((fadd_Sub.f k bt691.1 x13 0).bind fun bt693 => (if bt691.2 = 0 then (if bt693.2 = 0 then (some (bt693.1 == x12)) else (some false)) else (some false))))
def vernierlaw07_FaddExact.f (k : Nat) (a0 : Int) (a1 : Int) (a2 : Int) (a3 : Bool) (a4 : Bool) : Option (Bool) := (vernierlaw07_alive.f k).bind fun t686 => (if t686 = true then (if a3 = true then (vernierlaw07_FaddExact.j0 k a4 (IntKind.u64.wrap ((IntKind.u64.wrap ((IntKind.u64.wrap ((IntKind.u64.wrap (100 + (Int.tmod (IntKind.u64.wrap (a2)) 1800))) * 4503599627370496)) + (IntKind.u64.wrap ((IntKind.u64.wrap (a0)) * 524288)))) + 9223372036854775808)) (IntKind.u64.wrap ((IntKind.u64.wrap ((IntKind.u64.wrap (100 + (Int.tmod (IntKind.u64.wrap (a2)) 1800))) * 4503599627370496)) + (IntKind.u64.wrap ((IntKind.u64.wrap (a1)) * 524288))))) else (vernierlaw07_FaddExact.j0 k a4 (IntKind.u64.wrap ((IntKind.u64.wrap ((IntKind.u64.wrap (100 + (Int.tmod (IntKind.u64.wrap (a2)) 1800))) * 4503599627370496)) + (IntKind.u64.wrap ((IntKind.u64.wrap (a0)) * 524288)))) (IntKind.u64.wrap ((IntKind.u64.wrap ((IntKind.u64.wrap (100 + (Int.tmod (IntKind.u64.wrap (a2)) 1800))) * 4503599627370496)) + (IntKind.u64.wrap ((IntKind.u64.wrap (a1)) * 524288)))))) else (some false))
set_option maxHeartbeats 8000000 in
set_option maxRecDepth 100000 in
theorem vernierlaw07_FaddExact.calls (k : Nat) (a0 : Int) (a1 : Int) (a2 : Int) (a3 : Bool) (a4 : Bool) (r : Bool) (w : World) (h : vernierlaw07_FaddExact.f k a0 a1 a2 a3 a4 = some r) (hT : r = true := by rfl) :
    Calls Try.prog 6 #[.int .u32 a0, .int .u32 a1, .int .u16 a2, .bool a3, .bool a4] w fun e w' => e = .returned (.bool r) ∧ Below w.heap.size w w' := by
  have HB := Aside0.mk (Below.refl w.heap.size w)
  have H : ((vernierlaw07_alive.f k).bind fun t686 => (if t686 = true then (if a3 = true then (vernierlaw07_FaddExact.j0 k a4 (IntKind.u64.wrap ((IntKind.u64.wrap ((IntKind.u64.wrap ((IntKind.u64.wrap (100 + (Int.tmod (IntKind.u64.wrap (a2)) 1800))) * 4503599627370496)) + (IntKind.u64.wrap ((IntKind.u64.wrap (a0)) * 524288)))) + 9223372036854775808)) (IntKind.u64.wrap ((IntKind.u64.wrap ((IntKind.u64.wrap (100 + (Int.tmod (IntKind.u64.wrap (a2)) 1800))) * 4503599627370496)) + (IntKind.u64.wrap ((IntKind.u64.wrap (a1)) * 524288))))) else (vernierlaw07_FaddExact.j0 k a4 (IntKind.u64.wrap ((IntKind.u64.wrap ((IntKind.u64.wrap (100 + (Int.tmod (IntKind.u64.wrap (a2)) 1800))) * 4503599627370496)) + (IntKind.u64.wrap ((IntKind.u64.wrap (a0)) * 524288)))) (IntKind.u64.wrap ((IntKind.u64.wrap ((IntKind.u64.wrap (100 + (Int.tmod (IntKind.u64.wrap (a2)) 1800))) * 4503599627370496)) + (IntKind.u64.wrap ((IntKind.u64.wrap (a1)) * 524288)))))) else (some false))) = some r := h
  clear h
  replace H := Option.bind_eq_some_iff.mp H
  obtain ⟨t686, A60, H⟩ := H
  replace H : (if t686 = true then (if a3 = true then (vernierlaw07_FaddExact.j0 k a4 (IntKind.u64.wrap ((IntKind.u64.wrap ((IntKind.u64.wrap ((IntKind.u64.wrap (100 + (Int.tmod (IntKind.u64.wrap (a2)) 1800))) * 4503599627370496)) + (IntKind.u64.wrap ((IntKind.u64.wrap (a0)) * 524288)))) + 9223372036854775808)) (IntKind.u64.wrap ((IntKind.u64.wrap ((IntKind.u64.wrap (100 + (Int.tmod (IntKind.u64.wrap (a2)) 1800))) * 4503599627370496)) + (IntKind.u64.wrap ((IntKind.u64.wrap (a1)) * 524288))))) else (vernierlaw07_FaddExact.j0 k a4 (IntKind.u64.wrap ((IntKind.u64.wrap ((IntKind.u64.wrap (100 + (Int.tmod (IntKind.u64.wrap (a2)) 1800))) * 4503599627370496)) + (IntKind.u64.wrap ((IntKind.u64.wrap (a0)) * 524288)))) (IntKind.u64.wrap ((IntKind.u64.wrap ((IntKind.u64.wrap (100 + (Int.tmod (IntKind.u64.wrap (a2)) 1800))) * 4503599627370496)) + (IntKind.u64.wrap ((IntKind.u64.wrap (a1)) * 524288)))))) else (some false)) = some r := H
  have A6 := Aside0.mk A60
  clear A60
  by_cases c7 : t686 = true
  · subst c7
    have H1 : (if a3 = true then (vernierlaw07_FaddExact.j0 k a4 (IntKind.u64.wrap ((IntKind.u64.wrap ((IntKind.u64.wrap ((IntKind.u64.wrap (100 + (Int.tmod (IntKind.u64.wrap (a2)) 1800))) * 4503599627370496)) + (IntKind.u64.wrap ((IntKind.u64.wrap (a0)) * 524288)))) + 9223372036854775808)) (IntKind.u64.wrap ((IntKind.u64.wrap ((IntKind.u64.wrap (100 + (Int.tmod (IntKind.u64.wrap (a2)) 1800))) * 4503599627370496)) + (IntKind.u64.wrap ((IntKind.u64.wrap (a1)) * 524288))))) else (vernierlaw07_FaddExact.j0 k a4 (IntKind.u64.wrap ((IntKind.u64.wrap ((IntKind.u64.wrap (100 + (Int.tmod (IntKind.u64.wrap (a2)) 1800))) * 4503599627370496)) + (IntKind.u64.wrap ((IntKind.u64.wrap (a0)) * 524288)))) (IntKind.u64.wrap ((IntKind.u64.wrap ((IntKind.u64.wrap (100 + (Int.tmod (IntKind.u64.wrap (a2)) 1800))) * 4503599627370496)) + (IntKind.u64.wrap ((IntKind.u64.wrap (a1)) * 524288)))))) = some r := by rw [if_pos rfl] at H; exact H
    clear H
    have H := H1
    clear H1
    have HC8 := Aside0.mk H
    clear H
    go_enter Try.func6, Try.ntmps6
    go_upto_if 36 with (first | ((with_reducible refine gate_callee (f := 36) rfl ?_); refine goesL_ (some 18) rfl rfl Try.func36 (by kernel_rfl) rfl #[] rfl (by (try simp only [List.map_toArray, List.map_cons, List.map_nil]); first | done | rfl | (simp only [List.length_drop, List.length_take]; rfl)) ?_; (with_reducible refine (vernierlaw07_alive.calls k  true _ A6.out).mono ?_); rintro e w9 ⟨rfl, hb⟩; refine ⟨_, rfl, ?_⟩; have n0_ := Aside0.mk (below_step (by repeat (first | (with_reducible first | exact HB.out | apply below_alloc | apply pw_below_drewN | apply below_drew1) | exact HB.out)) hb); clear HB; have HB := n0_; clear n0_; (try clear hb); (try clear hb2); (try clear hk); (try clear hi)))
    (try simp only [Act.put, List.setIfInBounds_toArray, List.set_cons_zero, List.set_cons_succ])
    go_cut [12] (fun v12 wc => ∃ (kq : Nat) (x12_7 : Int), v12 = .int .u64 x12_7 ∧ Aside0 (vernierlaw07_FaddExact.j0 kq a4 x12_7 (IntKind.u64.wrap ((IntKind.u64.wrap ((IntKind.u64.wrap (100 + (Int.tmod (IntKind.u64.wrap (a2)) 1800))) * 4503599627370496)) + (IntKind.u64.wrap ((IntKind.u64.wrap (a1)) * 524288)))) = some r) ∧ Aside0 (kq ≤ k) ∧ Aside0 (Below w.heap.size w wc))
    case first =>
      have H := HC8.out
      clear HC8
      by_cases c10 : a3 = true
      · subst c10
        have H1 : (vernierlaw07_FaddExact.j0 k a4 (IntKind.u64.wrap ((IntKind.u64.wrap ((IntKind.u64.wrap ((IntKind.u64.wrap (100 + (Int.tmod (IntKind.u64.wrap (a2)) 1800))) * 4503599627370496)) + (IntKind.u64.wrap ((IntKind.u64.wrap (a0)) * 524288)))) + 9223372036854775808)) (IntKind.u64.wrap ((IntKind.u64.wrap ((IntKind.u64.wrap (100 + (Int.tmod (IntKind.u64.wrap (a2)) 1800))) * 4503599627370496)) + (IntKind.u64.wrap ((IntKind.u64.wrap (a1)) * 524288))))) = some r := by rw [if_pos rfl] at H; exact H
        clear H
        have H := H1
        clear H1
        have H' := Aside0.mk H
        clear H
        go_wp2
        go_meet
        case rel => exact ⟨_, (IntKind.u64.wrap ((IntKind.u64.wrap ((IntKind.u64.wrap ((IntKind.u64.wrap (100 + (Int.tmod (IntKind.u64.wrap (a2)) 1800))) * 4503599627370496)) + (IntKind.u64.wrap ((IntKind.u64.wrap (a0)) * 524288)))) + 9223372036854775808)), (by first | rfl | (simp; done) | (simp [*]; done)), H', ⟨by first | omega | exact Nat.le_refl _⟩, ⟨by repeat (first | (with_reducible first | exact HB.out | apply below_alloc | apply pw_below_drewN | apply below_drew1) | exact HB.out)⟩⟩
      · replace c10 := Bool.eq_false_iff.mpr c10
        subst c10
        have H1 : (vernierlaw07_FaddExact.j0 k a4 (IntKind.u64.wrap ((IntKind.u64.wrap ((IntKind.u64.wrap (100 + (Int.tmod (IntKind.u64.wrap (a2)) 1800))) * 4503599627370496)) + (IntKind.u64.wrap ((IntKind.u64.wrap (a0)) * 524288)))) (IntKind.u64.wrap ((IntKind.u64.wrap ((IntKind.u64.wrap (100 + (Int.tmod (IntKind.u64.wrap (a2)) 1800))) * 4503599627370496)) + (IntKind.u64.wrap ((IntKind.u64.wrap (a1)) * 524288))))) = some r := by rw [if_neg (show ¬ (false = true) by decide)] at H; exact H
        clear H
        have H := H1
        clear H1
        have H' := Aside0.mk H
        clear H
        go_wp2
        go_meet
        case rel => exact ⟨_, (IntKind.u64.wrap ((IntKind.u64.wrap ((IntKind.u64.wrap (100 + (Int.tmod (IntKind.u64.wrap (a2)) 1800))) * 4503599627370496)) + (IntKind.u64.wrap ((IntKind.u64.wrap (a0)) * 524288)))), (by first | rfl | (simp; done) | (simp [*]; done)), H', ⟨by first | omega | exact Nat.le_refl _⟩, ⟨by repeat (first | (with_reducible first | exact HB.out | apply below_alloc | apply pw_below_drewN | apply below_drew1) | exact HB.out)⟩⟩
    case rest =>
      clear HC8
      try clear c1
      try clear p2
      try clear c3
      try clear c6
      try clear c7
      try clear c10
      obtain ⟨kq, x12_7, rfl, HA, HJ7, HB⟩ := hcut
      cases kq with
      | zero => exact absurd HA.out (by simp [vernierlaw07_FaddExact.j0])
      | succ kj7 =>
        have H := HA.out
        clear HA
        simp only [vernierlaw07_FaddExact.j0] at H
        by_cases c11 : a4 = true
        · subst c11
          have H1 : ((fadd_Add.f kj7 x12_7 (IntKind.u64.wrap ((IntKind.u64.wrap ((IntKind.u64.wrap ((IntKind.u64.wrap (100 + (Int.tmod (IntKind.u64.wrap (a2)) 1800))) * 4503599627370496)) + (IntKind.u64.wrap ((IntKind.u64.wrap (a1)) * 524288)))) + 9223372036854775808)) 0).bind fun bt687 => ((fadd_Sub.f kj7 bt687.1 (IntKind.u64.wrap ((IntKind.u64.wrap ((IntKind.u64.wrap ((IntKind.u64.wrap (100 + (Int.tmod (IntKind.u64.wrap (a2)) 1800))) * 4503599627370496)) + (IntKind.u64.wrap ((IntKind.u64.wrap (a1)) * 524288)))) + 9223372036854775808)) 0).bind fun bt689 => (if bt687.2 = 0 then (if bt689.2 = 0 then (some (bt689.1 == x12_7)) else (some false)) else (some false)))) = some r := by rw [if_pos rfl] at H; exact H
          clear H
          have H := H1
          clear H1
          replace H := Option.bind_eq_some_iff.mp H
          obtain ⟨⟨t687, t688⟩, A120, H⟩ := H
          replace H : ((fadd_Sub.f kj7 t687 (IntKind.u64.wrap ((IntKind.u64.wrap ((IntKind.u64.wrap ((IntKind.u64.wrap (100 + (Int.tmod (IntKind.u64.wrap (a2)) 1800))) * 4503599627370496)) + (IntKind.u64.wrap ((IntKind.u64.wrap (a1)) * 524288)))) + 9223372036854775808)) 0).bind fun bt689 => (if t688 = 0 then (if bt689.2 = 0 then (some (bt689.1 == x12_7)) else (some false)) else (some false))) = some r := H
          have A12 := Aside0.mk A120
          clear A120
          replace H := Option.bind_eq_some_iff.mp H
          obtain ⟨⟨t689, t690⟩, A130, H⟩ := H
          replace H : (if t688 = 0 then (if t690 = 0 then (some (t689 == x12_7)) else (some false)) else (some false)) = some r := H
          have A13 := Aside0.mk A130
          clear A130
          by_cases c14 : t688 = 0
          · rw [if_pos c14] at H
            have c14b0 : (t688 == 0) = true := beq_iff_eq.mpr c14
            have c14b1 : (t688 != 0) = false := bne_eq_false_iff_eq.mpr c14
            clear c14
            by_cases c15 : t690 = 0
            · rw [if_pos c15] at H
              have c15b0 : (t690 == 0) = true := beq_iff_eq.mpr c15
              have c15b1 : (t690 != 0) = false := bne_eq_false_iff_eq.mpr c15
              clear c15
              obtain rfl := Option.some.inj H
              go_wp2_with (first | ((with_reducible refine gate_callee (f := 32) rfl ?_); refine goesL_ (some 45) rfl rfl Try.func32 (by kernel_rfl) rfl #[.int .u64 x12_7, .int .u64 (IntKind.u64.wrap ((IntKind.u64.wrap ((IntKind.u64.wrap ((IntKind.u64.wrap (100 + (Int.tmod (IntKind.u64.wrap (a2)) 1800))) * 4503599627370496)) + (IntKind.u64.wrap ((IntKind.u64.wrap (a1)) * 524288)))) + 9223372036854775808)), .int .i64 0] rfl (by (try simp only [List.map_toArray, List.map_cons, List.map_nil]); first | done | rfl | (simp only [List.length_drop, List.length_take]; rfl)) ?_; (with_reducible refine (fadd_Add.calls kj7 x12_7 (IntKind.u64.wrap ((IntKind.u64.wrap ((IntKind.u64.wrap ((IntKind.u64.wrap (100 + (Int.tmod (IntKind.u64.wrap (a2)) 1800))) * 4503599627370496)) + (IntKind.u64.wrap ((IntKind.u64.wrap (a1)) * 524288)))) + 9223372036854775808)) 0 t687 t688 _ A12.out).mono ?_); rintro e w16 ⟨rfl, hb⟩; refine ⟨_, rfl, ?_⟩; have n0_ := Aside0.mk (below_step (by repeat (first | (with_reducible first | exact HB.out | apply below_alloc | apply pw_below_drewN | apply below_drew1) | exact HB.out)) hb); clear HB; have HB := n0_; clear n0_; (try clear hb); (try clear hb2); (try clear hk); (try clear hi)) | ((with_reducible refine gate_callee (f := 34) rfl ?_); refine goesL_ (some 51) rfl rfl Try.func34 (by kernel_rfl) rfl #[.int .u64 t687, .int .u64 (IntKind.u64.wrap ((IntKind.u64.wrap ((IntKind.u64.wrap ((IntKind.u64.wrap (100 + (Int.tmod (IntKind.u64.wrap (a2)) 1800))) * 4503599627370496)) + (IntKind.u64.wrap ((IntKind.u64.wrap (a1)) * 524288)))) + 9223372036854775808)), .int .i64 0] rfl (by (try simp only [List.map_toArray, List.map_cons, List.map_nil]); first | done | rfl | (simp only [List.length_drop, List.length_take]; rfl)) ?_; (with_reducible refine (fadd_Sub.calls kj7 t687 (IntKind.u64.wrap ((IntKind.u64.wrap ((IntKind.u64.wrap ((IntKind.u64.wrap (100 + (Int.tmod (IntKind.u64.wrap (a2)) 1800))) * 4503599627370496)) + (IntKind.u64.wrap ((IntKind.u64.wrap (a1)) * 524288)))) + 9223372036854775808)) 0 t689 t690 _ A13.out).mono ?_); rintro e w17 ⟨rfl, hb⟩; refine ⟨_, rfl, ?_⟩; have n0_ := Aside0.mk (below_step (by repeat (first | (with_reducible first | exact HB.out | apply below_alloc | apply pw_below_drewN | apply below_drew1) | exact HB.out)) hb); clear HB; have HB := n0_; clear n0_; (try clear hb); (try clear hb2); (try clear hk); (try clear hi)))
              go_ret
              exact ⟨by first | rfl | (simp [errW_none, errW_some] <;> rfl) | (simp [*, errW_none, errW_some] <;> rfl), by repeat (first | (with_reducible first | exact HB.out | apply below_alloc | apply pw_below_drewN | apply below_drew1) | exact HB.out)⟩
            · rw [if_neg c15] at H
              have c15b0 : (t690 == 0) = false := beq_eq_false_iff_ne.mpr c15
              have c15b1 : (t690 != 0) = true := bne_iff_ne.mpr c15
              exact absurd (Option.some.inj H) (by subst hT; decide)
          · rw [if_neg c14] at H
            have c14b0 : (t688 == 0) = false := beq_eq_false_iff_ne.mpr c14
            have c14b1 : (t688 != 0) = true := bne_iff_ne.mpr c14
            exact absurd (Option.some.inj H) (by subst hT; decide)
        · replace c11 := Bool.eq_false_iff.mpr c11
          subst c11
          have H1 : ((fadd_Add.f kj7 x12_7 (IntKind.u64.wrap ((IntKind.u64.wrap ((IntKind.u64.wrap (100 + (Int.tmod (IntKind.u64.wrap (a2)) 1800))) * 4503599627370496)) + (IntKind.u64.wrap ((IntKind.u64.wrap (a1)) * 524288)))) 0).bind fun bt691 => ((fadd_Sub.f kj7 bt691.1 (IntKind.u64.wrap ((IntKind.u64.wrap ((IntKind.u64.wrap (100 + (Int.tmod (IntKind.u64.wrap (a2)) 1800))) * 4503599627370496)) + (IntKind.u64.wrap ((IntKind.u64.wrap (a1)) * 524288)))) 0).bind fun bt693 => (if bt691.2 = 0 then (if bt693.2 = 0 then (some (bt693.1 == x12_7)) else (some false)) else (some false)))) = some r := by rw [if_neg (show ¬ (false = true) by decide)] at H; exact H
          clear H
          have H := H1
          clear H1
          replace H := Option.bind_eq_some_iff.mp H
          obtain ⟨⟨t691, t692⟩, A180, H⟩ := H
          replace H : ((fadd_Sub.f kj7 t691 (IntKind.u64.wrap ((IntKind.u64.wrap ((IntKind.u64.wrap (100 + (Int.tmod (IntKind.u64.wrap (a2)) 1800))) * 4503599627370496)) + (IntKind.u64.wrap ((IntKind.u64.wrap (a1)) * 524288)))) 0).bind fun bt693 => (if t692 = 0 then (if bt693.2 = 0 then (some (bt693.1 == x12_7)) else (some false)) else (some false))) = some r := H
          have A18 := Aside0.mk A180
          clear A180
          replace H := Option.bind_eq_some_iff.mp H
          obtain ⟨⟨t693, t694⟩, A190, H⟩ := H
          replace H : (if t692 = 0 then (if t694 = 0 then (some (t693 == x12_7)) else (some false)) else (some false)) = some r := H
          have A19 := Aside0.mk A190
          clear A190
          by_cases c20 : t692 = 0
          · rw [if_pos c20] at H
            have c20b0 : (t692 == 0) = true := beq_iff_eq.mpr c20
            have c20b1 : (t692 != 0) = false := bne_eq_false_iff_eq.mpr c20
            clear c20
            by_cases c21 : t694 = 0
            · rw [if_pos c21] at H
              have c21b0 : (t694 == 0) = true := beq_iff_eq.mpr c21
              have c21b1 : (t694 != 0) = false := bne_eq_false_iff_eq.mpr c21
              clear c21
              obtain rfl := Option.some.inj H
              go_wp2_with (first | ((with_reducible refine gate_callee (f := 32) rfl ?_); refine goesL_ (some 45) rfl rfl Try.func32 (by kernel_rfl) rfl #[.int .u64 x12_7, .int .u64 (IntKind.u64.wrap ((IntKind.u64.wrap ((IntKind.u64.wrap (100 + (Int.tmod (IntKind.u64.wrap (a2)) 1800))) * 4503599627370496)) + (IntKind.u64.wrap ((IntKind.u64.wrap (a1)) * 524288)))), .int .i64 0] rfl (by (try simp only [List.map_toArray, List.map_cons, List.map_nil]); first | done | rfl | (simp only [List.length_drop, List.length_take]; rfl)) ?_; (with_reducible refine (fadd_Add.calls kj7 x12_7 (IntKind.u64.wrap ((IntKind.u64.wrap ((IntKind.u64.wrap (100 + (Int.tmod (IntKind.u64.wrap (a2)) 1800))) * 4503599627370496)) + (IntKind.u64.wrap ((IntKind.u64.wrap (a1)) * 524288)))) 0 t691 t692 _ A18.out).mono ?_); rintro e w22 ⟨rfl, hb⟩; refine ⟨_, rfl, ?_⟩; have n0_ := Aside0.mk (below_step (by repeat (first | (with_reducible first | exact HB.out | apply below_alloc | apply pw_below_drewN | apply below_drew1) | exact HB.out)) hb); clear HB; have HB := n0_; clear n0_; (try clear hb); (try clear hb2); (try clear hk); (try clear hi)) | ((with_reducible refine gate_callee (f := 34) rfl ?_); refine goesL_ (some 51) rfl rfl Try.func34 (by kernel_rfl) rfl #[.int .u64 t691, .int .u64 (IntKind.u64.wrap ((IntKind.u64.wrap ((IntKind.u64.wrap (100 + (Int.tmod (IntKind.u64.wrap (a2)) 1800))) * 4503599627370496)) + (IntKind.u64.wrap ((IntKind.u64.wrap (a1)) * 524288)))), .int .i64 0] rfl (by (try simp only [List.map_toArray, List.map_cons, List.map_nil]); first | done | rfl | (simp only [List.length_drop, List.length_take]; rfl)) ?_; (with_reducible refine (fadd_Sub.calls kj7 t691 (IntKind.u64.wrap ((IntKind.u64.wrap ((IntKind.u64.wrap (100 + (Int.tmod (IntKind.u64.wrap (a2)) 1800))) * 4503599627370496)) + (IntKind.u64.wrap ((IntKind.u64.wrap (a1)) * 524288)))) 0 t693 t694 _ A19.out).mono ?_); rintro e w23 ⟨rfl, hb⟩; refine ⟨_, rfl, ?_⟩; have n0_ := Aside0.mk (below_step (by repeat (first | (with_reducible first | exact HB.out | apply below_alloc | apply pw_below_drewN | apply below_drew1) | exact HB.out)) hb); clear HB; have HB := n0_; clear n0_; (try clear hb); (try clear hb2); (try clear hk); (try clear hi)))
              go_ret
              exact ⟨by first | rfl | (simp [errW_none, errW_some] <;> rfl) | (simp [*, errW_none, errW_some] <;> rfl), by repeat (first | (with_reducible first | exact HB.out | apply below_alloc | apply pw_below_drewN | apply below_drew1) | exact HB.out)⟩
            · rw [if_neg c21] at H
              have c21b0 : (t694 == 0) = false := beq_eq_false_iff_ne.mpr c21
              have c21b1 : (t694 != 0) = true := bne_iff_ne.mpr c21
              exact absurd (Option.some.inj H) (by subst hT; decide)
          · rw [if_neg c20] at H
            have c20b0 : (t692 == 0) = false := beq_eq_false_iff_ne.mpr c20
            have c20b1 : (t692 != 0) = true := bne_iff_ne.mpr c20
            exact absurd (Option.some.inj H) (by subst hT; decide)
  · replace c7 := Bool.eq_false_iff.mpr c7
    subst c7
    have H1 : (some false) = some r := by rw [if_neg (show ¬ (false = true) by decide)] at H; exact H
    clear H
    have H := H1
    clear H1
    exact absurd (Option.some.inj H) (by subst hT; decide)
end Go.Proofs.Ytfmdjhfnbiekaaa.PA
