/- Contracts of Go functions: each call answers what the Lean function of its name answers. Written by a program of this session (vprint.py) round the print of the kit. -/
import Derived.Test.YtfmdjhfnbiekaaaQFconvWhole12
import Derived.Test.YtfmdjhfnbiekaaaQFconvWhole13
import Derived.Test.YtfmdjhfnbiekaaaQFconvWhole25
import Derived.Test.YtfmdjhfnbiekaaaQFconvWhole26
import Derived.Test.YtfmdjhfnbiekaaaQFconvWhole27
import Derived.Test.YtfmdjhfnbiekaaaQFconvWhole28
import Derived.Test.YtfmdjhfnbiekaaaQFconvWhole34
namespace Go.Proofs.Ytfmdjhfnbiekaaa.PF
open Go.RowKit Go.Proofs.YtfmdjhfnbiekaaaW.PrintWords Go.Proofs.YtfmdjhfnbiekaaaW.PrintLast Go.Proofs.YtfmdjhfnbiekaaaW.PrintMore
attribute [local go_sem] max2_int min2_int max_two min_two max_three min_three max_four min_four
set_option linter.unusedVariables false
set_option linter.unusedSimpArgs false
attribute [local go_sem] fld136_1
mutual
def vernierlaw13_FconvWhole.j0 : Nat → Int → Int → Int → Int → Int → List Int → Int → Option (Bool)
  | 0, _, _, _, _, _, _, _ => none
  | k + 1, x0, x5, x6, x7, x8, x10, x12 => (vernierref06_Split.f x5).bind fun bt847 => (if x6 = x12 then (if (bt847.1 != (decide (x0 ≥ 9223372036854775808))) = true then (vernierlaw13_FconvWhole.j1 k x7 x8 x10 x12 bt847.1 true) else ((vernierref01_Word.f k bt847.2.1).bind fun t850 => ((vernierref01_Shl.f k t850 (wrap64 (bt847.2.2 - (mn bt847.2.2 0)))).bind fun t853 => ((vernierref01_Shl.f k x10 (wrap64 (-(mn bt847.2.2 0)))).bind fun t856 => ((vernierref01_Cmp.f k t853 t856).bind fun t859 => (vernierlaw13_FconvWhole.j1 k x7 x8 x10 x12 bt847.1 (t859 != 0))))))) else (vernierlaw13_FconvWhole.j1 k x7 x8 x10 x12 bt847.1 true))
def vernierlaw13_FconvWhole.j1 : Nat → Int → Int → List Int → Int → Bool → Bool → Option (Bool)
  | 0, _, _, _, _, _, _ => none
  | k + 1, x7, x8, x10, x12, x13, x101 => if x101 = true then (some false) else ((vernierref01_Shl.f k (([1] : List Int)) 62).bind fun t863 => ((vernierref01_Cmp.f k x10 t863).bind fun t866 => (if t866 > 0 then (if x7 = 0 then (some (x8 == 1)) else (some false)) else ((vernierref01_Limbs.f k x10).bind fun t867 => (if (t867.length : Int) > 0 then (if 0 < (t867.length : Int) then (if x13 = true then (if x7 = (wrap64 (-(wrap64 (rd t867 0)))) then (some (x8 == x12)) else (some false)) else (if x7 = (wrap64 (rd t867 0)) then (some (x8 == x12)) else (some false))) else (none)) else (if x13 = true then (if x7 = (-0) then (some (x8 == x12)) else (some false)) else (if x7 = 0 then (some (x8 == x12)) else (some false))))))))
end
def vernierlaw13_FconvWhole.f (k : Nat) (a0 : Int) (a1 : Int) : Option (Bool) := (vernierlaw13_alive.f k).bind fun t837 => (if t837 = true then ((fconv_Whole.f k a0 a1).bind fun bt838 => ((fconv_ToInt.f k a0 a1).bind fun bt840 => ((vernierref06_Class.f k a0).bind fun t842 => (if t842 > 1 then (if bt840.1 = 0 then (if bt840.2 = 1 then (if bt838.2 = 0 then (if t842 = 3 then (if bt838.1 = 9221120237041090560 then (some true) else (if t842 = 2 then (some (bt838.1 == a0)) else (some false))) else (if t842 = 2 then (some (bt838.1 == a0)) else (some false))) else (some false)) else (some false)) else (some false)) else ((vernierlaw13_whole.f k a0 a1).bind fun bt843 => (if bt843.2 = true then (vernierlaw13_FconvWhole.j0 k a0 bt838.1 bt838.2 bt840.1 bt840.2 bt843.1 16) else (vernierlaw13_FconvWhole.j0 k a0 bt838.1 bt838.2 bt840.1 bt840.2 bt843.1 0))))))) else (some false))
set_option maxHeartbeats 8000000 in
set_option maxRecDepth 100000 in
theorem vernierlaw13_FconvWhole.calls (k : Nat) (a0 : Int) (a1 : Int) (r : Bool) (w : World) (h : vernierlaw13_FconvWhole.f k a0 a1 = some r) (hT : r = true := by rfl) :
    Calls Try.prog 10 #[.int .u64 a0, .int .i64 a1] w fun e w' => e = .returned (.bool r) ∧ Below w.heap.size w w' := by
  have HB := Aside0.mk (Below.refl w.heap.size w)
  have H : ((vernierlaw13_alive.f k).bind fun t837 => (if t837 = true then ((fconv_Whole.f k a0 a1).bind fun bt838 => ((fconv_ToInt.f k a0 a1).bind fun bt840 => ((vernierref06_Class.f k a0).bind fun t842 => (if t842 > 1 then (if bt840.1 = 0 then (if bt840.2 = 1 then (if bt838.2 = 0 then (if t842 = 3 then (if bt838.1 = 9221120237041090560 then (some true) else (if t842 = 2 then (some (bt838.1 == a0)) else (some false))) else (if t842 = 2 then (some (bt838.1 == a0)) else (some false))) else (some false)) else (some false)) else (some false)) else ((vernierlaw13_whole.f k a0 a1).bind fun bt843 => (if bt843.2 = true then (vernierlaw13_FconvWhole.j0 k a0 bt838.1 bt838.2 bt840.1 bt840.2 bt843.1 16) else (vernierlaw13_FconvWhole.j0 k a0 bt838.1 bt838.2 bt840.1 bt840.2 bt843.1 0))))))) else (some false))) = some r := h
  clear h
  replace H := Option.bind_eq_some_iff.mp H
  obtain ⟨t837, A30, H⟩ := H
  replace H : (if t837 = true then ((fconv_Whole.f k a0 a1).bind fun bt838 => ((fconv_ToInt.f k a0 a1).bind fun bt840 => ((vernierref06_Class.f k a0).bind fun t842 => (if t842 > 1 then (if bt840.1 = 0 then (if bt840.2 = 1 then (if bt838.2 = 0 then (if t842 = 3 then (if bt838.1 = 9221120237041090560 then (some true) else (if t842 = 2 then (some (bt838.1 == a0)) else (some false))) else (if t842 = 2 then (some (bt838.1 == a0)) else (some false))) else (some false)) else (some false)) else (some false)) else ((vernierlaw13_whole.f k a0 a1).bind fun bt843 => (if bt843.2 = true then (vernierlaw13_FconvWhole.j0 k a0 bt838.1 bt838.2 bt840.1 bt840.2 bt843.1 16) else (vernierlaw13_FconvWhole.j0 k a0 bt838.1 bt838.2 bt840.1 bt840.2 bt843.1 0))))))) else (some false)) = some r := H
  have A3 := Aside0.mk A30
  clear A30
  by_cases c4 : t837 = true
  · subst c4
    have H1 : ((fconv_Whole.f k a0 a1).bind fun bt838 => ((fconv_ToInt.f k a0 a1).bind fun bt840 => ((vernierref06_Class.f k a0).bind fun t842 => (if t842 > 1 then (if bt840.1 = 0 then (if bt840.2 = 1 then (if bt838.2 = 0 then (if t842 = 3 then (if bt838.1 = 9221120237041090560 then (some true) else (if t842 = 2 then (some (bt838.1 == a0)) else (some false))) else (if t842 = 2 then (some (bt838.1 == a0)) else (some false))) else (some false)) else (some false)) else (some false)) else ((vernierlaw13_whole.f k a0 a1).bind fun bt843 => (if bt843.2 = true then (vernierlaw13_FconvWhole.j0 k a0 bt838.1 bt838.2 bt840.1 bt840.2 bt843.1 16) else (vernierlaw13_FconvWhole.j0 k a0 bt838.1 bt838.2 bt840.1 bt840.2 bt843.1 0))))))) = some r := by rw [if_pos rfl] at H; exact H
    clear H
    have H := H1
    clear H1
    replace H := Option.bind_eq_some_iff.mp H
    obtain ⟨⟨t838, t839⟩, A50, H⟩ := H
    replace H : ((fconv_ToInt.f k a0 a1).bind fun bt840 => ((vernierref06_Class.f k a0).bind fun t842 => (if t842 > 1 then (if bt840.1 = 0 then (if bt840.2 = 1 then (if t839 = 0 then (if t842 = 3 then (if t838 = 9221120237041090560 then (some true) else (if t842 = 2 then (some (t838 == a0)) else (some false))) else (if t842 = 2 then (some (t838 == a0)) else (some false))) else (some false)) else (some false)) else (some false)) else ((vernierlaw13_whole.f k a0 a1).bind fun bt843 => (if bt843.2 = true then (vernierlaw13_FconvWhole.j0 k a0 t838 t839 bt840.1 bt840.2 bt843.1 16) else (vernierlaw13_FconvWhole.j0 k a0 t838 t839 bt840.1 bt840.2 bt843.1 0)))))) = some r := H
    have A5 := Aside0.mk A50
    clear A50
    replace H := Option.bind_eq_some_iff.mp H
    obtain ⟨⟨t840, t841⟩, A60, H⟩ := H
    replace H : ((vernierref06_Class.f k a0).bind fun t842 => (if t842 > 1 then (if t840 = 0 then (if t841 = 1 then (if t839 = 0 then (if t842 = 3 then (if t838 = 9221120237041090560 then (some true) else (if t842 = 2 then (some (t838 == a0)) else (some false))) else (if t842 = 2 then (some (t838 == a0)) else (some false))) else (some false)) else (some false)) else (some false)) else ((vernierlaw13_whole.f k a0 a1).bind fun bt843 => (if bt843.2 = true then (vernierlaw13_FconvWhole.j0 k a0 t838 t839 t840 t841 bt843.1 16) else (vernierlaw13_FconvWhole.j0 k a0 t838 t839 t840 t841 bt843.1 0))))) = some r := H
    have A6 := Aside0.mk A60
    clear A60
    replace H := Option.bind_eq_some_iff.mp H
    obtain ⟨t842, A70, H⟩ := H
    replace H : (if t842 > 1 then (if t840 = 0 then (if t841 = 1 then (if t839 = 0 then (if t842 = 3 then (if t838 = 9221120237041090560 then (some true) else (if t842 = 2 then (some (t838 == a0)) else (some false))) else (if t842 = 2 then (some (t838 == a0)) else (some false))) else (some false)) else (some false)) else (some false)) else ((vernierlaw13_whole.f k a0 a1).bind fun bt843 => (if bt843.2 = true then (vernierlaw13_FconvWhole.j0 k a0 t838 t839 t840 t841 bt843.1 16) else (vernierlaw13_FconvWhole.j0 k a0 t838 t839 t840 t841 bt843.1 0)))) = some r := H
    have A7 := Aside0.mk A70
    clear A70
    by_cases c8 : t842 > 1
    · rw [if_pos c8] at H
      have c8b0 : decide (1 < t842) = true := decide_eq_true c8
      clear c8
      by_cases c9 : t840 = 0
      · rw [if_pos c9] at H
        have c9b0 : (t840 == 0) = true := beq_iff_eq.mpr c9
        have c9b1 : (t840 != 0) = false := bne_eq_false_iff_eq.mpr c9
        clear c9
        by_cases c10 : t841 = 1
        · rw [if_pos c10] at H
          have c10b0 : (t841 == 1) = true := beq_iff_eq.mpr c10
          have c10b1 : (t841 != 1) = false := bne_eq_false_iff_eq.mpr c10
          clear c10
          by_cases c11 : t839 = 0
          · rw [if_pos c11] at H
            have c11b0 : (t839 == 0) = true := beq_iff_eq.mpr c11
            have c11b1 : (t839 != 0) = false := bne_eq_false_iff_eq.mpr c11
            clear c11
            by_cases c12 : t842 = 3
            · rw [if_pos c12] at H
              have c12b0 : (t842 == 3) = true := beq_iff_eq.mpr c12
              have c12b1 : (t842 != 3) = false := bne_eq_false_iff_eq.mpr c12
              clear c12
              by_cases c13 : t838 = 9221120237041090560
              · rw [if_pos c13] at H
                have c13b0 : (t838 == 9221120237041090560) = true := beq_iff_eq.mpr c13
                have c13b1 : (t838 != 9221120237041090560) = false := bne_eq_false_iff_eq.mpr c13
                clear c13
                obtain rfl := Option.some.inj H
                go_enter Try.func10, Try.ntmps10
                go_wp2_with (first | ((with_reducible refine gate_callee (f := 52) rfl ?_); refine goesL_ (some 19) rfl rfl Try.func52 (by kernel_rfl) rfl #[] rfl (by (try simp only [List.map_toArray, List.map_cons, List.map_nil]); first | done | rfl | (simp only [List.length_drop, List.length_take]; rfl)) ?_; (with_reducible refine (vernierlaw13_alive.calls k  true _ A3.out).mono ?_); rintro e w14 ⟨rfl, hb⟩; refine ⟨_, rfl, ?_⟩; have n0_ := Aside0.mk (below_step (by repeat (first | (with_reducible first | exact HB.out | apply below_alloc | apply pw_below_drewN | apply below_drew1) | exact HB.out)) hb); clear HB; have HB := n0_; clear n0_; (try clear hb); (try clear hb2); (try clear hk); (try clear hi)) | ((with_reducible refine gate_callee (f := 53) rfl ?_); refine goesL_ (some 24) rfl rfl Try.func53 (by kernel_rfl) rfl #[.int .u64 a0, .int .i64 a1] rfl (by (try simp only [List.map_toArray, List.map_cons, List.map_nil]); first | done | rfl | (simp only [List.length_drop, List.length_take]; rfl)) ?_; (with_reducible refine (fconv_Whole.calls k a0 a1 t838 t839 _ A5.out).mono ?_); rintro e w15 ⟨rfl, hb⟩; refine ⟨_, rfl, ?_⟩; have n0_ := Aside0.mk (below_step (by repeat (first | (with_reducible first | exact HB.out | apply below_alloc | apply pw_below_drewN | apply below_drew1) | exact HB.out)) hb); clear HB; have HB := n0_; clear n0_; (try clear hb); (try clear hb2); (try clear hk); (try clear hi)) | ((with_reducible refine gate_callee (f := 54) rfl ?_); refine goesL_ (some 30) rfl rfl Try.func54 (by kernel_rfl) rfl #[.int .u64 a0, .int .i64 a1] rfl (by (try simp only [List.map_toArray, List.map_cons, List.map_nil]); first | done | rfl | (simp only [List.length_drop, List.length_take]; rfl)) ?_; (with_reducible refine (fconv_ToInt.calls k a0 a1 t840 t841 _ A6.out).mono ?_); rintro e w16 ⟨rfl, hb⟩; refine ⟨_, rfl, ?_⟩; have n0_ := Aside0.mk (below_step (by repeat (first | (with_reducible first | exact HB.out | apply below_alloc | apply pw_below_drewN | apply below_drew1) | exact HB.out)) hb); clear HB; have HB := n0_; clear n0_; (try clear hb); (try clear hb2); (try clear hk); (try clear hi)) | ((with_reducible refine gate_callee (f := 35) rfl ?_); refine goesL_ (some 34) rfl rfl Try.func35 (by kernel_rfl) rfl #[.int .u64 a0] rfl (by (try simp only [List.map_toArray, List.map_cons, List.map_nil]); first | done | rfl | (simp only [List.length_drop, List.length_take]; rfl)) ?_; (with_reducible refine (vernierref06_Class.calls k a0 t842 _ A7.out).mono ?_); rintro e w' ⟨rfl, ⟨nd, rfl⟩⟩; refine ⟨_, rfl, ?_⟩))
                go_ret
                exact ⟨by first | rfl | (simp [errW_none, errW_some] <;> rfl) | (simp [*, errW_none, errW_some] <;> rfl), by repeat (first | (with_reducible first | exact HB.out | apply below_alloc | apply pw_below_drewN | apply below_drew1) | exact HB.out)⟩
              · rw [if_neg c13] at H
                have c13b0 : (t838 == 9221120237041090560) = false := beq_eq_false_iff_ne.mpr c13
                have c13b1 : (t838 != 9221120237041090560) = true := bne_iff_ne.mpr c13
                by_cases c17 : t842 = 2
                · rw [if_pos c17] at H
                  have c17b0 : (t842 == 2) = true := beq_iff_eq.mpr c17
                  have c17b1 : (t842 != 2) = false := bne_eq_false_iff_eq.mpr c17
                  clear c17
                  obtain rfl := Option.some.inj H
                  go_enter Try.func10, Try.ntmps10
                  go_wp2_with (first | ((with_reducible refine gate_callee (f := 52) rfl ?_); refine goesL_ (some 19) rfl rfl Try.func52 (by kernel_rfl) rfl #[] rfl (by (try simp only [List.map_toArray, List.map_cons, List.map_nil]); first | done | rfl | (simp only [List.length_drop, List.length_take]; rfl)) ?_; (with_reducible refine (vernierlaw13_alive.calls k  true _ A3.out).mono ?_); rintro e w18 ⟨rfl, hb⟩; refine ⟨_, rfl, ?_⟩; have n0_ := Aside0.mk (below_step (by repeat (first | (with_reducible first | exact HB.out | apply below_alloc | apply pw_below_drewN | apply below_drew1) | exact HB.out)) hb); clear HB; have HB := n0_; clear n0_; (try clear hb); (try clear hb2); (try clear hk); (try clear hi)) | ((with_reducible refine gate_callee (f := 53) rfl ?_); refine goesL_ (some 24) rfl rfl Try.func53 (by kernel_rfl) rfl #[.int .u64 a0, .int .i64 a1] rfl (by (try simp only [List.map_toArray, List.map_cons, List.map_nil]); first | done | rfl | (simp only [List.length_drop, List.length_take]; rfl)) ?_; (with_reducible refine (fconv_Whole.calls k a0 a1 t838 t839 _ A5.out).mono ?_); rintro e w19 ⟨rfl, hb⟩; refine ⟨_, rfl, ?_⟩; have n0_ := Aside0.mk (below_step (by repeat (first | (with_reducible first | exact HB.out | apply below_alloc | apply pw_below_drewN | apply below_drew1) | exact HB.out)) hb); clear HB; have HB := n0_; clear n0_; (try clear hb); (try clear hb2); (try clear hk); (try clear hi)) | ((with_reducible refine gate_callee (f := 54) rfl ?_); refine goesL_ (some 30) rfl rfl Try.func54 (by kernel_rfl) rfl #[.int .u64 a0, .int .i64 a1] rfl (by (try simp only [List.map_toArray, List.map_cons, List.map_nil]); first | done | rfl | (simp only [List.length_drop, List.length_take]; rfl)) ?_; (with_reducible refine (fconv_ToInt.calls k a0 a1 t840 t841 _ A6.out).mono ?_); rintro e w20 ⟨rfl, hb⟩; refine ⟨_, rfl, ?_⟩; have n0_ := Aside0.mk (below_step (by repeat (first | (with_reducible first | exact HB.out | apply below_alloc | apply pw_below_drewN | apply below_drew1) | exact HB.out)) hb); clear HB; have HB := n0_; clear n0_; (try clear hb); (try clear hb2); (try clear hk); (try clear hi)) | ((with_reducible refine gate_callee (f := 35) rfl ?_); refine goesL_ (some 34) rfl rfl Try.func35 (by kernel_rfl) rfl #[.int .u64 a0] rfl (by (try simp only [List.map_toArray, List.map_cons, List.map_nil]); first | done | rfl | (simp only [List.length_drop, List.length_take]; rfl)) ?_; (with_reducible refine (vernierref06_Class.calls k a0 t842 _ A7.out).mono ?_); rintro e w' ⟨rfl, ⟨nd, rfl⟩⟩; refine ⟨_, rfl, ?_⟩))
                  go_ret
                  exact ⟨by first | rfl | (simp [errW_none, errW_some] <;> rfl) | (simp [*, errW_none, errW_some] <;> rfl), by repeat (first | (with_reducible first | exact HB.out | apply below_alloc | apply pw_below_drewN | apply below_drew1) | exact HB.out)⟩
                · rw [if_neg c17] at H
                  have c17b0 : (t842 == 2) = false := beq_eq_false_iff_ne.mpr c17
                  have c17b1 : (t842 != 2) = true := bne_iff_ne.mpr c17
                  exact absurd (Option.some.inj H) (by subst hT; decide)
            · rw [if_neg c12] at H
              have c12b0 : (t842 == 3) = false := beq_eq_false_iff_ne.mpr c12
              have c12b1 : (t842 != 3) = true := bne_iff_ne.mpr c12
              by_cases c21 : t842 = 2
              · rw [if_pos c21] at H
                have c21b0 : (t842 == 2) = true := beq_iff_eq.mpr c21
                have c21b1 : (t842 != 2) = false := bne_eq_false_iff_eq.mpr c21
                clear c21
                obtain rfl := Option.some.inj H
                go_enter Try.func10, Try.ntmps10
                go_wp2_with (first | ((with_reducible refine gate_callee (f := 52) rfl ?_); refine goesL_ (some 19) rfl rfl Try.func52 (by kernel_rfl) rfl #[] rfl (by (try simp only [List.map_toArray, List.map_cons, List.map_nil]); first | done | rfl | (simp only [List.length_drop, List.length_take]; rfl)) ?_; (with_reducible refine (vernierlaw13_alive.calls k  true _ A3.out).mono ?_); rintro e w22 ⟨rfl, hb⟩; refine ⟨_, rfl, ?_⟩; have n0_ := Aside0.mk (below_step (by repeat (first | (with_reducible first | exact HB.out | apply below_alloc | apply pw_below_drewN | apply below_drew1) | exact HB.out)) hb); clear HB; have HB := n0_; clear n0_; (try clear hb); (try clear hb2); (try clear hk); (try clear hi)) | ((with_reducible refine gate_callee (f := 53) rfl ?_); refine goesL_ (some 24) rfl rfl Try.func53 (by kernel_rfl) rfl #[.int .u64 a0, .int .i64 a1] rfl (by (try simp only [List.map_toArray, List.map_cons, List.map_nil]); first | done | rfl | (simp only [List.length_drop, List.length_take]; rfl)) ?_; (with_reducible refine (fconv_Whole.calls k a0 a1 t838 t839 _ A5.out).mono ?_); rintro e w23 ⟨rfl, hb⟩; refine ⟨_, rfl, ?_⟩; have n0_ := Aside0.mk (below_step (by repeat (first | (with_reducible first | exact HB.out | apply below_alloc | apply pw_below_drewN | apply below_drew1) | exact HB.out)) hb); clear HB; have HB := n0_; clear n0_; (try clear hb); (try clear hb2); (try clear hk); (try clear hi)) | ((with_reducible refine gate_callee (f := 54) rfl ?_); refine goesL_ (some 30) rfl rfl Try.func54 (by kernel_rfl) rfl #[.int .u64 a0, .int .i64 a1] rfl (by (try simp only [List.map_toArray, List.map_cons, List.map_nil]); first | done | rfl | (simp only [List.length_drop, List.length_take]; rfl)) ?_; (with_reducible refine (fconv_ToInt.calls k a0 a1 t840 t841 _ A6.out).mono ?_); rintro e w24 ⟨rfl, hb⟩; refine ⟨_, rfl, ?_⟩; have n0_ := Aside0.mk (below_step (by repeat (first | (with_reducible first | exact HB.out | apply below_alloc | apply pw_below_drewN | apply below_drew1) | exact HB.out)) hb); clear HB; have HB := n0_; clear n0_; (try clear hb); (try clear hb2); (try clear hk); (try clear hi)) | ((with_reducible refine gate_callee (f := 35) rfl ?_); refine goesL_ (some 34) rfl rfl Try.func35 (by kernel_rfl) rfl #[.int .u64 a0] rfl (by (try simp only [List.map_toArray, List.map_cons, List.map_nil]); first | done | rfl | (simp only [List.length_drop, List.length_take]; rfl)) ?_; (with_reducible refine (vernierref06_Class.calls k a0 t842 _ A7.out).mono ?_); rintro e w' ⟨rfl, ⟨nd, rfl⟩⟩; refine ⟨_, rfl, ?_⟩))
                go_ret
                exact ⟨by first | rfl | (simp [errW_none, errW_some] <;> rfl) | (simp [*, errW_none, errW_some] <;> rfl), by repeat (first | (with_reducible first | exact HB.out | apply below_alloc | apply pw_below_drewN | apply below_drew1) | exact HB.out)⟩
              · rw [if_neg c21] at H
                have c21b0 : (t842 == 2) = false := beq_eq_false_iff_ne.mpr c21
                have c21b1 : (t842 != 2) = true := bne_iff_ne.mpr c21
                exact absurd (Option.some.inj H) (by subst hT; decide)
          · rw [if_neg c11] at H
            have c11b0 : (t839 == 0) = false := beq_eq_false_iff_ne.mpr c11
            have c11b1 : (t839 != 0) = true := bne_iff_ne.mpr c11
            exact absurd (Option.some.inj H) (by subst hT; decide)
        · rw [if_neg c10] at H
          have c10b0 : (t841 == 1) = false := beq_eq_false_iff_ne.mpr c10
          have c10b1 : (t841 != 1) = true := bne_iff_ne.mpr c10
          exact absurd (Option.some.inj H) (by subst hT; decide)
      · rw [if_neg c9] at H
        have c9b0 : (t840 == 0) = false := beq_eq_false_iff_ne.mpr c9
        have c9b1 : (t840 != 0) = true := bne_iff_ne.mpr c9
        exact absurd (Option.some.inj H) (by subst hT; decide)
    · rw [if_neg c8] at H
      have c8b0 : decide (1 < t842) = false := decide_eq_false c8
      clear c8
      replace H := Option.bind_eq_some_iff.mp H
      obtain ⟨⟨t843, t844⟩, A250, H⟩ := H
      replace H : (if t844 = true then (vernierlaw13_FconvWhole.j0 k a0 t838 t839 t840 t841 t843 16) else (vernierlaw13_FconvWhole.j0 k a0 t838 t839 t840 t841 t843 0)) = some r := H
      have A25 := Aside0.mk A250
      clear A250
      have HC26 := Aside0.mk H
      clear H
      go_enter Try.func10, Try.ntmps10
      go_upto_if 70 with (first | ((with_reducible refine gate_callee (f := 52) rfl ?_); refine goesL_ (some 19) rfl rfl Try.func52 (by kernel_rfl) rfl #[] rfl (by (try simp only [List.map_toArray, List.map_cons, List.map_nil]); first | done | rfl | (simp only [List.length_drop, List.length_take]; rfl)) ?_; (with_reducible refine (vernierlaw13_alive.calls k  true _ A3.out).mono ?_); rintro e w27 ⟨rfl, hb⟩; refine ⟨_, rfl, ?_⟩; have n0_ := Aside0.mk (below_step (by repeat (first | (with_reducible first | exact HB.out | apply below_alloc | apply pw_below_drewN | apply below_drew1) | exact HB.out)) hb); clear HB; have HB := n0_; clear n0_; (try clear hb); (try clear hb2); (try clear hk); (try clear hi)) | ((with_reducible refine gate_callee (f := 53) rfl ?_); refine goesL_ (some 24) rfl rfl Try.func53 (by kernel_rfl) rfl #[.int .u64 a0, .int .i64 a1] rfl (by (try simp only [List.map_toArray, List.map_cons, List.map_nil]); first | done | rfl | (simp only [List.length_drop, List.length_take]; rfl)) ?_; (with_reducible refine (fconv_Whole.calls k a0 a1 t838 t839 _ A5.out).mono ?_); rintro e w28 ⟨rfl, hb⟩; refine ⟨_, rfl, ?_⟩; have n0_ := Aside0.mk (below_step (by repeat (first | (with_reducible first | exact HB.out | apply below_alloc | apply pw_below_drewN | apply below_drew1) | exact HB.out)) hb); clear HB; have HB := n0_; clear n0_; (try clear hb); (try clear hb2); (try clear hk); (try clear hi)) | ((with_reducible refine gate_callee (f := 54) rfl ?_); refine goesL_ (some 30) rfl rfl Try.func54 (by kernel_rfl) rfl #[.int .u64 a0, .int .i64 a1] rfl (by (try simp only [List.map_toArray, List.map_cons, List.map_nil]); first | done | rfl | (simp only [List.length_drop, List.length_take]; rfl)) ?_; (with_reducible refine (fconv_ToInt.calls k a0 a1 t840 t841 _ A6.out).mono ?_); rintro e w29 ⟨rfl, hb⟩; refine ⟨_, rfl, ?_⟩; have n0_ := Aside0.mk (below_step (by repeat (first | (with_reducible first | exact HB.out | apply below_alloc | apply pw_below_drewN | apply below_drew1) | exact HB.out)) hb); clear HB; have HB := n0_; clear n0_; (try clear hb); (try clear hb2); (try clear hk); (try clear hi)) | ((with_reducible refine gate_callee (f := 35) rfl ?_); refine goesL_ (some 34) rfl rfl Try.func35 (by kernel_rfl) rfl #[.int .u64 a0] rfl (by (try simp only [List.map_toArray, List.map_cons, List.map_nil]); first | done | rfl | (simp only [List.length_drop, List.length_take]; rfl)) ?_; (with_reducible refine (vernierref06_Class.calls k a0 t842 _ A7.out).mono ?_); rintro e w' ⟨rfl, ⟨nd, rfl⟩⟩; refine ⟨_, rfl, ?_⟩) | ((with_reducible refine gate_callee (f := 55) rfl ?_); refine goesL_ (some 67) rfl rfl Try.func55 (by kernel_rfl) rfl #[.int .u64 a0, .int .i64 a1] rfl (by (try simp only [List.map_toArray, List.map_cons, List.map_nil]); first | done | rfl | (simp only [List.length_drop, List.length_take]; rfl)) ?_; (with_reducible refine (vernierlaw13_whole.calls k a0 a1 t843 t844 _ A25.out).mono ?_); rintro e w30 ⟨v845, rfl, ho0, hb⟩; refine ⟨_, rfl, ?_⟩; have n0_ := Aside0.mk (Kd.R_lower ho0 (below_size (by repeat (first | (with_reducible first | exact HB.out | apply below_alloc | apply pw_below_drewN | apply below_drew1) | exact HB.out)))); have n1_ := Aside0.mk (below_step (by repeat (first | (with_reducible first | exact HB.out | apply below_alloc | apply pw_below_drewN | apply below_drew1) | exact HB.out)) hb); clear HB; have HO846 := n0_; have HB := n1_; clear n0_ n1_; (try clear hb); (try clear hb2); (try clear hk); (try clear hi); (try clear ho0)))
      (try simp only [Act.put, List.setIfInBounds_toArray, List.set_cons_zero, List.set_cons_succ])
      go_cut [12] (fun v12 wc => ∃ (kq : Nat) (x12_25 : Int), v12 = .int .i64 x12_25 ∧ Aside0 (vernierlaw13_FconvWhole.j0 kq a0 t838 t839 t840 t841 t843 x12_25 = some r) ∧ Aside0 (kq ≤ k) ∧ Aside0 (Kd.R (Kd.int .i64) 3 wc w.heap.size (fun _ => True) v845 t843) ∧ Aside0 (Below w.heap.size w wc))
      case first =>
        have H := HC26.out
        clear HC26
        by_cases c31 : t844 = true
        · subst c31
          have H1 : (vernierlaw13_FconvWhole.j0 k a0 t838 t839 t840 t841 t843 16) = some r := by rw [if_pos rfl] at H; exact H
          clear H
          have H := H1
          clear H1
          have H' := Aside0.mk H
          clear H
          go_wp2
          go_meet
          case rel => exact ⟨_, (16), (by first | rfl | (simp; done) | (simp [*]; done)), H', ⟨by first | omega | exact Nat.le_refl _⟩, ⟨by (with_reducible repeat (first | apply Kd.R_alloc | apply Kd.R_drewN | apply Kd.R_drew)); exact HO846.out⟩, ⟨by repeat (first | (with_reducible first | exact HB.out | apply below_alloc | apply pw_below_drewN | apply below_drew1) | exact HB.out)⟩⟩
        · replace c31 := Bool.eq_false_iff.mpr c31
          subst c31
          have H1 : (vernierlaw13_FconvWhole.j0 k a0 t838 t839 t840 t841 t843 0) = some r := by rw [if_neg (show ¬ (false = true) by decide)] at H; exact H
          clear H
          have H := H1
          clear H1
          have H' := Aside0.mk H
          clear H
          go_wp2
          go_meet
          case rel => exact ⟨_, (0), (by first | rfl | (simp; done) | (simp [*]; done)), H', ⟨by first | omega | exact Nat.le_refl _⟩, ⟨by (with_reducible repeat (first | apply Kd.R_alloc | apply Kd.R_drewN | apply Kd.R_drew)); exact HO846.out⟩, ⟨by repeat (first | (with_reducible first | exact HB.out | apply below_alloc | apply pw_below_drewN | apply below_drew1) | exact HB.out)⟩⟩
      case rest =>
        clear HC26
        try clear c1
        try clear c2
        try clear p2
        try clear c3
        try clear c4
        try clear c5
        try clear c8
        try clear c8b0
        try clear c9
        try clear c9b0
        try clear c9b1
        try clear c10
        try clear c10b0
        try clear c10b1
        try clear c11
        try clear c11b0
        try clear c11b1
        try clear c12
        try clear c12b0
        try clear c12b1
        try clear c13
        try clear c13b0
        try clear c13b1
        try clear c17
        try clear c17b0
        try clear c17b1
        try clear c21
        try clear c21b0
        try clear c21b1
        try clear c31
        obtain ⟨kq, x12_25, rfl, HA, HJ25, HO_10, HB⟩ := hcut
        cases kq with
        | zero => exact absurd HA.out (by simp [vernierlaw13_FconvWhole.j0])
        | succ kj25 =>
          have H := HA.out
          clear HA
          simp only [vernierlaw13_FconvWhole.j0] at H
          replace H := Option.bind_eq_some_iff.mp H
          obtain ⟨⟨t847, t848, t849⟩, A320, H⟩ := H
          replace H : (if t839 = x12_25 then (if (t847 != (decide (a0 ≥ 9223372036854775808))) = true then (vernierlaw13_FconvWhole.j1 kj25 t840 t841 t843 x12_25 t847 true) else ((vernierref01_Word.f kj25 t848).bind fun t850 => ((vernierref01_Shl.f kj25 t850 (wrap64 (t849 - (mn t849 0)))).bind fun t853 => ((vernierref01_Shl.f kj25 t843 (wrap64 (-(mn t849 0)))).bind fun t856 => ((vernierref01_Cmp.f kj25 t853 t856).bind fun t859 => (vernierlaw13_FconvWhole.j1 kj25 t840 t841 t843 x12_25 t847 (t859 != 0))))))) else (vernierlaw13_FconvWhole.j1 kj25 t840 t841 t843 x12_25 t847 true)) = some r := H
          have A32 := Aside0.mk A320
          clear A320
          obtain ⟨ji33, hji33⟩ : ∃ j_ : Int, (mn t849 0) = j_ := ⟨_, rfl⟩
          replace H : (if t839 = x12_25 then (if (t847 != (decide (a0 ≥ 9223372036854775808))) = true then (vernierlaw13_FconvWhole.j1 kj25 t840 t841 t843 x12_25 t847 true) else ((vernierref01_Word.f kj25 t848).bind fun t850 => ((vernierref01_Shl.f kj25 t850 (wrap64 (t849 - (ji33)))).bind fun t853 => ((vernierref01_Shl.f kj25 t843 (wrap64 (-(ji33)))).bind fun t856 => ((vernierref01_Cmp.f kj25 t853 t856).bind fun t859 => (vernierlaw13_FconvWhole.j1 kj25 t840 t841 t843 x12_25 t847 (t859 != 0))))))) else (vernierlaw13_FconvWhole.j1 kj25 t840 t841 t843 x12_25 t847 true)) = some r := by first | (rw [hji33] at H; exact H) | (simp only [hji33] at H ⊢; exact H)
          (try rw [hji33] at A32)
          (try (have hji33h : ji33 ≤ 0 := by (rw [← hji33]; unfold mn; (repeat' split) <;> omega)))
          (try (have hji33g : ji33 ≤ 64 := by omega))
          have hji33_ : (if 0 < t849 then 0 else t849) = ji33 := hji33
          have HC34 := Aside0.mk H
          clear H
          go_upto_region 14 with (first | ((with_reducible refine gate_callee (f := 56) rfl ?_); refine goesL_ (some 73) rfl rfl Try.func56 (by kernel_rfl) rfl #[.int .u64 t838] rfl (by (try simp only [List.map_toArray, List.map_cons, List.map_nil]); first | done | rfl | (simp only [List.length_drop, List.length_take]; rfl)) ?_; (with_reducible refine (vernierref06_Split.calls t838 t847 t848 t849 _ A32.out).mono ?_); rintro e w' ⟨rfl, ⟨nd, rfl⟩⟩; refine ⟨_, rfl, ?_⟩))
          (try simp only [Act.put, List.setIfInBounds_toArray, List.set_cons_zero, List.set_cons_succ])
          go_cut [101] (fun v101 wc => ∃ (kq : Nat) (x101_33 : Bool), v101 = .bool x101_33 ∧ Aside0 (vernierlaw13_FconvWhole.j1 kq t840 t841 t843 x12_25 t847 x101_33 = some r) ∧ Aside0 (kq ≤ kj25) ∧ Aside0 (Kd.R (Kd.int .i64) 3 wc w.heap.size (fun _ => True) v845 t843) ∧ Aside0 (Below w.heap.size w wc))
          case first =>
            have H := HC34.out
            clear HC34
            by_cases c35 : t839 = x12_25
            · rw [if_pos c35] at H
              have c35b0 : (t839 == x12_25) = true := beq_iff_eq.mpr c35
              have c35b1 : (t839 != x12_25) = false := bne_eq_false_iff_eq.mpr c35
              clear c35
              (first | rw [c35b0] | (simp only [i64_w, i32_w]; rw [c35b0]) | skip)
              by_cases c36 : (t847 != (decide (a0 ≥ 9223372036854775808))) = true
              · rw [if_pos c36] at H
                have c36b0 : (t847 != (decide (a0 ≥ 9223372036854775808))) = true := c36
                (try (have c36b1 : decide (t847 = (decide (a0 ≥ 9223372036854775808))) = false := by simpa using c36))
                (try (have c36b2 : (t847 == (decide (a0 ≥ 9223372036854775808))) = false := by simpa using c36))
                (try (have c36b3 : ¬ (t847 = (decide (a0 ≥ 9223372036854775808))) := by simpa using c36))
                clear c36
                have H' := Aside0.mk H
                clear H
                go_wp2
                go_meet
                case rel => exact ⟨_, (true), (by first | rfl | (simp; done) | (simp [*]; done)), H', ⟨by have := HJ25.out; first | omega | exact Nat.le_refl _⟩, ⟨by (with_reducible repeat (first | apply Kd.R_alloc | apply Kd.R_drewN | apply Kd.R_drew)); exact HO_10.out⟩, ⟨by repeat (first | (with_reducible first | exact HB.out | apply below_alloc | apply pw_below_drewN | apply below_drew1) | exact HB.out)⟩⟩
              · rw [if_neg c36] at H
                have c36b0 : (t847 != (decide (a0 ≥ 9223372036854775808))) = false := by simpa using c36
                (try (have c36b1 : decide (t847 = (decide (a0 ≥ 9223372036854775808))) = true := by simpa using c36))
                (try (have c36b2 : (t847 == (decide (a0 ≥ 9223372036854775808))) = true := by simpa using c36))
                clear c36
                replace H := Option.bind_eq_some_iff.mp H
                obtain ⟨t850, A370, H⟩ := H
                replace H : ((vernierref01_Shl.f kj25 t850 (wrap64 (t849 - (ji33)))).bind fun t853 => ((vernierref01_Shl.f kj25 t843 (wrap64 (-(ji33)))).bind fun t856 => ((vernierref01_Cmp.f kj25 t853 t856).bind fun t859 => (vernierlaw13_FconvWhole.j1 kj25 t840 t841 t843 x12_25 t847 (t859 != 0))))) = some r := H
                have A37 := Aside0.mk A370
                clear A370
                replace H := Option.bind_eq_some_iff.mp H
                obtain ⟨t853, A380, H⟩ := H
                replace H : ((vernierref01_Shl.f kj25 t843 (wrap64 (-(ji33)))).bind fun t856 => ((vernierref01_Cmp.f kj25 t853 t856).bind fun t859 => (vernierlaw13_FconvWhole.j1 kj25 t840 t841 t843 x12_25 t847 (t859 != 0)))) = some r := H
                have A38 := Aside0.mk A380
                clear A380
                replace H := Option.bind_eq_some_iff.mp H
                obtain ⟨t856, A390, H⟩ := H
                replace H : ((vernierref01_Cmp.f kj25 t853 t856).bind fun t859 => (vernierlaw13_FconvWhole.j1 kj25 t840 t841 t843 x12_25 t847 (t859 != 0))) = some r := H
                have A39 := Aside0.mk A390
                clear A390
                replace H := Option.bind_eq_some_iff.mp H
                obtain ⟨t859, A400, H⟩ := H
                replace H : (vernierlaw13_FconvWhole.j1 kj25 t840 t841 t843 x12_25 t847 (t859 != 0)) = some r := H
                have A40 := Aside0.mk A400
                clear A400
                have H' := Aside0.mk H
                clear H
                go_wp2_with (first | (go_at_call 21; (with_reducible refine (vernierref01_Word.calls kj25 t848 t850 _ A37.out).mono ?_); rintro e w41 ⟨v851, rfl, ho0, hb⟩; have n0_ := Aside0.mk (Kd.R_elder' (by (with_reducible repeat (first | apply Kd.R_alloc | apply Kd.R_drewN | apply Kd.R_drew)); exact HO_10.out) (Kd.R_base ho0) hb); have n1_ := Aside0.mk (Kd.R_lower (Kd.R_new' ho0 (Kd.R_lt (by (with_reducible repeat (first | apply Kd.R_alloc | apply Kd.R_drewN | apply Kd.R_drew)); exact HO_10.out))) (below_size (by repeat (first | (with_reducible first | exact HB.out | apply below_alloc | apply pw_below_drewN | apply below_drew1) | exact HB.out)))); have n2_ := Aside0.mk (below_step (by repeat (first | (with_reducible first | exact HB.out | apply below_alloc | apply pw_below_drewN | apply below_drew1) | exact HB.out)) hb); clear HO_10; clear HB; have HO_10 := n0_; have HO852 := n1_; have HB := n2_; clear n0_ n1_ n2_; (try clear hb); (try clear hb2); (try clear hk); (try clear hi); (try clear ho0); obtain ⟨Ao42, co42, eo42⟩ := Kd.R_slice HO852.out; subst eo42) | (go_at_call 49; (with_reducible refine (vernierref01_Shl.calls kj25 _ _ t850 (wrap64 (t849 - (ji33))) t853 _ ?side1 ?side2 A38.out).mono ?_); (case side1 => repeat (first | exact (Kd.R_reads' HO852.out).2.2 | (with_reducible refine Kd.C_alloc ?_ _) | (with_reducible refine Kd.C_drewN ?_ _) | (with_reducible refine Kd.C_drew ?_))); (case side2 => exact (Kd.R_reads' HO852.out).2.1); rintro e w43 ⟨v854, rfl, ho0, hb⟩; have n0_ := Aside0.mk (Kd.R_elder' (by (with_reducible repeat (first | apply Kd.R_alloc | apply Kd.R_drewN | apply Kd.R_drew)); exact HO_10.out) (Kd.R_base ho0) hb); have n1_ := Aside0.mk (Kd.R_elder' (by (with_reducible repeat (first | apply Kd.R_alloc | apply Kd.R_drewN | apply Kd.R_drew)); exact HO852.out) (Kd.R_base ho0) hb); have n2_ := Aside0.mk (Kd.R_lower (Kd.R_new' (Kd.R_new' ho0 (Kd.R_lt (by (with_reducible repeat (first | apply Kd.R_alloc | apply Kd.R_drewN | apply Kd.R_drew)); exact HO_10.out))) (Kd.R_lt (by (with_reducible repeat (first | apply Kd.R_alloc | apply Kd.R_drewN | apply Kd.R_drew)); exact HO852.out))) (below_size (by repeat (first | (with_reducible first | exact HB.out | apply below_alloc | apply pw_below_drewN | apply below_drew1) | exact HB.out)))); have n3_ := Aside0.mk (below_step (by repeat (first | (with_reducible first | exact HB.out | apply below_alloc | apply pw_below_drewN | apply below_drew1) | exact HB.out)) hb); clear HO_10; clear HO852; clear HB; have HO_10 := n0_; have HO852 := n1_; have HO855 := n2_; have HB := n3_; clear n0_ n1_ n2_ n3_; (try clear hb); (try clear hb2); (try clear hk); (try clear hi); (try clear ho0); obtain ⟨Ao44, co44, eo44⟩ := Kd.R_slice HO_10.out; subst eo44) | (go_at_call 49; (with_reducible refine (vernierref01_Shl.calls kj25 _ _ t843 (wrap64 (-(ji33))) t856 _ ?side1 ?side2 A39.out).mono ?_); (case side1 => repeat (first | exact (Kd.R_reads' HO_10.out).2.2 | (with_reducible refine Kd.C_alloc ?_ _) | (with_reducible refine Kd.C_drewN ?_ _) | (with_reducible refine Kd.C_drew ?_))); (case side2 => exact (Kd.R_reads' HO_10.out).2.1); rintro e w45 ⟨v857, rfl, ho0, hb⟩; have n0_ := Aside0.mk (Kd.R_elder' (by (with_reducible repeat (first | apply Kd.R_alloc | apply Kd.R_drewN | apply Kd.R_drew)); exact HO_10.out) (Kd.R_base ho0) hb); have n1_ := Aside0.mk (Kd.R_elder' (by (with_reducible repeat (first | apply Kd.R_alloc | apply Kd.R_drewN | apply Kd.R_drew)); exact HO852.out) (Kd.R_base ho0) hb); have n2_ := Aside0.mk (Kd.R_elder' (by (with_reducible repeat (first | apply Kd.R_alloc | apply Kd.R_drewN | apply Kd.R_drew)); exact HO855.out) (Kd.R_base ho0) hb); have n3_ := Aside0.mk (Kd.R_lower (Kd.R_new' (Kd.R_new' (Kd.R_new' ho0 (Kd.R_lt (by (with_reducible repeat (first | apply Kd.R_alloc | apply Kd.R_drewN | apply Kd.R_drew)); exact HO_10.out))) (Kd.R_lt (by (with_reducible repeat (first | apply Kd.R_alloc | apply Kd.R_drewN | apply Kd.R_drew)); exact HO852.out))) (Kd.R_lt (by (with_reducible repeat (first | apply Kd.R_alloc | apply Kd.R_drewN | apply Kd.R_drew)); exact HO855.out))) (below_size (by repeat (first | (with_reducible first | exact HB.out | apply below_alloc | apply pw_below_drewN | apply below_drew1) | exact HB.out)))); have n4_ := Aside0.mk (below_step (by repeat (first | (with_reducible first | exact HB.out | apply below_alloc | apply pw_below_drewN | apply below_drew1) | exact HB.out)) hb); clear HO_10; clear HO852; clear HO855; clear HB; have HO_10 := n0_; have HO852 := n1_; have HO855 := n2_; have HO858 := n3_; have HB := n4_; clear n0_ n1_ n2_ n3_ n4_; (try clear hb); (try clear hb2); (try clear hk); (try clear hi); (try clear ho0); obtain ⟨Ao46, co46, eo46⟩ := Kd.R_slice HO855.out; subst eo46; obtain ⟨Ao47, co47, eo47⟩ := Kd.R_slice HO858.out; subst eo47) | (go_at_call 19; (with_reducible refine (vernierref01_Cmp.calls kj25 _ _ t853 _ _ t856 t859 _ ?side1 ?side2 ?side3 ?side4 A40.out).mono ?_); (case side1 => repeat (first | exact (Kd.R_reads' HO855.out).2.2 | (with_reducible refine Kd.C_alloc ?_ _) | (with_reducible refine Kd.C_drewN ?_ _) | (with_reducible refine Kd.C_drew ?_))); (case side2 => exact (Kd.R_reads' HO855.out).2.1); (case side3 => repeat (first | exact (Kd.R_reads' HO858.out).2.2 | (with_reducible refine Kd.C_alloc ?_ _) | (with_reducible refine Kd.C_drewN ?_ _) | (with_reducible refine Kd.C_drew ?_))); (case side4 => exact (Kd.R_reads' HO858.out).2.1); rintro e w' ⟨rfl, ⟨nd, rfl⟩⟩))
                go_meet
                case rel => exact ⟨_, ((t859 != 0)), (by first | rfl | (simp; done) | (simp [*]; done)), H', ⟨by have := HJ25.out; first | omega | exact Nat.le_refl _⟩, ⟨by (with_reducible repeat (first | apply Kd.R_alloc | apply Kd.R_drewN | apply Kd.R_drew)); exact Kd.R_mono HO_10.out (fun _ hk => trivial)⟩, ⟨by repeat (first | (with_reducible first | exact HB.out | apply below_alloc | apply pw_below_drewN | apply below_drew1) | exact HB.out)⟩⟩
            · rw [if_neg c35] at H
              have c35b0 : (t839 == x12_25) = false := beq_eq_false_iff_ne.mpr c35
              have c35b1 : (t839 != x12_25) = true := bne_iff_ne.mpr c35
              (first | rw [c35b0] | (simp only [i64_w, i32_w]; rw [c35b0]) | skip)
              have H' := Aside0.mk H
              clear H
              go_wp2
              go_meet
              case rel => exact ⟨_, (true), (by first | rfl | (simp; done) | (simp [*]; done)), H', ⟨by have := HJ25.out; first | omega | exact Nat.le_refl _⟩, ⟨by (with_reducible repeat (first | apply Kd.R_alloc | apply Kd.R_drewN | apply Kd.R_drew)); exact HO_10.out⟩, ⟨by repeat (first | (with_reducible first | exact HB.out | apply below_alloc | apply pw_below_drewN | apply below_drew1) | exact HB.out)⟩⟩
          case rest =>
            clear HC34
            try clear c1
            try clear c2
            try clear p2
            try clear c3
            try clear c4
            try clear c5
            try clear p6
            try clear c8
            try clear c8b0
            try clear c9
            try clear c9b0
            try clear c9b1
            try clear c10
            try clear c10b0
            try clear c10b1
            try clear c11
            try clear c11b0
            try clear c11b1
            try clear c12
            try clear c12b0
            try clear c12b1
            try clear c13
            try clear c13b0
            try clear c13b1
            try clear c17
            try clear c17b0
            try clear c17b1
            try clear c21
            try clear c21b0
            try clear c21b1
            try clear c31
            try clear c35
            try clear c35b0
            try clear c35b1
            try clear c36
            try clear c36b0
            try clear c36b1
            try clear c36b2
            try clear p2
            obtain ⟨kq, x101_33, rfl, HA, HJ33, HO_10, HB⟩ := hcut
            cases kq with
            | zero => exact absurd HA.out (by simp [vernierlaw13_FconvWhole.j1])
            | succ kj33 =>
              have H := HA.out
              clear HA
              simp only [vernierlaw13_FconvWhole.j1] at H
              by_cases c48 : x101_33 = true
              · subst c48
                have H1 : (some false) = some r := by rw [if_pos rfl] at H; exact H
                clear H
                have H := H1
                clear H1
                exact absurd (Option.some.inj H) (by subst hT; decide)
              · replace c48 := Bool.eq_false_iff.mpr c48
                subst c48
                have H1 : ((vernierref01_Shl.f kj33 (([1] : List Int)) 62).bind fun t863 => ((vernierref01_Cmp.f kj33 t843 t863).bind fun t866 => (if t866 > 0 then (if t840 = 0 then (some (t841 == 1)) else (some false)) else ((vernierref01_Limbs.f kj33 t843).bind fun t867 => (if (t867.length : Int) > 0 then (if 0 < (t867.length : Int) then (if t847 = true then (if t840 = (wrap64 (-(wrap64 (rd t867 0)))) then (some (t841 == x12_25)) else (some false)) else (if t840 = (wrap64 (rd t867 0)) then (some (t841 == x12_25)) else (some false))) else (none)) else (if t847 = true then (if t840 = (-0) then (some (t841 == x12_25)) else (some false)) else (if t840 = 0 then (some (t841 == x12_25)) else (some false)))))))) = some r := by rw [if_neg (show ¬ (false = true) by decide)] at H; exact H
                clear H
                have H := H1
                clear H1
                obtain ⟨y860, hy860⟩ : ∃ y_ : List Int, y_ = (([1] : List Int)) := ⟨_, rfl⟩
                replace H : ((vernierref01_Shl.f kj33 y860 62).bind fun t863 => ((vernierref01_Cmp.f kj33 t843 t863).bind fun t866 => (if t866 > 0 then (if t840 = 0 then (some (t841 == 1)) else (some false)) else ((vernierref01_Limbs.f kj33 t843).bind fun t867 => (if (t867.length : Int) > 0 then (if 0 < (t867.length : Int) then (if t847 = true then (if t840 = (wrap64 (-(wrap64 (rd t867 0)))) then (some (t841 == x12_25)) else (some false)) else (if t840 = (wrap64 (rd t867 0)) then (some (t841 == x12_25)) else (some false))) else (none)) else (if t847 = true then (if t840 = (-0) then (some (t841 == x12_25)) else (some false)) else (if t840 = 0 then (some (t841 == x12_25)) else (some false)))))))) = some r := by first | (rw [hy860]; with_reducible exact H) | (have H2_ := (Option.bind_some _ _).symm.trans H; rw [hy860]; with_reducible exact H2_) | (have H2_ := (Option.bind_some _ _).symm.trans H; with_reducible exact H2_) | with_reducible exact H | (rw [hy860]; exact H) | exact H
                have Ny860 := Aside0.mk hy860
                clear hy860
                replace H := Option.bind_eq_some_iff.mp H
                obtain ⟨t863, A490, H⟩ := H
                replace H : ((vernierref01_Cmp.f kj33 t843 t863).bind fun t866 => (if t866 > 0 then (if t840 = 0 then (some (t841 == 1)) else (some false)) else ((vernierref01_Limbs.f kj33 t843).bind fun t867 => (if (t867.length : Int) > 0 then (if 0 < (t867.length : Int) then (if t847 = true then (if t840 = (wrap64 (-(wrap64 (rd t867 0)))) then (some (t841 == x12_25)) else (some false)) else (if t840 = (wrap64 (rd t867 0)) then (some (t841 == x12_25)) else (some false))) else (none)) else (if t847 = true then (if t840 = (-0) then (some (t841 == x12_25)) else (some false)) else (if t840 = 0 then (some (t841 == x12_25)) else (some false))))))) = some r := H
                have A49 := Aside0.mk A490
                clear A490
                replace H := Option.bind_eq_some_iff.mp H
                obtain ⟨t866, A500, H⟩ := H
                replace H : (if t866 > 0 then (if t840 = 0 then (some (t841 == 1)) else (some false)) else ((vernierref01_Limbs.f kj33 t843).bind fun t867 => (if (t867.length : Int) > 0 then (if 0 < (t867.length : Int) then (if t847 = true then (if t840 = (wrap64 (-(wrap64 (rd t867 0)))) then (some (t841 == x12_25)) else (some false)) else (if t840 = (wrap64 (rd t867 0)) then (some (t841 == x12_25)) else (some false))) else (none)) else (if t847 = true then (if t840 = (-0) then (some (t841 == x12_25)) else (some false)) else (if t840 = 0 then (some (t841 == x12_25)) else (some false)))))) = some r := H
                have A50 := Aside0.mk A500
                clear A500
                by_cases c51 : t866 > 0
                · rw [if_pos c51] at H
                  have c51b0 : decide (0 < t866) = true := decide_eq_true c51
                  clear c51
                  by_cases c52 : t840 = 0
                  · rw [if_pos c52] at H
                    have c52b0 : (t840 == 0) = true := beq_iff_eq.mpr c52
                    have c52b1 : (t840 != 0) = false := bne_eq_false_iff_eq.mpr c52
                    clear c52
                    obtain rfl := Option.some.inj H
                    go_wp2_with (first | ((with_reducible refine gate_dst (N := 103) rfl ?_); refine Kd.R_lit (Kd.int .i64) _ 3 ?hg (N := 103) ?hd (xs := ([1] : List Int)) (inner := [.int .i64 1]) (ok := fun _ => True) (okp := fun _ => True) ?hr ?hp (fun _ hk => hk) trivial (Below.refl _ _) (Nat.le_refl _) (by simp) ?_; (case hd => rfl); (case hg => rfl); (case hr => first | (go_simp; done) | (go_simp; rfl)); (case hp => exact (Reps.one (show Kd.M (Kd.int .i64) _ _ _ 1 [.int .i64 1] from rfl) (Reps.none _ _))); intro v861 w53 ho54 hb hg_ hnew_; clear hg_ hnew_; (first | rw [← Ny860.out] at ho54 | (simp only [Int.reduceToNat] at ho54; rw [← Ny860.out] at ho54)); have n0_ := Aside0.mk (Kd.R_elder' (by (with_reducible repeat (first | apply Kd.R_alloc | apply Kd.R_drewN | apply Kd.R_drew)); exact HO_10.out) (Kd.R_base ho54) hb); have n1_ := Aside0.mk (Kd.R_lower (Kd.R_new' ho54 (Kd.R_lt (by (with_reducible repeat (first | apply Kd.R_alloc | apply Kd.R_drewN | apply Kd.R_drew)); exact HO_10.out))) (below_size (by repeat (first | (with_reducible first | exact HB.out | apply below_alloc | apply pw_below_drewN | apply below_drew1) | exact HB.out)))); have n2_ := Aside0.mk (below_step (by repeat (first | (with_reducible first | exact HB.out | apply below_alloc | apply pw_below_drewN | apply below_drew1) | exact HB.out)) hb); clear HO_10; clear HB; have HO_10 := n0_; have HO862 := n1_; have HB := n2_; clear n0_ n1_ n2_; clear hb ho54; obtain ⟨Ao55, co55, eo55⟩ := Kd.R_slice HO862.out; subst eo55) | ((with_reducible refine gate_callee (f := 49) rfl ?_); refine goesL_ (some 104) rfl rfl Try.func49 (by kernel_rfl) rfl #[.slice Ao55 y860.length co55, .int .i64 62] rfl (by (try simp only [List.map_toArray, List.map_cons, List.map_nil]); first | done | rfl | (simp only [List.length_drop, List.length_take]; rfl)) ?_; (with_reducible refine (vernierref01_Shl.calls kj33 _ _ y860 62 t863 _ ?side1 ?side2 A49.out).mono ?_); (case side1 => repeat (first | exact (Kd.R_reads' HO862.out).2.2 | (with_reducible refine Kd.C_alloc ?_ _) | (with_reducible refine Kd.C_drewN ?_ _) | (with_reducible refine Kd.C_drew ?_))); (case side2 => exact (Kd.R_reads' HO862.out).2.1); rintro e w56 ⟨v864, rfl, ho0, hb⟩; refine ⟨_, rfl, ?_⟩; have n0_ := Aside0.mk (Kd.R_elder' (by (with_reducible repeat (first | apply Kd.R_alloc | apply Kd.R_drewN | apply Kd.R_drew)); exact HO_10.out) (Kd.R_base ho0) hb); have n1_ := Aside0.mk (Kd.R_elder' (by (with_reducible repeat (first | apply Kd.R_alloc | apply Kd.R_drewN | apply Kd.R_drew)); exact HO862.out) (Kd.R_base ho0) hb); have n2_ := Aside0.mk (Kd.R_lower (Kd.R_new' (Kd.R_new' ho0 (Kd.R_lt (by (with_reducible repeat (first | apply Kd.R_alloc | apply Kd.R_drewN | apply Kd.R_drew)); exact HO_10.out))) (Kd.R_lt (by (with_reducible repeat (first | apply Kd.R_alloc | apply Kd.R_drewN | apply Kd.R_drew)); exact HO862.out))) (below_size (by repeat (first | (with_reducible first | exact HB.out | apply below_alloc | apply pw_below_drewN | apply below_drew1) | exact HB.out)))); have n3_ := Aside0.mk (below_step (by repeat (first | (with_reducible first | exact HB.out | apply below_alloc | apply pw_below_drewN | apply below_drew1) | exact HB.out)) hb); clear HO_10; clear HO862; clear HB; have HO_10 := n0_; have HO862 := n1_; have HO865 := n2_; have HB := n3_; clear n0_ n1_ n2_ n3_; (try clear hb); (try clear hb2); (try clear hk); (try clear hi); (try clear ho0); obtain ⟨Ao57, co57, eo57⟩ := Kd.R_slice HO_10.out; subst eo57; obtain ⟨Ao58, co58, eo58⟩ := Kd.R_slice HO865.out; subst eo58) | ((with_reducible refine gate_callee (f := 19) rfl ?_); refine goesL_ (some 105) rfl rfl Try.func19 (by kernel_rfl) rfl #[.slice Ao57 t843.length co57, .slice Ao58 t863.length co58] rfl (by (try simp only [List.map_toArray, List.map_cons, List.map_nil]); first | done | rfl | (simp only [List.length_drop, List.length_take]; rfl)) ?_; (with_reducible refine (vernierref01_Cmp.calls kj33 _ _ t843 _ _ t863 t866 _ ?side1 ?side2 ?side3 ?side4 A50.out).mono ?_); (case side1 => repeat (first | exact (Kd.R_reads' HO_10.out).2.2 | (with_reducible refine Kd.C_alloc ?_ _) | (with_reducible refine Kd.C_drewN ?_ _) | (with_reducible refine Kd.C_drew ?_))); (case side2 => exact (Kd.R_reads' HO_10.out).2.1); (case side3 => repeat (first | exact (Kd.R_reads' HO865.out).2.2 | (with_reducible refine Kd.C_alloc ?_ _) | (with_reducible refine Kd.C_drewN ?_ _) | (with_reducible refine Kd.C_drew ?_))); (case side4 => exact (Kd.R_reads' HO865.out).2.1); rintro e w' ⟨rfl, ⟨nd, rfl⟩⟩; refine ⟨_, rfl, ?_⟩))
                    go_ret
                    exact ⟨by first | rfl | (simp [errW_none, errW_some] <;> rfl) | (simp only [← hji33]; first | rfl | (simp [errW_none, errW_some] <;> rfl)) | (simp [*, errW_none, errW_some] <;> rfl), by repeat (first | (with_reducible first | exact HB.out | apply below_alloc | apply pw_below_drewN | apply below_drew1) | exact HB.out)⟩
                  · rw [if_neg c52] at H
                    have c52b0 : (t840 == 0) = false := beq_eq_false_iff_ne.mpr c52
                    have c52b1 : (t840 != 0) = true := bne_iff_ne.mpr c52
                    exact absurd (Option.some.inj H) (by subst hT; decide)
                · rw [if_neg c51] at H
                  have c51b0 : decide (0 < t866) = false := decide_eq_false c51
                  clear c51
                  replace H := Option.bind_eq_some_iff.mp H
                  obtain ⟨t867, A590, H⟩ := H
                  replace H : (if (t867.length : Int) > 0 then (if 0 < (t867.length : Int) then (if t847 = true then (if t840 = (wrap64 (-(wrap64 (rd t867 0)))) then (some (t841 == x12_25)) else (some false)) else (if t840 = (wrap64 (rd t867 0)) then (some (t841 == x12_25)) else (some false))) else (none)) else (if t847 = true then (if t840 = (-0) then (some (t841 == x12_25)) else (some false)) else (if t840 = 0 then (some (t841 == x12_25)) else (some false)))) = some r := H
                  have A59 := Aside0.mk A590
                  clear A590
                  by_cases c60 : (t867.length : Int) > 0
                  · rw [if_pos c60] at H
                    have c60b0 : decide (0 < (t867.length : Int)) = true := decide_eq_true c60
                    have c60b1 : decide (0 < t867.length) = true := decide_eq_true (by omega)
                    clear c60
                    by_cases c61 : 0 < (t867.length : Int)
                    · rw [if_pos c61] at H
                      have c61b0 : decide (0 < (t867.length : Int)) = true := decide_eq_true c61
                      have c61b1 : decide (0 < t867.length) = true := decide_eq_true (by omega)
                      clear c61
                      by_cases c62 : t847 = true
                      · subst c62
                        have H1 : (if t840 = (wrap64 (-(wrap64 (rd t867 0)))) then (some (t841 == x12_25)) else (some false)) = some r := by rw [if_pos rfl] at H; exact H
                        clear H
                        have H := H1
                        clear H1
                        by_cases c63 : t840 = (wrap64 (-(wrap64 (rd t867 0))))
                        · rw [if_pos c63] at H
                          have c63b0 : (t840 == (wrap64 (-(wrap64 (rd t867 0))))) = true := beq_iff_eq.mpr c63
                          have c63b1 : (t840 != (wrap64 (-(wrap64 (rd t867 0))))) = false := bne_eq_false_iff_eq.mpr c63
                          clear c63
                          obtain rfl := Option.some.inj H
                          go_wp2_with (first | ((with_reducible refine gate_dst (N := 103) rfl ?_); refine Kd.R_lit (Kd.int .i64) _ 3 ?hg (N := 103) ?hd (xs := ([1] : List Int)) (inner := [.int .i64 1]) (ok := fun _ => True) (okp := fun _ => True) ?hr ?hp (fun _ hk => hk) trivial (Below.refl _ _) (Nat.le_refl _) (by simp) ?_; (case hd => rfl); (case hg => rfl); (case hr => first | (go_simp; done) | (go_simp; rfl)); (case hp => exact (Reps.one (show Kd.M (Kd.int .i64) _ _ _ 1 [.int .i64 1] from rfl) (Reps.none _ _))); intro v861 w64 ho65 hb hg_ hnew_; clear hg_ hnew_; (first | rw [← Ny860.out] at ho65 | (simp only [Int.reduceToNat] at ho65; rw [← Ny860.out] at ho65)); have n0_ := Aside0.mk (Kd.R_elder' (by (with_reducible repeat (first | apply Kd.R_alloc | apply Kd.R_drewN | apply Kd.R_drew)); exact HO_10.out) (Kd.R_base ho65) hb); have n1_ := Aside0.mk (Kd.R_lower (Kd.R_new' ho65 (Kd.R_lt (by (with_reducible repeat (first | apply Kd.R_alloc | apply Kd.R_drewN | apply Kd.R_drew)); exact HO_10.out))) (below_size (by repeat (first | (with_reducible first | exact HB.out | apply below_alloc | apply pw_below_drewN | apply below_drew1) | exact HB.out)))); have n2_ := Aside0.mk (below_step (by repeat (first | (with_reducible first | exact HB.out | apply below_alloc | apply pw_below_drewN | apply below_drew1) | exact HB.out)) hb); clear HO_10; clear HB; have HO_10 := n0_; have HO862 := n1_; have HB := n2_; clear n0_ n1_ n2_; clear hb ho65; obtain ⟨Ao66, co66, eo66⟩ := Kd.R_slice HO862.out; subst eo66) | ((with_reducible refine gate_callee (f := 49) rfl ?_); refine goesL_ (some 104) rfl rfl Try.func49 (by kernel_rfl) rfl #[.slice Ao66 y860.length co66, .int .i64 62] rfl (by (try simp only [List.map_toArray, List.map_cons, List.map_nil]); first | done | rfl | (simp only [List.length_drop, List.length_take]; rfl)) ?_; (with_reducible refine (vernierref01_Shl.calls kj33 _ _ y860 62 t863 _ ?side1 ?side2 A49.out).mono ?_); (case side1 => repeat (first | exact (Kd.R_reads' HO862.out).2.2 | (with_reducible refine Kd.C_alloc ?_ _) | (with_reducible refine Kd.C_drewN ?_ _) | (with_reducible refine Kd.C_drew ?_))); (case side2 => exact (Kd.R_reads' HO862.out).2.1); rintro e w67 ⟨v864, rfl, ho0, hb⟩; refine ⟨_, rfl, ?_⟩; have n0_ := Aside0.mk (Kd.R_elder' (by (with_reducible repeat (first | apply Kd.R_alloc | apply Kd.R_drewN | apply Kd.R_drew)); exact HO_10.out) (Kd.R_base ho0) hb); have n1_ := Aside0.mk (Kd.R_elder' (by (with_reducible repeat (first | apply Kd.R_alloc | apply Kd.R_drewN | apply Kd.R_drew)); exact HO862.out) (Kd.R_base ho0) hb); have n2_ := Aside0.mk (Kd.R_lower (Kd.R_new' (Kd.R_new' ho0 (Kd.R_lt (by (with_reducible repeat (first | apply Kd.R_alloc | apply Kd.R_drewN | apply Kd.R_drew)); exact HO_10.out))) (Kd.R_lt (by (with_reducible repeat (first | apply Kd.R_alloc | apply Kd.R_drewN | apply Kd.R_drew)); exact HO862.out))) (below_size (by repeat (first | (with_reducible first | exact HB.out | apply below_alloc | apply pw_below_drewN | apply below_drew1) | exact HB.out)))); have n3_ := Aside0.mk (below_step (by repeat (first | (with_reducible first | exact HB.out | apply below_alloc | apply pw_below_drewN | apply below_drew1) | exact HB.out)) hb); clear HO_10; clear HO862; clear HB; have HO_10 := n0_; have HO862 := n1_; have HO865 := n2_; have HB := n3_; clear n0_ n1_ n2_ n3_; (try clear hb); (try clear hb2); (try clear hk); (try clear hi); (try clear ho0); obtain ⟨Ao68, co68, eo68⟩ := Kd.R_slice HO_10.out; subst eo68; obtain ⟨Ao69, co69, eo69⟩ := Kd.R_slice HO865.out; subst eo69) | ((with_reducible refine gate_callee (f := 19) rfl ?_); refine goesL_ (some 105) rfl rfl Try.func19 (by kernel_rfl) rfl #[.slice Ao68 t843.length co68, .slice Ao69 t863.length co69] rfl (by (try simp only [List.map_toArray, List.map_cons, List.map_nil]); first | done | rfl | (simp only [List.length_drop, List.length_take]; rfl)) ?_; (with_reducible refine (vernierref01_Cmp.calls kj33 _ _ t843 _ _ t863 t866 _ ?side1 ?side2 ?side3 ?side4 A50.out).mono ?_); (case side1 => repeat (first | exact (Kd.R_reads' HO_10.out).2.2 | (with_reducible refine Kd.C_alloc ?_ _) | (with_reducible refine Kd.C_drewN ?_ _) | (with_reducible refine Kd.C_drew ?_))); (case side2 => exact (Kd.R_reads' HO_10.out).2.1); (case side3 => repeat (first | exact (Kd.R_reads' HO865.out).2.2 | (with_reducible refine Kd.C_alloc ?_ _) | (with_reducible refine Kd.C_drewN ?_ _) | (with_reducible refine Kd.C_drew ?_))); (case side4 => exact (Kd.R_reads' HO865.out).2.1); rintro e w' ⟨rfl, ⟨nd, rfl⟩⟩; refine ⟨_, rfl, ?_⟩) | ((with_reducible refine gate_callee (f := 20) rfl ?_); refine goesL_ (some 114) rfl rfl Try.func20 (by kernel_rfl) rfl #[.slice Ao68 t843.length co68] rfl (by (try simp only [List.map_toArray, List.map_cons, List.map_nil]); first | done | rfl | (simp only [List.length_drop, List.length_take]; rfl)) ?_; (with_reducible refine (vernierref01_Limbs.calls kj33 _ _ t843 t867 _ ?side1 ?side2 A59.out).mono ?_); (case side1 => repeat (first | exact (Kd.R_reads' HO_10.out).2.2 | (with_reducible refine Kd.C_alloc ?_ _) | (with_reducible refine Kd.C_drewN ?_ _) | (with_reducible refine Kd.C_drew ?_))); (case side2 => exact (Kd.R_reads' HO_10.out).2.1); rintro e w70 ⟨v868, rfl, ho0, hb⟩; refine ⟨_, rfl, ?_⟩; have n0_ := Aside0.mk (Kd.R_below (by (with_reducible repeat (first | apply Kd.R_alloc | apply Kd.R_drewN | apply Kd.R_drew)); exact HO_10.out) hb); have n1_ := Aside0.mk (Kd.R_below (by (with_reducible repeat (first | apply Kd.R_alloc | apply Kd.R_drewN | apply Kd.R_drew)); exact HO862.out) hb); have n2_ := Aside0.mk (Kd.R_below (by (with_reducible repeat (first | apply Kd.R_alloc | apply Kd.R_drewN | apply Kd.R_drew)); exact HO865.out) hb); have n3_ := Aside0.mk (Kd.R_lower ho0 (below_size (by repeat (first | (with_reducible first | exact HB.out | apply below_alloc | apply pw_below_drewN | apply below_drew1) | exact HB.out)))); have n4_ := Aside0.mk (below_step (by repeat (first | (with_reducible first | exact HB.out | apply below_alloc | apply pw_below_drewN | apply below_drew1) | exact HB.out)) hb); clear HO_10; clear HO862; clear HO865; clear HB; have HO_10 := n0_; have HO862 := n1_; have HO865 := n2_; have HO869 := n3_; have HB := n4_; clear n0_ n1_ n2_ n3_ n4_; (try clear hb); (try clear hb2); (try clear hk); (try clear hi); (try clear ho0); obtain ⟨Ao71, co71, eo71⟩ := Kd.R_slice HO869.out; subst eo71; have p870 : 0 ≤ (0 : Int) := (by omega); have q870 : 0 < (t867.length : Int) := of_decide_eq_true (by first | (with_reducible assumption) | assumption); obtain ⟨ad870, e870, hx870_0⟩ := Kd.at_int (Kd.R_reads' HO869.out).2.2 0 p870 q870; cases e870; have qi870 : (0 < t867.length) = True := eq_true (by omega); (try rw [show ((0 : Int)).toNat = 0 from rfl] at hx870_0); (try rw [Addr.add_zero'] at hx870_0); replace p870 := eq_true p870; replace q870 := eq_true q870))
                          go_ret
                          exact ⟨by first | rfl | (simp [errW_none, errW_some] <;> rfl) | (simp only [← hji33]; first | rfl | (simp [errW_none, errW_some] <;> rfl)) | (simp [*, errW_none, errW_some] <;> rfl), by repeat (first | (with_reducible first | exact HB.out | apply below_alloc | apply pw_below_drewN | apply below_drew1) | exact HB.out)⟩
                        · rw [if_neg c63] at H
                          have c63b0 : (t840 == (wrap64 (-(wrap64 (rd t867 0))))) = false := beq_eq_false_iff_ne.mpr c63
                          have c63b1 : (t840 != (wrap64 (-(wrap64 (rd t867 0))))) = true := bne_iff_ne.mpr c63
                          exact absurd (Option.some.inj H) (by subst hT; decide)
                      · replace c62 := Bool.eq_false_iff.mpr c62
                        subst c62
                        have H1 : (if t840 = (wrap64 (rd t867 0)) then (some (t841 == x12_25)) else (some false)) = some r := by rw [if_neg (show ¬ (false = true) by decide)] at H; exact H
                        clear H
                        have H := H1
                        clear H1
                        by_cases c72 : t840 = (wrap64 (rd t867 0))
                        · rw [if_pos c72] at H
                          have c72b0 : (t840 == (wrap64 (rd t867 0))) = true := beq_iff_eq.mpr c72
                          have c72b1 : (t840 != (wrap64 (rd t867 0))) = false := bne_eq_false_iff_eq.mpr c72
                          clear c72
                          obtain rfl := Option.some.inj H
                          go_wp2_with (first | ((with_reducible refine gate_dst (N := 103) rfl ?_); refine Kd.R_lit (Kd.int .i64) _ 3 ?hg (N := 103) ?hd (xs := ([1] : List Int)) (inner := [.int .i64 1]) (ok := fun _ => True) (okp := fun _ => True) ?hr ?hp (fun _ hk => hk) trivial (Below.refl _ _) (Nat.le_refl _) (by simp) ?_; (case hd => rfl); (case hg => rfl); (case hr => first | (go_simp; done) | (go_simp; rfl)); (case hp => exact (Reps.one (show Kd.M (Kd.int .i64) _ _ _ 1 [.int .i64 1] from rfl) (Reps.none _ _))); intro v861 w73 ho74 hb hg_ hnew_; clear hg_ hnew_; (first | rw [← Ny860.out] at ho74 | (simp only [Int.reduceToNat] at ho74; rw [← Ny860.out] at ho74)); have n0_ := Aside0.mk (Kd.R_elder' (by (with_reducible repeat (first | apply Kd.R_alloc | apply Kd.R_drewN | apply Kd.R_drew)); exact HO_10.out) (Kd.R_base ho74) hb); have n1_ := Aside0.mk (Kd.R_lower (Kd.R_new' ho74 (Kd.R_lt (by (with_reducible repeat (first | apply Kd.R_alloc | apply Kd.R_drewN | apply Kd.R_drew)); exact HO_10.out))) (below_size (by repeat (first | (with_reducible first | exact HB.out | apply below_alloc | apply pw_below_drewN | apply below_drew1) | exact HB.out)))); have n2_ := Aside0.mk (below_step (by repeat (first | (with_reducible first | exact HB.out | apply below_alloc | apply pw_below_drewN | apply below_drew1) | exact HB.out)) hb); clear HO_10; clear HB; have HO_10 := n0_; have HO862 := n1_; have HB := n2_; clear n0_ n1_ n2_; clear hb ho74; obtain ⟨Ao75, co75, eo75⟩ := Kd.R_slice HO862.out; subst eo75) | ((with_reducible refine gate_callee (f := 49) rfl ?_); refine goesL_ (some 104) rfl rfl Try.func49 (by kernel_rfl) rfl #[.slice Ao75 y860.length co75, .int .i64 62] rfl (by (try simp only [List.map_toArray, List.map_cons, List.map_nil]); first | done | rfl | (simp only [List.length_drop, List.length_take]; rfl)) ?_; (with_reducible refine (vernierref01_Shl.calls kj33 _ _ y860 62 t863 _ ?side1 ?side2 A49.out).mono ?_); (case side1 => repeat (first | exact (Kd.R_reads' HO862.out).2.2 | (with_reducible refine Kd.C_alloc ?_ _) | (with_reducible refine Kd.C_drewN ?_ _) | (with_reducible refine Kd.C_drew ?_))); (case side2 => exact (Kd.R_reads' HO862.out).2.1); rintro e w76 ⟨v864, rfl, ho0, hb⟩; refine ⟨_, rfl, ?_⟩; have n0_ := Aside0.mk (Kd.R_elder' (by (with_reducible repeat (first | apply Kd.R_alloc | apply Kd.R_drewN | apply Kd.R_drew)); exact HO_10.out) (Kd.R_base ho0) hb); have n1_ := Aside0.mk (Kd.R_elder' (by (with_reducible repeat (first | apply Kd.R_alloc | apply Kd.R_drewN | apply Kd.R_drew)); exact HO862.out) (Kd.R_base ho0) hb); have n2_ := Aside0.mk (Kd.R_lower (Kd.R_new' (Kd.R_new' ho0 (Kd.R_lt (by (with_reducible repeat (first | apply Kd.R_alloc | apply Kd.R_drewN | apply Kd.R_drew)); exact HO_10.out))) (Kd.R_lt (by (with_reducible repeat (first | apply Kd.R_alloc | apply Kd.R_drewN | apply Kd.R_drew)); exact HO862.out))) (below_size (by repeat (first | (with_reducible first | exact HB.out | apply below_alloc | apply pw_below_drewN | apply below_drew1) | exact HB.out)))); have n3_ := Aside0.mk (below_step (by repeat (first | (with_reducible first | exact HB.out | apply below_alloc | apply pw_below_drewN | apply below_drew1) | exact HB.out)) hb); clear HO_10; clear HO862; clear HB; have HO_10 := n0_; have HO862 := n1_; have HO865 := n2_; have HB := n3_; clear n0_ n1_ n2_ n3_; (try clear hb); (try clear hb2); (try clear hk); (try clear hi); (try clear ho0); obtain ⟨Ao77, co77, eo77⟩ := Kd.R_slice HO_10.out; subst eo77; obtain ⟨Ao78, co78, eo78⟩ := Kd.R_slice HO865.out; subst eo78) | ((with_reducible refine gate_callee (f := 19) rfl ?_); refine goesL_ (some 105) rfl rfl Try.func19 (by kernel_rfl) rfl #[.slice Ao77 t843.length co77, .slice Ao78 t863.length co78] rfl (by (try simp only [List.map_toArray, List.map_cons, List.map_nil]); first | done | rfl | (simp only [List.length_drop, List.length_take]; rfl)) ?_; (with_reducible refine (vernierref01_Cmp.calls kj33 _ _ t843 _ _ t863 t866 _ ?side1 ?side2 ?side3 ?side4 A50.out).mono ?_); (case side1 => repeat (first | exact (Kd.R_reads' HO_10.out).2.2 | (with_reducible refine Kd.C_alloc ?_ _) | (with_reducible refine Kd.C_drewN ?_ _) | (with_reducible refine Kd.C_drew ?_))); (case side2 => exact (Kd.R_reads' HO_10.out).2.1); (case side3 => repeat (first | exact (Kd.R_reads' HO865.out).2.2 | (with_reducible refine Kd.C_alloc ?_ _) | (with_reducible refine Kd.C_drewN ?_ _) | (with_reducible refine Kd.C_drew ?_))); (case side4 => exact (Kd.R_reads' HO865.out).2.1); rintro e w' ⟨rfl, ⟨nd, rfl⟩⟩; refine ⟨_, rfl, ?_⟩) | ((with_reducible refine gate_callee (f := 20) rfl ?_); refine goesL_ (some 114) rfl rfl Try.func20 (by kernel_rfl) rfl #[.slice Ao77 t843.length co77] rfl (by (try simp only [List.map_toArray, List.map_cons, List.map_nil]); first | done | rfl | (simp only [List.length_drop, List.length_take]; rfl)) ?_; (with_reducible refine (vernierref01_Limbs.calls kj33 _ _ t843 t867 _ ?side1 ?side2 A59.out).mono ?_); (case side1 => repeat (first | exact (Kd.R_reads' HO_10.out).2.2 | (with_reducible refine Kd.C_alloc ?_ _) | (with_reducible refine Kd.C_drewN ?_ _) | (with_reducible refine Kd.C_drew ?_))); (case side2 => exact (Kd.R_reads' HO_10.out).2.1); rintro e w79 ⟨v868, rfl, ho0, hb⟩; refine ⟨_, rfl, ?_⟩; have n0_ := Aside0.mk (Kd.R_below (by (with_reducible repeat (first | apply Kd.R_alloc | apply Kd.R_drewN | apply Kd.R_drew)); exact HO_10.out) hb); have n1_ := Aside0.mk (Kd.R_below (by (with_reducible repeat (first | apply Kd.R_alloc | apply Kd.R_drewN | apply Kd.R_drew)); exact HO862.out) hb); have n2_ := Aside0.mk (Kd.R_below (by (with_reducible repeat (first | apply Kd.R_alloc | apply Kd.R_drewN | apply Kd.R_drew)); exact HO865.out) hb); have n3_ := Aside0.mk (Kd.R_lower ho0 (below_size (by repeat (first | (with_reducible first | exact HB.out | apply below_alloc | apply pw_below_drewN | apply below_drew1) | exact HB.out)))); have n4_ := Aside0.mk (below_step (by repeat (first | (with_reducible first | exact HB.out | apply below_alloc | apply pw_below_drewN | apply below_drew1) | exact HB.out)) hb); clear HO_10; clear HO862; clear HO865; clear HB; have HO_10 := n0_; have HO862 := n1_; have HO865 := n2_; have HO869 := n3_; have HB := n4_; clear n0_ n1_ n2_ n3_ n4_; (try clear hb); (try clear hb2); (try clear hk); (try clear hi); (try clear ho0); obtain ⟨Ao80, co80, eo80⟩ := Kd.R_slice HO869.out; subst eo80; have p870 : 0 ≤ (0 : Int) := (by omega); have q870 : 0 < (t867.length : Int) := of_decide_eq_true (by first | (with_reducible assumption) | assumption); obtain ⟨ad870, e870, hx870_0⟩ := Kd.at_int (Kd.R_reads' HO869.out).2.2 0 p870 q870; cases e870; have qi870 : (0 < t867.length) = True := eq_true (by omega); (try rw [show ((0 : Int)).toNat = 0 from rfl] at hx870_0); (try rw [Addr.add_zero'] at hx870_0); replace p870 := eq_true p870; replace q870 := eq_true q870))
                          go_ret
                          exact ⟨by first | rfl | (simp [errW_none, errW_some] <;> rfl) | (simp only [← hji33]; first | rfl | (simp [errW_none, errW_some] <;> rfl)) | (simp [*, errW_none, errW_some] <;> rfl), by repeat (first | (with_reducible first | exact HB.out | apply below_alloc | apply pw_below_drewN | apply below_drew1) | exact HB.out)⟩
                        · rw [if_neg c72] at H
                          have c72b0 : (t840 == (wrap64 (rd t867 0))) = false := beq_eq_false_iff_ne.mpr c72
                          have c72b1 : (t840 != (wrap64 (rd t867 0))) = true := bne_iff_ne.mpr c72
                          exact absurd (Option.some.inj H) (by subst hT; decide)
                    · rw [if_neg c61] at H
                      exact absurd H (by simp)
                  · rw [if_neg c60] at H
                    have c60b0 : decide (0 < (t867.length : Int)) = false := decide_eq_false c60
                    have c60b1 : decide (0 < t867.length) = false := decide_eq_false (by omega)
                    clear c60
                    by_cases c81 : t847 = true
                    · subst c81
                      have H1 : (if t840 = (-0) then (some (t841 == x12_25)) else (some false)) = some r := by rw [if_pos rfl] at H; exact H
                      clear H
                      have H := H1
                      clear H1
                      by_cases c82 : t840 = (-0)
                      · rw [if_pos c82] at H
                        have c82b0 : (t840 == (-0)) = true := beq_iff_eq.mpr c82
                        have c82b6 : (t840 == 0) = true := c82b0
                        have c82b1 : (t840 != (-0)) = false := bne_eq_false_iff_eq.mpr c82
                        clear c82
                        obtain rfl := Option.some.inj H
                        go_wp2_with (first | ((with_reducible refine gate_dst (N := 103) rfl ?_); refine Kd.R_lit (Kd.int .i64) _ 3 ?hg (N := 103) ?hd (xs := ([1] : List Int)) (inner := [.int .i64 1]) (ok := fun _ => True) (okp := fun _ => True) ?hr ?hp (fun _ hk => hk) trivial (Below.refl _ _) (Nat.le_refl _) (by simp) ?_; (case hd => rfl); (case hg => rfl); (case hr => first | (go_simp; done) | (go_simp; rfl)); (case hp => exact (Reps.one (show Kd.M (Kd.int .i64) _ _ _ 1 [.int .i64 1] from rfl) (Reps.none _ _))); intro v861 w83 ho84 hb hg_ hnew_; clear hg_ hnew_; (first | rw [← Ny860.out] at ho84 | (simp only [Int.reduceToNat] at ho84; rw [← Ny860.out] at ho84)); have n0_ := Aside0.mk (Kd.R_elder' (by (with_reducible repeat (first | apply Kd.R_alloc | apply Kd.R_drewN | apply Kd.R_drew)); exact HO_10.out) (Kd.R_base ho84) hb); have n1_ := Aside0.mk (Kd.R_lower (Kd.R_new' ho84 (Kd.R_lt (by (with_reducible repeat (first | apply Kd.R_alloc | apply Kd.R_drewN | apply Kd.R_drew)); exact HO_10.out))) (below_size (by repeat (first | (with_reducible first | exact HB.out | apply below_alloc | apply pw_below_drewN | apply below_drew1) | exact HB.out)))); have n2_ := Aside0.mk (below_step (by repeat (first | (with_reducible first | exact HB.out | apply below_alloc | apply pw_below_drewN | apply below_drew1) | exact HB.out)) hb); clear HO_10; clear HB; have HO_10 := n0_; have HO862 := n1_; have HB := n2_; clear n0_ n1_ n2_; clear hb ho84; obtain ⟨Ao85, co85, eo85⟩ := Kd.R_slice HO862.out; subst eo85) | ((with_reducible refine gate_callee (f := 49) rfl ?_); refine goesL_ (some 104) rfl rfl Try.func49 (by kernel_rfl) rfl #[.slice Ao85 y860.length co85, .int .i64 62] rfl (by (try simp only [List.map_toArray, List.map_cons, List.map_nil]); first | done | rfl | (simp only [List.length_drop, List.length_take]; rfl)) ?_; (with_reducible refine (vernierref01_Shl.calls kj33 _ _ y860 62 t863 _ ?side1 ?side2 A49.out).mono ?_); (case side1 => repeat (first | exact (Kd.R_reads' HO862.out).2.2 | (with_reducible refine Kd.C_alloc ?_ _) | (with_reducible refine Kd.C_drewN ?_ _) | (with_reducible refine Kd.C_drew ?_))); (case side2 => exact (Kd.R_reads' HO862.out).2.1); rintro e w86 ⟨v864, rfl, ho0, hb⟩; refine ⟨_, rfl, ?_⟩; have n0_ := Aside0.mk (Kd.R_elder' (by (with_reducible repeat (first | apply Kd.R_alloc | apply Kd.R_drewN | apply Kd.R_drew)); exact HO_10.out) (Kd.R_base ho0) hb); have n1_ := Aside0.mk (Kd.R_elder' (by (with_reducible repeat (first | apply Kd.R_alloc | apply Kd.R_drewN | apply Kd.R_drew)); exact HO862.out) (Kd.R_base ho0) hb); have n2_ := Aside0.mk (Kd.R_lower (Kd.R_new' (Kd.R_new' ho0 (Kd.R_lt (by (with_reducible repeat (first | apply Kd.R_alloc | apply Kd.R_drewN | apply Kd.R_drew)); exact HO_10.out))) (Kd.R_lt (by (with_reducible repeat (first | apply Kd.R_alloc | apply Kd.R_drewN | apply Kd.R_drew)); exact HO862.out))) (below_size (by repeat (first | (with_reducible first | exact HB.out | apply below_alloc | apply pw_below_drewN | apply below_drew1) | exact HB.out)))); have n3_ := Aside0.mk (below_step (by repeat (first | (with_reducible first | exact HB.out | apply below_alloc | apply pw_below_drewN | apply below_drew1) | exact HB.out)) hb); clear HO_10; clear HO862; clear HB; have HO_10 := n0_; have HO862 := n1_; have HO865 := n2_; have HB := n3_; clear n0_ n1_ n2_ n3_; (try clear hb); (try clear hb2); (try clear hk); (try clear hi); (try clear ho0); obtain ⟨Ao87, co87, eo87⟩ := Kd.R_slice HO_10.out; subst eo87; obtain ⟨Ao88, co88, eo88⟩ := Kd.R_slice HO865.out; subst eo88) | ((with_reducible refine gate_callee (f := 19) rfl ?_); refine goesL_ (some 105) rfl rfl Try.func19 (by kernel_rfl) rfl #[.slice Ao87 t843.length co87, .slice Ao88 t863.length co88] rfl (by (try simp only [List.map_toArray, List.map_cons, List.map_nil]); first | done | rfl | (simp only [List.length_drop, List.length_take]; rfl)) ?_; (with_reducible refine (vernierref01_Cmp.calls kj33 _ _ t843 _ _ t863 t866 _ ?side1 ?side2 ?side3 ?side4 A50.out).mono ?_); (case side1 => repeat (first | exact (Kd.R_reads' HO_10.out).2.2 | (with_reducible refine Kd.C_alloc ?_ _) | (with_reducible refine Kd.C_drewN ?_ _) | (with_reducible refine Kd.C_drew ?_))); (case side2 => exact (Kd.R_reads' HO_10.out).2.1); (case side3 => repeat (first | exact (Kd.R_reads' HO865.out).2.2 | (with_reducible refine Kd.C_alloc ?_ _) | (with_reducible refine Kd.C_drewN ?_ _) | (with_reducible refine Kd.C_drew ?_))); (case side4 => exact (Kd.R_reads' HO865.out).2.1); rintro e w' ⟨rfl, ⟨nd, rfl⟩⟩; refine ⟨_, rfl, ?_⟩) | ((with_reducible refine gate_callee (f := 20) rfl ?_); refine goesL_ (some 114) rfl rfl Try.func20 (by kernel_rfl) rfl #[.slice Ao87 t843.length co87] rfl (by (try simp only [List.map_toArray, List.map_cons, List.map_nil]); first | done | rfl | (simp only [List.length_drop, List.length_take]; rfl)) ?_; (with_reducible refine (vernierref01_Limbs.calls kj33 _ _ t843 t867 _ ?side1 ?side2 A59.out).mono ?_); (case side1 => repeat (first | exact (Kd.R_reads' HO_10.out).2.2 | (with_reducible refine Kd.C_alloc ?_ _) | (with_reducible refine Kd.C_drewN ?_ _) | (with_reducible refine Kd.C_drew ?_))); (case side2 => exact (Kd.R_reads' HO_10.out).2.1); rintro e w89 ⟨v868, rfl, ho0, hb⟩; refine ⟨_, rfl, ?_⟩; have n0_ := Aside0.mk (Kd.R_below (by (with_reducible repeat (first | apply Kd.R_alloc | apply Kd.R_drewN | apply Kd.R_drew)); exact HO_10.out) hb); have n1_ := Aside0.mk (Kd.R_below (by (with_reducible repeat (first | apply Kd.R_alloc | apply Kd.R_drewN | apply Kd.R_drew)); exact HO862.out) hb); have n2_ := Aside0.mk (Kd.R_below (by (with_reducible repeat (first | apply Kd.R_alloc | apply Kd.R_drewN | apply Kd.R_drew)); exact HO865.out) hb); have n3_ := Aside0.mk (Kd.R_lower ho0 (below_size (by repeat (first | (with_reducible first | exact HB.out | apply below_alloc | apply pw_below_drewN | apply below_drew1) | exact HB.out)))); have n4_ := Aside0.mk (below_step (by repeat (first | (with_reducible first | exact HB.out | apply below_alloc | apply pw_below_drewN | apply below_drew1) | exact HB.out)) hb); clear HO_10; clear HO862; clear HO865; clear HB; have HO_10 := n0_; have HO862 := n1_; have HO865 := n2_; have HO869 := n3_; have HB := n4_; clear n0_ n1_ n2_ n3_ n4_; (try clear hb); (try clear hb2); (try clear hk); (try clear hi); (try clear ho0); obtain ⟨Ao90, co90, eo90⟩ := Kd.R_slice HO869.out; subst eo90))
                        go_ret
                        exact ⟨by first | rfl | (simp [errW_none, errW_some] <;> rfl) | (simp only [← hji33]; first | rfl | (simp [errW_none, errW_some] <;> rfl)) | (simp [*, errW_none, errW_some] <;> rfl), by repeat (first | (with_reducible first | exact HB.out | apply below_alloc | apply pw_below_drewN | apply below_drew1) | exact HB.out)⟩
                      · rw [if_neg c82] at H
                        have c82b0 : (t840 == (-0)) = false := beq_eq_false_iff_ne.mpr c82
                        have c82b6 : (t840 == 0) = false := c82b0
                        have c82b1 : (t840 != (-0)) = true := bne_iff_ne.mpr c82
                        exact absurd (Option.some.inj H) (by subst hT; decide)
                    · replace c81 := Bool.eq_false_iff.mpr c81
                      subst c81
                      have H1 : (if t840 = 0 then (some (t841 == x12_25)) else (some false)) = some r := by rw [if_neg (show ¬ (false = true) by decide)] at H; exact H
                      clear H
                      have H := H1
                      clear H1
                      by_cases c91 : t840 = 0
                      · rw [if_pos c91] at H
                        have c91b0 : (t840 == 0) = true := beq_iff_eq.mpr c91
                        have c91b1 : (t840 != 0) = false := bne_eq_false_iff_eq.mpr c91
                        clear c91
                        obtain rfl := Option.some.inj H
                        go_wp2_with (first | ((with_reducible refine gate_dst (N := 103) rfl ?_); refine Kd.R_lit (Kd.int .i64) _ 3 ?hg (N := 103) ?hd (xs := ([1] : List Int)) (inner := [.int .i64 1]) (ok := fun _ => True) (okp := fun _ => True) ?hr ?hp (fun _ hk => hk) trivial (Below.refl _ _) (Nat.le_refl _) (by simp) ?_; (case hd => rfl); (case hg => rfl); (case hr => first | (go_simp; done) | (go_simp; rfl)); (case hp => exact (Reps.one (show Kd.M (Kd.int .i64) _ _ _ 1 [.int .i64 1] from rfl) (Reps.none _ _))); intro v861 w92 ho93 hb hg_ hnew_; clear hg_ hnew_; (first | rw [← Ny860.out] at ho93 | (simp only [Int.reduceToNat] at ho93; rw [← Ny860.out] at ho93)); have n0_ := Aside0.mk (Kd.R_elder' (by (with_reducible repeat (first | apply Kd.R_alloc | apply Kd.R_drewN | apply Kd.R_drew)); exact HO_10.out) (Kd.R_base ho93) hb); have n1_ := Aside0.mk (Kd.R_lower (Kd.R_new' ho93 (Kd.R_lt (by (with_reducible repeat (first | apply Kd.R_alloc | apply Kd.R_drewN | apply Kd.R_drew)); exact HO_10.out))) (below_size (by repeat (first | (with_reducible first | exact HB.out | apply below_alloc | apply pw_below_drewN | apply below_drew1) | exact HB.out)))); have n2_ := Aside0.mk (below_step (by repeat (first | (with_reducible first | exact HB.out | apply below_alloc | apply pw_below_drewN | apply below_drew1) | exact HB.out)) hb); clear HO_10; clear HB; have HO_10 := n0_; have HO862 := n1_; have HB := n2_; clear n0_ n1_ n2_; clear hb ho93; obtain ⟨Ao94, co94, eo94⟩ := Kd.R_slice HO862.out; subst eo94) | ((with_reducible refine gate_callee (f := 49) rfl ?_); refine goesL_ (some 104) rfl rfl Try.func49 (by kernel_rfl) rfl #[.slice Ao94 y860.length co94, .int .i64 62] rfl (by (try simp only [List.map_toArray, List.map_cons, List.map_nil]); first | done | rfl | (simp only [List.length_drop, List.length_take]; rfl)) ?_; (with_reducible refine (vernierref01_Shl.calls kj33 _ _ y860 62 t863 _ ?side1 ?side2 A49.out).mono ?_); (case side1 => repeat (first | exact (Kd.R_reads' HO862.out).2.2 | (with_reducible refine Kd.C_alloc ?_ _) | (with_reducible refine Kd.C_drewN ?_ _) | (with_reducible refine Kd.C_drew ?_))); (case side2 => exact (Kd.R_reads' HO862.out).2.1); rintro e w95 ⟨v864, rfl, ho0, hb⟩; refine ⟨_, rfl, ?_⟩; have n0_ := Aside0.mk (Kd.R_elder' (by (with_reducible repeat (first | apply Kd.R_alloc | apply Kd.R_drewN | apply Kd.R_drew)); exact HO_10.out) (Kd.R_base ho0) hb); have n1_ := Aside0.mk (Kd.R_elder' (by (with_reducible repeat (first | apply Kd.R_alloc | apply Kd.R_drewN | apply Kd.R_drew)); exact HO862.out) (Kd.R_base ho0) hb); have n2_ := Aside0.mk (Kd.R_lower (Kd.R_new' (Kd.R_new' ho0 (Kd.R_lt (by (with_reducible repeat (first | apply Kd.R_alloc | apply Kd.R_drewN | apply Kd.R_drew)); exact HO_10.out))) (Kd.R_lt (by (with_reducible repeat (first | apply Kd.R_alloc | apply Kd.R_drewN | apply Kd.R_drew)); exact HO862.out))) (below_size (by repeat (first | (with_reducible first | exact HB.out | apply below_alloc | apply pw_below_drewN | apply below_drew1) | exact HB.out)))); have n3_ := Aside0.mk (below_step (by repeat (first | (with_reducible first | exact HB.out | apply below_alloc | apply pw_below_drewN | apply below_drew1) | exact HB.out)) hb); clear HO_10; clear HO862; clear HB; have HO_10 := n0_; have HO862 := n1_; have HO865 := n2_; have HB := n3_; clear n0_ n1_ n2_ n3_; (try clear hb); (try clear hb2); (try clear hk); (try clear hi); (try clear ho0); obtain ⟨Ao96, co96, eo96⟩ := Kd.R_slice HO_10.out; subst eo96; obtain ⟨Ao97, co97, eo97⟩ := Kd.R_slice HO865.out; subst eo97) | ((with_reducible refine gate_callee (f := 19) rfl ?_); refine goesL_ (some 105) rfl rfl Try.func19 (by kernel_rfl) rfl #[.slice Ao96 t843.length co96, .slice Ao97 t863.length co97] rfl (by (try simp only [List.map_toArray, List.map_cons, List.map_nil]); first | done | rfl | (simp only [List.length_drop, List.length_take]; rfl)) ?_; (with_reducible refine (vernierref01_Cmp.calls kj33 _ _ t843 _ _ t863 t866 _ ?side1 ?side2 ?side3 ?side4 A50.out).mono ?_); (case side1 => repeat (first | exact (Kd.R_reads' HO_10.out).2.2 | (with_reducible refine Kd.C_alloc ?_ _) | (with_reducible refine Kd.C_drewN ?_ _) | (with_reducible refine Kd.C_drew ?_))); (case side2 => exact (Kd.R_reads' HO_10.out).2.1); (case side3 => repeat (first | exact (Kd.R_reads' HO865.out).2.2 | (with_reducible refine Kd.C_alloc ?_ _) | (with_reducible refine Kd.C_drewN ?_ _) | (with_reducible refine Kd.C_drew ?_))); (case side4 => exact (Kd.R_reads' HO865.out).2.1); rintro e w' ⟨rfl, ⟨nd, rfl⟩⟩; refine ⟨_, rfl, ?_⟩) | ((with_reducible refine gate_callee (f := 20) rfl ?_); refine goesL_ (some 114) rfl rfl Try.func20 (by kernel_rfl) rfl #[.slice Ao96 t843.length co96] rfl (by (try simp only [List.map_toArray, List.map_cons, List.map_nil]); first | done | rfl | (simp only [List.length_drop, List.length_take]; rfl)) ?_; (with_reducible refine (vernierref01_Limbs.calls kj33 _ _ t843 t867 _ ?side1 ?side2 A59.out).mono ?_); (case side1 => repeat (first | exact (Kd.R_reads' HO_10.out).2.2 | (with_reducible refine Kd.C_alloc ?_ _) | (with_reducible refine Kd.C_drewN ?_ _) | (with_reducible refine Kd.C_drew ?_))); (case side2 => exact (Kd.R_reads' HO_10.out).2.1); rintro e w98 ⟨v868, rfl, ho0, hb⟩; refine ⟨_, rfl, ?_⟩; have n0_ := Aside0.mk (Kd.R_below (by (with_reducible repeat (first | apply Kd.R_alloc | apply Kd.R_drewN | apply Kd.R_drew)); exact HO_10.out) hb); have n1_ := Aside0.mk (Kd.R_below (by (with_reducible repeat (first | apply Kd.R_alloc | apply Kd.R_drewN | apply Kd.R_drew)); exact HO862.out) hb); have n2_ := Aside0.mk (Kd.R_below (by (with_reducible repeat (first | apply Kd.R_alloc | apply Kd.R_drewN | apply Kd.R_drew)); exact HO865.out) hb); have n3_ := Aside0.mk (Kd.R_lower ho0 (below_size (by repeat (first | (with_reducible first | exact HB.out | apply below_alloc | apply pw_below_drewN | apply below_drew1) | exact HB.out)))); have n4_ := Aside0.mk (below_step (by repeat (first | (with_reducible first | exact HB.out | apply below_alloc | apply pw_below_drewN | apply below_drew1) | exact HB.out)) hb); clear HO_10; clear HO862; clear HO865; clear HB; have HO_10 := n0_; have HO862 := n1_; have HO865 := n2_; have HO869 := n3_; have HB := n4_; clear n0_ n1_ n2_ n3_ n4_; (try clear hb); (try clear hb2); (try clear hk); (try clear hi); (try clear ho0); obtain ⟨Ao99, co99, eo99⟩ := Kd.R_slice HO869.out; subst eo99))
                        go_ret
                        exact ⟨by first | rfl | (simp [errW_none, errW_some] <;> rfl) | (simp only [← hji33]; first | rfl | (simp [errW_none, errW_some] <;> rfl)) | (simp [*, errW_none, errW_some] <;> rfl), by repeat (first | (with_reducible first | exact HB.out | apply below_alloc | apply pw_below_drewN | apply below_drew1) | exact HB.out)⟩
                      · rw [if_neg c91] at H
                        have c91b0 : (t840 == 0) = false := beq_eq_false_iff_ne.mpr c91
                        have c91b1 : (t840 != 0) = true := bne_iff_ne.mpr c91
                        exact absurd (Option.some.inj H) (by subst hT; decide)
  · replace c4 := Bool.eq_false_iff.mpr c4
    subst c4
    have H1 : (some false) = some r := by rw [if_neg (show ¬ (false = true) by decide)] at H; exact H
    clear H
    have H := H1
    clear H1
    exact absurd (Option.some.inj H) (by subst hT; decide)
end Go.Proofs.Ytfmdjhfnbiekaaa.PF
