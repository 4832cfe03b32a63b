/- Contracts of Go functions: each call answers what the Lean function of its name answers. Written by a program of this session (vprint.py) round the print of the kit. -/
import Derived.Test.YtfmdjhfnbiekaaaQFaddSums12
import Derived.Test.YtfmdjhfnbiekaaaQFaddSums13
import Derived.Test.YtfmdjhfnbiekaaaQFaddSums26
import Derived.Test.YtfmdjhfnbiekaaaQFaddSums28
namespace Go.Proofs.Ytfmdjhfnbiekaaa.PA
open Go.RowKit Go.Proofs.YtfmdjhfnbiekaaaW.PrintWords Go.Proofs.YtfmdjhfnbiekaaaW.PrintLast Go.Proofs.YtfmdjhfnbiekaaaW.PrintMore
attribute [local go_sem] max2_int min2_int max_two min_two max_three min_three max_four min_four
set_option linter.unusedVariables false
set_option linter.unusedSimpArgs false
attribute [local go_sem] fld24_0 fld24_1 fld136_1
mutual
def vernierref06_Round.j0 : Nat → Bool → List Int → List Int → Int → Int → Int → Option (Int × Int)
  | 0, _, _, _, _, _, _ => none
  | k + 1, x0, x1, x2, x3, x4, x13 => vernierref06_Round.l0 k x0 x1 x2 x3 x4 x13 0 ([] : List Int) ([] : List Int) 0
def vernierref06_Round.l0 : Nat → Bool → List Int → List Int → Int → Int → Int → Int → List Int → List Int → Int → Option (Int × Int)
  | 0, _, _, _, _, _, _, _, _, _, _ => none
  | k + 1, x0, x1, x2, x3, x4, x13, x14, x15, x16, x17 => if x17 < 9 then (if x17 = 0 then (vernierref06_Round.j2 k x0 x1 x2 x3 x4 x13 x14 x15 x16 x17 true) else (vernierref06_Round.j2 k x0 x1 x2 x3 x4 x13 x14 x15 x16 x17 (decide (x14 ≥ 9007199254740992)))) else (vernierref06_Round.j2 k x0 x1 x2 x3 x4 x13 x14 x15 x16 x17 false)
def vernierref06_Round.j2 : Nat → Bool → List Int → List Int → Int → Int → Int → Int → List Int → List Int → Int → Bool → Option (Int × Int)
  | 0, _, _, _, _, _, _, _, _, _, _, _ => none
  | k + 1, x0, x1, x2, x3, x4, x13, x14, x15, x16, x17, x57 => if x57 = true then (if x17 > 0 then ((vernierref06_shift.f k x1 x2 (wrap64 (x3 - (wrap64 (x13 + 1))))).bind fun bt586 => ((vernierref01_Few.f k bt586.1 bt586.2).bind fun bt592 => (vernierref06_Round.l0 k x0 x1 x2 x3 x4 (wrap64 (x13 + 1)) bt592.1 bt592.2 bt586.2 (wrap64 (x17 + 1))))) else ((vernierref06_shift.f k x1 x2 (wrap64 (x3 - x13))).bind fun bt596 => ((vernierref01_Few.f k bt596.1 bt596.2).bind fun bt602 => (vernierref06_Round.l0 k x0 x1 x2 x3 x4 x13 bt602.1 bt602.2 bt596.2 (wrap64 (x17 + 1)))))) else ((vernierref06_shift.f k x1 x2 (wrap64 (x3 + 1022))).bind fun bt606 => ((vernierref01_Cmp.f k bt606.1 bt606.2).bind fun t612 => ((vernierref01_Shl.f k x15 1).bind fun t613 => ((vernierref01_Cmp.f k t613 x16).bind fun t616 => (if x4 = 1 then (vernierref06_Round.j3 k x0 x4 x13 x14 (decide ((x15.length : Int) > 0)) (decide (t612 < 0)) (decide (t616 ≥ 0))) else (if x4 = 2 then (vernierref06_Round.j3 k x0 x4 x13 x14 (decide ((x15.length : Int) > 0)) (decide (t612 < 0)) false) else (if x4 = 3 then (if (x15.length : Int) > 0 then (vernierref06_Round.j3 k x0 x4 x13 x14 (decide ((x15.length : Int) > 0)) (decide (t612 < 0)) (!x0)) else (vernierref06_Round.j3 k x0 x4 x13 x14 (decide ((x15.length : Int) > 0)) (decide (t612 < 0)) false)) else (if x4 = 4 then (if (x15.length : Int) > 0 then (vernierref06_Round.j3 k x0 x4 x13 x14 (decide ((x15.length : Int) > 0)) (decide (t612 < 0)) x0) else (vernierref06_Round.j3 k x0 x4 x13 x14 (decide ((x15.length : Int) > 0)) (decide (t612 < 0)) false)) else (if t616 > 0 then (vernierref06_Round.j3 k x0 x4 x13 x14 (decide ((x15.length : Int) > 0)) (decide (t612 < 0)) true) else (if t616 = 0 then (vernierref06_Round.j3 k x0 x4 x13 x14 (decide ((x15.length : Int) > 0)) (decide (t612 < 0)) ((Int.tmod x14 2) == 1)) else (vernierref06_Round.j3 k x0 x4 x13 x14 (decide ((x15.length : Int) > 0)) (decide (t612 < 0)) false)))))))))))
def vernierref06_Round.j3 : Nat → Bool → Int → Int → Int → Bool → Bool → Bool → Option (Int × Int)
  | 0, _, _, _, _, _, _, _ => none
  | k + 1, x0, x4, x13, x14, x20, x23, x25 => if x25 = true then (vernierref06_Round.j4 k x0 x4 x13 (IntKind.u64.wrap (x14 + 1)) x20 x23) else (vernierref06_Round.j4 k x0 x4 x13 x14 x20 x23)
def vernierref06_Round.j4 : Nat → Bool → Int → Int → Int → Bool → Bool → Option (Int × Int)
  | 0, _, _, _, _, _, _ => none
  | k + 1, x0, x4, x13, x14, x20, x23 => if x20 = true then (if x23 = true then (vernierref06_Round.j5 k x0 x4 x13 x14 24) else (vernierref06_Round.j5 k x0 x4 x13 x14 16)) else (vernierref06_Round.j5 k x0 x4 x13 x14 0)
def vernierref06_Round.j5 : Nat → Bool → Int → Int → Int → Int → Option (Int × Int)
  | 0, _, _, _, _, _ => none
  | k + 1, x0, x4, x13, x14, x26 => if x14 ≥ 9007199254740992 then (vernierref06_Round.j6 k x0 x4 (wrap64 (x13 + 1)) (IntKind.u64.wrap (Int.tdiv x14 2)) x26) else (vernierref06_Round.j6 k x0 x4 x13 x14 x26)
def vernierref06_Round.j6 : Nat → Bool → Int → Int → Int → Int → Option (Int × Int)
  | 0, _, _, _, _, _ => none
  | k + 1, x0, x4, x13, x14, x26 => if x14 ≥ 4503599627370496 then (vernierref06_Round.j7 k x0 x4 x13 x14 x26 (decide (x13 > 971))) else (vernierref06_Round.j7 k x0 x4 x13 x14 x26 false)
def vernierref06_Round.j7 : Nat → Bool → Int → Int → Int → Int → Bool → Option (Int × Int)
  | 0, _, _, _, _, _, _ => none
  | k + 1, x0, x4, x13, x14, x26, x146 => if x146 = true then ((vernierref06_big.f k x0 x4).bind fun bt617 => (some (bt617.1, bt617.2))) else (if x14 < 4503599627370496 then ((vernierref06_Zero.f x0).bind fun t619 => (some (IntKind.u64.wrap (t619 + x14), x26))) else ((vernierref06_Zero.f x0).bind fun t620 => (some (IntKind.u64.wrap ((IntKind.u64.wrap ((IntKind.u64.wrap (t620 + (IntKind.u64.wrap ((IntKind.u64.wrap (wrap64 (x13 + 1075))) * 4503599627370496)))) + x14)) - 4503599627370496), x26))))
end
def vernierref06_Round.f (k : Nat) (a0 : Bool) (l1 : List Int) (l2 : List Int) (a3 : Int) (a4 : Int) : Option (Int × Int) := (vernierref01_Bits.f k l1).bind fun t576 => ((vernierref01_Bits.f k l2).bind fun t577 => (if (wrap64 ((wrap64 (t576 - t577)) + a3)) > 2000 then ((vernierref06_big.f k a0 a4).bind fun bt578 => (some (bt578.1, bt578.2))) else (if (wrap64 ((wrap64 (t576 - t577)) + a3)) < (-3000) then (vernierref06_Round.j0 k a0 (([1] : List Int)) (([1] : List Int)) (-3000) a4 (-1074)) else (vernierref06_Round.j0 k a0 l1 l2 a3 a4 (mx (wrap64 ((wrap64 ((wrap64 (t576 - t577)) + a3)) - 54)) (-1074))))))
set_option maxHeartbeats 8000000 in
set_option maxRecDepth 100000 in
theorem vernierref06_Round.calls (k : Nat) (a0 : Bool) (P1_ : Nat → Prop) (u9000_ : Value) (l1 : List Int) (P2_ : Nat → Prop) (u9001_ : Value) (l2 : List Int) (a3 : Int) (a4 : Int) (r1 : Int) (r2 : Int) (w0 w : World) (hB : Below w0.heap.size w0 w) (ho1 : Kd.R (Kd.int .i64) 3 w w0.heap.size P1_ u9000_ l1) (hp1_2 : ∀ k_, P1_ k_ → ¬ P2_ k_) (ho2 : Kd.R (Kd.int .i64) 3 w w0.heap.size P2_ u9001_ l2) (hp2_1 : ∀ k_, P2_ k_ → ¬ P1_ k_) (h : vernierref06_Round.f k a0 l1 l2 a3 a4 = some (r1, r2)) :
    Calls Try.prog 108 #[.bool a0, u9000_, u9001_, .int .i64 a3, .int .i64 a4] w fun e w' => e = .returned (.tuple #[.int .u64 r1, .int .i64 r2]) ∧ Below w0.heap.size w0 w' ∧ Kept w w' (fun k_ => P1_ k_ ∨ P2_ k_) := by
  have HO1 := Aside0.mk (show Kd.R (Kd.int .i64) 3 w w0.heap.size (fun k_ => ((P1_ k_ ∨ P2_ k_) ∨ w.heap.size ≤ k_) ∧ some k_ ≠ (u9001_ : Value).ownBlock) u9000_ l1 from Kd.R_mono ho1 (fun k_ hk => ⟨(.inl (.inl hk)), fun e_ => hp1_2 k_ hk (ho2.1 k_ e_.symm)⟩))
  have HO2 := Aside0.mk (show Kd.R (Kd.int .i64) 3 w w0.heap.size (fun k_ => ((P1_ k_ ∨ P2_ k_) ∨ w.heap.size ≤ k_) ∧ some k_ ≠ (u9000_ : Value).ownBlock) u9001_ l2 from Kd.R_mono ho2 (fun k_ hk => ⟨(.inl (.inr hk)), fun e_ => hp2_1 k_ hk (ho1.1 k_ e_.symm)⟩))
  have HK := Aside0.mk (Kept.refl w (fun k_ => P1_ k_ ∨ P2_ k_))
  have HW0 := Aside0.mk hB.size
  have HB := Aside0.mk hB
  clear hB
  have H : ((vernierref01_Bits.f k l1).bind fun t576 => ((vernierref01_Bits.f k l2).bind fun t577 => (if (wrap64 ((wrap64 (t576 - t577)) + a3)) > 2000 then ((vernierref06_big.f k a0 a4).bind fun bt578 => (some (bt578.1, bt578.2))) else (if (wrap64 ((wrap64 (t576 - t577)) + a3)) < (-3000) then (vernierref06_Round.j0 k a0 (([1] : List Int)) (([1] : List Int)) (-3000) a4 (-1074)) else (vernierref06_Round.j0 k a0 l1 l2 a3 a4 (mx (wrap64 ((wrap64 ((wrap64 (t576 - t577)) + a3)) - 54)) (-1074))))))) = some (r1, r2) := h
  clear h
  replace H := Option.bind_eq_some_iff.mp H
  obtain ⟨t576, A60, H⟩ := H
  replace H : ((vernierref01_Bits.f k l2).bind fun t577 => (if (wrap64 ((wrap64 (t576 - t577)) + a3)) > 2000 then ((vernierref06_big.f k a0 a4).bind fun bt578 => (some (bt578.1, bt578.2))) else (if (wrap64 ((wrap64 (t576 - t577)) + a3)) < (-3000) then (vernierref06_Round.j0 k a0 (([1] : List Int)) (([1] : List Int)) (-3000) a4 (-1074)) else (vernierref06_Round.j0 k a0 l1 l2 a3 a4 (mx (wrap64 ((wrap64 ((wrap64 (t576 - t577)) + a3)) - 54)) (-1074)))))) = some (r1, r2) := H
  have A6 := Aside0.mk A60
  clear A60
  replace H := Option.bind_eq_some_iff.mp H
  obtain ⟨t577, A70, H⟩ := H
  replace H : (if (wrap64 ((wrap64 (t576 - t577)) + a3)) > 2000 then ((vernierref06_big.f k a0 a4).bind fun bt578 => (some (bt578.1, bt578.2))) else (if (wrap64 ((wrap64 (t576 - t577)) + a3)) < (-3000) then (vernierref06_Round.j0 k a0 (([1] : List Int)) (([1] : List Int)) (-3000) a4 (-1074)) else (vernierref06_Round.j0 k a0 l1 l2 a3 a4 (mx (wrap64 ((wrap64 ((wrap64 (t576 - t577)) + a3)) - 54)) (-1074))))) = some (r1, r2) := H
  have A7 := Aside0.mk A70
  clear A70
  obtain ⟨ji8, hji8⟩ : ∃ j_ : Int, (mx (wrap64 ((wrap64 ((wrap64 (t576 - t577)) + a3)) - 54)) (-1074)) = j_ := ⟨_, rfl⟩
  replace H : (if (wrap64 ((wrap64 (t576 - t577)) + a3)) > 2000 then ((vernierref06_big.f k a0 a4).bind fun bt578 => (some (bt578.1, bt578.2))) else (if (wrap64 ((wrap64 (t576 - t577)) + a3)) < (-3000) then (vernierref06_Round.j0 k a0 (([1] : List Int)) (([1] : List Int)) (-3000) a4 (-1074)) else (vernierref06_Round.j0 k a0 l1 l2 a3 a4 ji8))) = some (r1, r2) := by first | (rw [hji8] at H; exact H) | (simp only [hji8] at H ⊢; exact H)
  (try rw [hji8] at A6)
  (try rw [hji8] at A7)
  have hji8_ : (if (wrap64 ((wrap64 ((wrap64 (t576 - t577)) + a3)) - 54)) < (-1074) then (-1074) else (wrap64 ((wrap64 ((wrap64 (t576 - t577)) + a3)) - 54))) = ji8 := hji8
  by_cases c9 : (wrap64 ((wrap64 (t576 - t577)) + a3)) > 2000
  · rw [if_pos c9] at H
    have c9b0 : decide (2000 < (wrap64 ((wrap64 (t576 - t577)) + a3))) = true := decide_eq_true c9
    clear c9
    replace H := Option.bind_eq_some_iff.mp H
    obtain ⟨⟨t578, t579⟩, A100, H⟩ := H
    replace H : (some (t578, t579)) = some (r1, r2) := H
    have A10 := Aside0.mk A100
    clear A100
    simp only [Option.some.injEq, Prod.mk.injEq] at H
    obtain ⟨rfl, rfl⟩ := H
    obtain ⟨Ao11, co11, eo11⟩ := Kd.R_slice HO1.out
    subst eo11
    go_enter Try.func108, Try.ntmps108
    go_wp2_with (first | ((with_reducible refine gate_callee (f := 94) rfl ?_); refine goesL_ (some 28) rfl rfl Try.func94 (by kernel_rfl) rfl #[.slice Ao11 l1.length co11] rfl (by (try simp only [List.map_toArray, List.map_cons, List.map_nil]); first | done | rfl | (simp only [List.length_drop, List.length_take]; rfl)) ?_; (with_reducible refine (vernierref01_Bits.calls k _ _ l1 t576 _ ?side1 ?side2 A6.out).mono ?_); (case side1 => repeat (first | exact (Kd.R_reads' HO1.out).2.2 | (with_reducible refine Kd.C_alloc ?_ _) | (with_reducible refine Kd.C_drewN ?_ _) | (with_reducible refine Kd.C_drew ?_))); (case side2 => exact (Kd.R_reads' HO1.out).2.1); rintro e w' ⟨rfl, ⟨nd, rfl⟩⟩; refine ⟨_, rfl, ?_⟩; obtain ⟨Ao12, co12, eo12⟩ := Kd.R_slice HO2.out; subst eo12) | ((with_reducible refine gate_callee (f := 94) rfl ?_); refine goesL_ (some 30) rfl rfl Try.func94 (by kernel_rfl) rfl #[.slice Ao12 l2.length co12] rfl (by (try simp only [List.map_toArray, List.map_cons, List.map_nil]); first | done | rfl | (simp only [List.length_drop, List.length_take]; rfl)) ?_; (with_reducible refine (vernierref01_Bits.calls k _ _ l2 t577 _ ?side1 ?side2 A7.out).mono ?_); (case side1 => repeat (first | exact (Kd.R_reads' HO2.out).2.2 | (with_reducible refine Kd.C_alloc ?_ _) | (with_reducible refine Kd.C_drewN ?_ _) | (with_reducible refine Kd.C_drew ?_))); (case side2 => exact (Kd.R_reads' HO2.out).2.1); rintro e w' ⟨rfl, ⟨nd, rfl⟩⟩; refine ⟨_, rfl, ?_⟩) | ((with_reducible refine gate_callee (f := 120) rfl ?_); refine goesL_ (some 41) rfl rfl Try.func120 (by kernel_rfl) rfl #[.bool a0, .int .i64 a4] rfl (by (try simp only [List.map_toArray, List.map_cons, List.map_nil]); first | done | rfl | (simp only [List.length_drop, List.length_take]; rfl)) ?_; (with_reducible refine (vernierref06_big.calls k a0 a4 t578 t579 _ A10.out).mono ?_); rintro e w13 ⟨rfl, hb⟩; refine ⟨_, rfl, ?_⟩; have n0_ := Aside0.mk (Kd.R_below (by (with_reducible repeat (first | apply Kd.R_alloc | apply Kd.R_drewN | apply Kd.R_drew)); exact HO1.out) hb); have n1_ := Aside0.mk (Kd.R_below (by (with_reducible repeat (first | apply Kd.R_alloc | apply Kd.R_drewN | apply Kd.R_drew)); exact HO2.out) hb); have n2_ := Aside0.mk (Kept.below (S := (fun k_ => P1_ k_ ∨ P2_ k_)) (by repeat (first | (with_reducible first | exact HK.out | apply Kept.alloc | apply Kept.drewN | apply Kept.drew) | exact HK.out)) hb); have n3_ := Aside0.mk (below_step (by repeat (first | (with_reducible first | exact HB.out | apply below_alloc | apply pw_below_drewN | apply below_drew1) | exact HB.out)) hb); clear HO1; clear HO2; clear HK; clear HB; have HO1 := n0_; have HO2 := n1_; have HK := n2_; have HB := n3_; clear n0_ n1_ n2_ n3_; (try clear hb); (try clear hb2); (try clear hk); (try clear hi)))
    go_ret2
    exact ⟨by first | rfl | (simp [errW_none, errW_some] <;> rfl) | (simp only [← hji8]; first | rfl | (simp [errW_none, errW_some] <;> rfl)) | (simp [*, errW_none, errW_some] <;> rfl), by repeat (first | (with_reducible first | exact HB.out | apply below_alloc | apply pw_below_drewN | apply below_drew1) | exact HB.out), by repeat (first | (with_reducible first | exact HK.out | apply Kept.alloc | apply Kept.drewN | apply Kept.drew) | exact HK.out)⟩
  · rw [if_neg c9] at H
    have c9b0 : decide (2000 < (wrap64 ((wrap64 (t576 - t577)) + a3))) = false := decide_eq_false c9
    clear c9
    have HC14 := Aside0.mk H
    clear H
    obtain ⟨Ao15, co15, eo15⟩ := Kd.R_slice HO1.out
    subst eo15
    go_enter Try.func108, Try.ntmps108
    go_upto_if 45 with (first | ((with_reducible refine gate_callee (f := 94) rfl ?_); refine goesL_ (some 28) rfl rfl Try.func94 (by kernel_rfl) rfl #[.slice Ao15 l1.length co15] rfl (by (try simp only [List.map_toArray, List.map_cons, List.map_nil]); first | done | rfl | (simp only [List.length_drop, List.length_take]; rfl)) ?_; (with_reducible refine (vernierref01_Bits.calls k _ _ l1 t576 _ ?side1 ?side2 A6.out).mono ?_); (case side1 => repeat (first | exact (Kd.R_reads' HO1.out).2.2 | (with_reducible refine Kd.C_alloc ?_ _) | (with_reducible refine Kd.C_drewN ?_ _) | (with_reducible refine Kd.C_drew ?_))); (case side2 => exact (Kd.R_reads' HO1.out).2.1); rintro e w' ⟨rfl, ⟨nd, rfl⟩⟩; refine ⟨_, rfl, ?_⟩; obtain ⟨Ao16, co16, eo16⟩ := Kd.R_slice HO2.out; subst eo16) | ((with_reducible refine gate_callee (f := 94) rfl ?_); refine goesL_ (some 30) rfl rfl Try.func94 (by kernel_rfl) rfl #[.slice Ao16 l2.length co16] rfl (by (try simp only [List.map_toArray, List.map_cons, List.map_nil]); first | done | rfl | (simp only [List.length_drop, List.length_take]; rfl)) ?_; (with_reducible refine (vernierref01_Bits.calls k _ _ l2 t577 _ ?side1 ?side2 A7.out).mono ?_); (case side1 => repeat (first | exact (Kd.R_reads' HO2.out).2.2 | (with_reducible refine Kd.C_alloc ?_ _) | (with_reducible refine Kd.C_drewN ?_ _) | (with_reducible refine Kd.C_drew ?_))); (case side2 => exact (Kd.R_reads' HO2.out).2.1); rintro e w' ⟨rfl, ⟨nd, rfl⟩⟩; refine ⟨_, rfl, ?_⟩))
    (try simp only [Act.put, List.setIfInBounds_toArray, List.set_cons_zero, List.set_cons_succ])
    go_cut [1, 2, 3, 13] (fun v1 v2 v3 v13 wc => ∃ (kq : Nat) (x1_13 : List Int) (x2_13 : List Int) (x3_13 : Int) (x13_13 : Int), v3 = .int .i64 x3_13 ∧ v13 = .int .i64 x13_13 ∧ Aside0 (vernierref06_Round.j0 kq a0 x1_13 x2_13 x3_13 a4 x13_13 = some (r1, r2)) ∧ Aside0 (kq ≤ k) ∧ Aside0 (Kd.R (Kd.int .i64) 3 wc w0.heap.size (fun k_ => ((P1_ k_ ∨ P2_ k_) ∨ w.heap.size ≤ k_) ∧ some k_ ≠ (v2 : Value).ownBlock) v1 x1_13) ∧ Aside0 (Kd.R (Kd.int .i64) 3 wc w0.heap.size (fun k_ => ((P1_ k_ ∨ P2_ k_) ∨ w.heap.size ≤ k_) ∧ some k_ ≠ (v1 : Value).ownBlock) v2 x2_13) ∧ Aside0 (Kept w wc (fun k_ => P1_ k_ ∨ P2_ k_)) ∧ Aside0 (Below w0.heap.size w0 wc))
    case first =>
      have H := HC14.out
      clear HC14
      by_cases c17 : (wrap64 ((wrap64 (t576 - t577)) + a3)) < (-3000)
      · rw [if_pos c17] at H
        have c17b0 : decide ((wrap64 ((wrap64 (t576 - t577)) + a3)) < (-3000)) = true := decide_eq_true c17
        clear c17
        (first | rw [c17b0] | (simp only [i64_w, i32_w]; rw [c17b0]) | skip)
        obtain ⟨y580, hy580⟩ : ∃ y_ : List Int, y_ = (([1] : List Int)) := ⟨_, rfl⟩
        replace H : (vernierref06_Round.j0 k a0 y580 (([1] : List Int)) (-3000) a4 (-1074)) = some (r1, r2) := by first | (rw [hy580]; with_reducible exact H) | (have H2_ := (Option.bind_some _ _).symm.trans H; rw [hy580]; with_reducible exact H2_) | (have H2_ := (Option.bind_some _ _).symm.trans H; with_reducible exact H2_) | with_reducible exact H | (rw [hy580]; exact H) | exact H
        have Ny580 := Aside0.mk hy580
        clear hy580
        obtain ⟨y583, hy583⟩ : ∃ y_ : List Int, y_ = (([1] : List Int)) := ⟨_, rfl⟩
        replace H : (vernierref06_Round.j0 k a0 y580 y583 (-3000) a4 (-1074)) = some (r1, r2) := by first | (rw [hy583]; with_reducible exact H) | (have H2_ := (Option.bind_some _ _).symm.trans H; rw [hy583]; with_reducible exact H2_) | (have H2_ := (Option.bind_some _ _).symm.trans H; with_reducible exact H2_) | with_reducible exact H | (rw [hy583]; exact H) | exact H
        have Ny583 := Aside0.mk hy583
        clear hy583
        have H' := Aside0.mk H
        clear H
        go_wp2_with (first | ((with_reducible refine gate_dst (N := 46) rfl ?_); refine Kd.R_lit (Kd.int .i64) _ 3 ?hg (N := 46) ?hd (xs := ([1] : List Int)) (inner := [.int .i64 1]) (ok := fun _ => True) (okp := fun _ => True) ?hr ?hp (fun _ hk => hk) trivial (Below.refl _ _) (Nat.le_refl _) (by simp) ?_; (case hd => rfl); (case hg => rfl); (case hr => first | (go_simp; done) | (go_simp; rfl)); (case hp => exact (Reps.one (show Kd.M (Kd.int .i64) _ _ _ 1 [.int .i64 1] from rfl) (Reps.none _ _))); intro v581 w18 ho19 hb hg_ hnew_; clear hg_ hnew_; (first | rw [← Ny580.out] at ho19 | (simp only [Int.reduceToNat] at ho19; rw [← Ny580.out] at ho19)); have n0_ := Aside0.mk (Kd.R_elder' (by (with_reducible repeat (first | apply Kd.R_alloc | apply Kd.R_drewN | apply Kd.R_drew)); exact HO1.out) (Kd.R_base ho19) hb); have n1_ := Aside0.mk (Kd.R_elder' (by (with_reducible repeat (first | apply Kd.R_alloc | apply Kd.R_drewN | apply Kd.R_drew)); exact HO2.out) (Kd.R_base ho19) hb); have n2_ := Aside0.mk (Kd.R_lower (Kd.R_new' (Kd.R_new' (Kd.R_newM (M := fun k_ => ((P1_ k_ ∨ P2_ k_) ∨ w.heap.size ≤ k_)) ho19 (by first | exact HK.out.1 | exact (show Kept w _ (fun k_ => P1_ k_ ∨ P2_ k_) from by repeat (first | (with_reducible first | exact HK.out | apply Kept.alloc | apply Kept.drewN | apply Kept.drew) | exact HK.out)).1) (fun k_ h_ => .inr h_)) (Kd.R_lt (by (with_reducible repeat (first | apply Kd.R_alloc | apply Kd.R_drewN | apply Kd.R_drew)); exact HO1.out))) (Kd.R_lt (by (with_reducible repeat (first | apply Kd.R_alloc | apply Kd.R_drewN | apply Kd.R_drew)); exact HO2.out))) (below_size (by repeat (first | (with_reducible first | exact HB.out | apply below_alloc | apply pw_below_drewN | apply below_drew1) | exact HB.out)))); have n3_ := Aside0.mk (Kept.below (S := (fun k_ => P1_ k_ ∨ P2_ k_)) (by repeat (first | (with_reducible first | exact HK.out | apply Kept.alloc | apply Kept.drewN | apply Kept.drew) | exact HK.out)) hb); have n4_ := Aside0.mk (below_step (by repeat (first | (with_reducible first | exact HB.out | apply below_alloc | apply pw_below_drewN | apply below_drew1) | exact HB.out)) hb); clear HO1; clear HO2; clear HK; clear HB; have HO1 := n0_; have HO2 := n1_; have HO582 := n2_; have HK := n3_; have HB := n4_; clear n0_ n1_ n2_ n3_ n4_; clear hb ho19) | ((with_reducible refine gate_dst (N := 47) rfl ?_); refine Kd.R_lit (Kd.int .i64) _ 3 ?hg (N := 47) ?hd (xs := ([1] : List Int)) (inner := [.int .i64 1]) (ok := fun _ => True) (okp := fun _ => True) ?hr ?hp (fun _ hk => hk) trivial (Below.refl _ _) (Nat.le_refl _) (by simp) ?_; (case hd => rfl); (case hg => rfl); (case hr => first | (go_simp; done) | (go_simp; rfl)); (case hp => exact (Reps.one (show Kd.M (Kd.int .i64) _ _ _ 1 [.int .i64 1] from rfl) (Reps.none _ _))); intro v584 w20 ho21 hb hg_ hnew_; clear hg_ hnew_; (first | rw [← Ny583.out] at ho21 | (simp only [Int.reduceToNat] at ho21; rw [← Ny583.out] at ho21)); have n0_ := Aside0.mk (Kd.R_elder' (by (with_reducible repeat (first | apply Kd.R_alloc | apply Kd.R_drewN | apply Kd.R_drew)); exact HO1.out) (Kd.R_base ho21) hb); have n1_ := Aside0.mk (Kd.R_elder' (by (with_reducible repeat (first | apply Kd.R_alloc | apply Kd.R_drewN | apply Kd.R_drew)); exact HO2.out) (Kd.R_base ho21) hb); have n2_ := Aside0.mk (Kd.R_elder' (by (with_reducible repeat (first | apply Kd.R_alloc | apply Kd.R_drewN | apply Kd.R_drew)); exact HO582.out) (Kd.R_base ho21) hb); have n3_ := Aside0.mk (Kd.R_lower (Kd.R_new' (Kd.R_new' (Kd.R_new' (Kd.R_newM (M := fun k_ => ((P1_ k_ ∨ P2_ k_) ∨ w.heap.size ≤ k_)) ho21 (by first | exact HK.out.1 | exact (show Kept w _ (fun k_ => P1_ k_ ∨ P2_ k_) from by repeat (first | (with_reducible first | exact HK.out | apply Kept.alloc | apply Kept.drewN | apply Kept.drew) | exact HK.out)).1) (fun k_ h_ => .inr h_)) (Kd.R_lt (by (with_reducible repeat (first | apply Kd.R_alloc | apply Kd.R_drewN | apply Kd.R_drew)); exact HO1.out))) (Kd.R_lt (by (with_reducible repeat (first | apply Kd.R_alloc | apply Kd.R_drewN | apply Kd.R_drew)); exact HO2.out))) (Kd.R_lt (by (with_reducible repeat (first | apply Kd.R_alloc | apply Kd.R_drewN | apply Kd.R_drew)); exact HO582.out))) (below_size (by repeat (first | (with_reducible first | exact HB.out | apply below_alloc | apply pw_below_drewN | apply below_drew1) | exact HB.out)))); have n4_ := Aside0.mk (Kept.below (S := (fun k_ => P1_ k_ ∨ P2_ k_)) (by repeat (first | (with_reducible first | exact HK.out | apply Kept.alloc | apply Kept.drewN | apply Kept.drew) | exact HK.out)) hb); have n5_ := Aside0.mk (below_step (by repeat (first | (with_reducible first | exact HB.out | apply below_alloc | apply pw_below_drewN | apply below_drew1) | exact HB.out)) hb); clear HO1; clear HO2; clear HO582; clear HK; clear HB; have HO1 := n0_; have HO2 := n1_; have HO582 := n2_; have HO585 := n3_; have HK := n4_; have HB := n5_; clear n0_ n1_ n2_ n3_ n4_ n5_; clear hb ho21))
        go_meet
        case rel => exact ⟨_, (y580), (y583), ((-3000)), ((-1074)), (by first | rfl | (simp; done) | (simp [*]; done)), (by first | rfl | (simp; done) | (simp [*]; done)), H', ⟨by first | omega | exact Nat.le_refl _⟩, ⟨by (with_reducible repeat (first | apply Kd.R_alloc | apply Kd.R_drewN | apply Kd.R_drew)); exact Kd.R_mono HO582.out (fun _ hk => ⟨hk.1.1.1.1, hk.2⟩)⟩, ⟨by (with_reducible repeat (first | apply Kd.R_alloc | apply Kd.R_drewN | apply Kd.R_drew)); exact Kd.R_mono HO585.out (fun _ hk => ⟨hk.1.1.1.1, hk.2⟩)⟩, ⟨by repeat (first | (with_reducible first | exact HK.out | apply Kept.alloc | apply Kept.drewN | apply Kept.drew) | exact HK.out)⟩, ⟨by repeat (first | (with_reducible first | exact HB.out | apply below_alloc | apply pw_below_drewN | apply below_drew1) | exact HB.out)⟩⟩
      · rw [if_neg c17] at H
        have c17b0 : decide ((wrap64 ((wrap64 (t576 - t577)) + a3)) < (-3000)) = false := decide_eq_false c17
        clear c17
        (first | rw [c17b0] | (simp only [i64_w, i32_w]; rw [c17b0]) | skip)
        have H' := Aside0.mk H
        clear H
        go_wp2
        go_meet
        case rel => exact ⟨_, (l1), (l2), (a3), (ji8), (by first | rfl | (simp; done) | (simp [*]; done)), (by first | rfl | (simp; done) | (simp only [← hji8] <;> (first | rfl | simp)) | (simp [*]; done)), H', ⟨by first | omega | exact Nat.le_refl _⟩, ⟨by (with_reducible repeat (first | apply Kd.R_alloc | apply Kd.R_drewN | apply Kd.R_drew)); exact HO1.out⟩, ⟨by (with_reducible repeat (first | apply Kd.R_alloc | apply Kd.R_drewN | apply Kd.R_drew)); exact HO2.out⟩, ⟨by repeat (first | (with_reducible first | exact HK.out | apply Kept.alloc | apply Kept.drewN | apply Kept.drew) | exact HK.out)⟩, ⟨by repeat (first | (with_reducible first | exact HB.out | apply below_alloc | apply pw_below_drewN | apply below_drew1) | exact HB.out)⟩⟩
    case rest =>
      as_aux_lemma =>
        clear HC14
        try clear c1
        try clear p1
        try clear p2
        try clear p6
        try clear c9
        try clear c9b0
        try clear c10
        try clear c12
        try clear c17
        try clear c17b0
        obtain ⟨kq, x1_13, x2_13, x3_13, x13_13, rfl, rfl, HA, HJ13, HO_1, HO_2, HK, HB⟩ := hcut
        cases kq with
        | zero => exact absurd HA.out (by simp [vernierref06_Round.j0])
        | succ kj13 =>
          have H := HA.out
          clear HA
          simp only [vernierref06_Round.j0] at H
          have H' := Aside0.mk H
          clear H
          go_wp2
          go_loopg [13, 14, 15, 16, 17] kj13 (fun kq v13 v14 v15 v16 v17 w' => ∃ (x13_2 : Int) (x14_2 : Int) (x15_2 : List Int) (x16_2 : List Int) (x17_2 : Int), v13 = .int .i64 x13_2 ∧ v14 = .int .u64 x14_2 ∧ v17 = .int .i64 x17_2 ∧ Aside0 (vernierref06_Round.l0 kq a0 x1_13 x2_13 x3_13 a4 x13_2 x14_2 x15_2 x16_2 x17_2 = some (r1, r2)) ∧ Aside0 (kq ≤ kj13) ∧ Aside0 (Kd.R (Kd.int .i64) 3 w' w0.heap.size (fun k_ => ((P1_ k_ ∨ P2_ k_) ∨ w.heap.size ≤ k_) ∧ some k_ ≠ (u2 : Value).ownBlock) u1 x1_13) ∧ Aside0 (Kd.R (Kd.int .i64) 3 w' w0.heap.size (fun k_ => ((P1_ k_ ∨ P2_ k_) ∨ w.heap.size ≤ k_) ∧ some k_ ≠ (u1 : Value).ownBlock) u2 x2_13) ∧ Aside0 (Kd.V (Kd.int .i64) 3 w' w0.heap.size (fun k_ => ((P1_ k_ ∨ P2_ k_) ∨ w.heap.size ≤ k_)) v15 x15_2) ∧ Aside0 (Kd.V (Kd.int .i64) 3 w' w0.heap.size (fun k_ => ((P1_ k_ ∨ P2_ k_) ∨ w.heap.size ≤ k_)) v16 x16_2) ∧ Aside0 (Kept w w' (fun k_ => P1_ k_ ∨ P2_ k_)) ∧ Aside0 (Below w0.heap.size w0 w'))
          case atStart => exact ⟨(x13_13), (0), (([] : List Int)), (([] : List Int)), (0), (by first | rfl | (simp; done) | (simp [*]; done)), (by first | rfl | (simp; done) | (simp [*]; done)), (by first | rfl | (simp; done) | (simp [*]; done)), H', ⟨Nat.le_refl _⟩, ⟨by (with_reducible repeat (first | apply Kd.R_alloc | apply Kd.R_drewN | apply Kd.R_drew)); exact HO_1.out⟩, ⟨by (with_reducible repeat (first | apply Kd.R_alloc | apply Kd.R_drewN | apply Kd.R_drew)); exact HO_2.out⟩, ⟨(by first | exact Kd.R_nil _ _ _ _ _ | exact Kd.N_nil _ _ _ _ _ | exact Kd.V_nil _ _ _ _ _ | exact Kd.Q_nil _ _ _ _ _ | exact (by first | exact Kd.S_nil _ _ _ _ _ | exact Kd.R_nil _ _ _ _ _))⟩, ⟨(by first | exact Kd.R_nil _ _ _ _ _ | exact Kd.N_nil _ _ _ _ _ | exact Kd.V_nil _ _ _ _ _ | exact Kd.Q_nil _ _ _ _ _ | exact (by first | exact Kd.S_nil _ _ _ _ _ | exact Kd.R_nil _ _ _ _ _))⟩, ⟨by repeat (first | (with_reducible first | exact HK.out | apply Kept.alloc | apply Kept.drewN | apply Kept.drew) | exact HK.out)⟩, ⟨by repeat (first | (with_reducible first | exact HB.out | apply below_alloc | apply pw_below_drewN | apply below_drew1) | exact HB.out)⟩⟩
          case round =>
            clear H'
            try clear c1
            try clear p1
            try clear p2
            try clear p6
            try clear c9
            try clear c9b0
            try clear c10
            try clear c12
            try clear c17
            try clear c17b0
            try clear p1
            try clear p2
            try clear p6
            obtain ⟨x13_2, x14_2, x15_2, x16_2, x17_2, rfl, rfl, rfl, HA, HK2, HO_1, HO_2, HO_15, HO_16, HK, HB⟩ := hrel
            cases gk with
            | zero => exact absurd HA.out (by simp [vernierref06_Round.l0])
            | succ k2 =>
              have H := HA.out
              clear HA
              simp only [vernierref06_Round.l0] at H
              have HC22 := Aside0.mk H
              clear H
              go_upto_region 11 with (fail)
              go_cut [57] (fun v57 wc => ∃ (kq : Nat) (x57_21 : Bool), v57 = .bool x57_21 ∧ Aside0 (vernierref06_Round.j2 kq a0 x1_13 x2_13 x3_13 a4 x13_2 x14_2 x15_2 x16_2 x17_2 x57_21 = some (r1, r2)) ∧ Aside0 (kq ≤ k2) ∧ Aside0 (Kd.R (Kd.int .i64) 3 wc w0.heap.size (fun k_ => ((P1_ k_ ∨ P2_ k_) ∨ w.heap.size ≤ k_) ∧ some k_ ≠ (u2 : Value).ownBlock) u1 x1_13) ∧ Aside0 (Kd.R (Kd.int .i64) 3 wc w0.heap.size (fun k_ => ((P1_ k_ ∨ P2_ k_) ∨ w.heap.size ≤ k_) ∧ some k_ ≠ (u1 : Value).ownBlock) u2 x2_13) ∧ Aside0 (Kd.V (Kd.int .i64) 3 wc w0.heap.size (fun k_ => ((P1_ k_ ∨ P2_ k_) ∨ w.heap.size ≤ k_)) u15 x15_2) ∧ Aside0 (Kd.V (Kd.int .i64) 3 wc w0.heap.size (fun k_ => ((P1_ k_ ∨ P2_ k_) ∨ w.heap.size ≤ k_)) u16 x16_2) ∧ Aside0 (Kept w wc (fun k_ => P1_ k_ ∨ P2_ k_)) ∧ Aside0 (Below w0.heap.size w0 wc))
              case first =>
                have H := HC22.out
                clear HC22
                by_cases c23 : x17_2 < 9
                · rw [if_pos c23] at H
                  have c23b0 : decide (x17_2 < 9) = true := decide_eq_true c23
                  clear c23
                  (first | rw [c23b0] | (simp only [i64_w, i32_w]; rw [c23b0]) | skip)
                  by_cases c24 : x17_2 = 0
                  · rw [if_pos c24] at H
                    have c24b0 : (x17_2 == 0) = true := beq_iff_eq.mpr c24
                    have c24b1 : (x17_2 != 0) = false := bne_eq_false_iff_eq.mpr c24
                    clear c24
                    have H' := Aside0.mk H
                    clear H
                    go_wp2
                    go_meet
                    case rel => exact ⟨_, (true), (by first | rfl | (simp; done) | (simp [*]; done)), H', ⟨by have := HJ13.out; have := HK2.out; first | omega | exact Nat.le_refl _⟩, ⟨by (with_reducible repeat (first | apply Kd.R_alloc | apply Kd.R_drewN | apply Kd.R_drew)); exact HO_1.out⟩, ⟨by (with_reducible repeat (first | apply Kd.R_alloc | apply Kd.R_drewN | apply Kd.R_drew)); exact HO_2.out⟩, ⟨by (with_reducible repeat (first | apply Kd.V_alloc | apply Kd.V_drewN | apply Kd.V_drew)); exact HO_15.out⟩, ⟨by (with_reducible repeat (first | apply Kd.V_alloc | apply Kd.V_drewN | apply Kd.V_drew)); exact HO_16.out⟩, ⟨by repeat (first | (with_reducible first | exact HK.out | apply Kept.alloc | apply Kept.drewN | apply Kept.drew) | exact HK.out)⟩, ⟨by repeat (first | (with_reducible first | exact HB.out | apply below_alloc | apply pw_below_drewN | apply below_drew1) | exact HB.out)⟩⟩
                  · rw [if_neg c24] at H
                    have c24b0 : (x17_2 == 0) = false := beq_eq_false_iff_ne.mpr c24
                    have c24b1 : (x17_2 != 0) = true := bne_iff_ne.mpr c24
                    have H' := Aside0.mk H
                    clear H
                    go_wp2
                    go_meet
                    case rel => exact ⟨_, (decide (x14_2 ≥ 9007199254740992)), (by first | rfl | (simp; done) | (simp [*]; done)), H', ⟨by have := HJ13.out; have := HK2.out; first | omega | exact Nat.le_refl _⟩, ⟨by (with_reducible repeat (first | apply Kd.R_alloc | apply Kd.R_drewN | apply Kd.R_drew)); exact HO_1.out⟩, ⟨by (with_reducible repeat (first | apply Kd.R_alloc | apply Kd.R_drewN | apply Kd.R_drew)); exact HO_2.out⟩, ⟨by (with_reducible repeat (first | apply Kd.V_alloc | apply Kd.V_drewN | apply Kd.V_drew)); exact HO_15.out⟩, ⟨by (with_reducible repeat (first | apply Kd.V_alloc | apply Kd.V_drewN | apply Kd.V_drew)); exact HO_16.out⟩, ⟨by repeat (first | (with_reducible first | exact HK.out | apply Kept.alloc | apply Kept.drewN | apply Kept.drew) | exact HK.out)⟩, ⟨by repeat (first | (with_reducible first | exact HB.out | apply below_alloc | apply pw_below_drewN | apply below_drew1) | exact HB.out)⟩⟩
                · rw [if_neg c23] at H
                  have c23b0 : decide (x17_2 < 9) = false := decide_eq_false c23
                  clear c23
                  (first | rw [c23b0] | (simp only [i64_w, i32_w]; rw [c23b0]) | skip)
                  have H' := Aside0.mk H
                  clear H
                  go_wp2
                  go_meet
                  case rel => exact ⟨_, (false), (by first | rfl | (simp; done) | (simp [*]; done)), H', ⟨by have := HJ13.out; have := HK2.out; first | omega | exact Nat.le_refl _⟩, ⟨by (with_reducible repeat (first | apply Kd.R_alloc | apply Kd.R_drewN | apply Kd.R_drew)); exact HO_1.out⟩, ⟨by (with_reducible repeat (first | apply Kd.R_alloc | apply Kd.R_drewN | apply Kd.R_drew)); exact HO_2.out⟩, ⟨by (with_reducible repeat (first | apply Kd.V_alloc | apply Kd.V_drewN | apply Kd.V_drew)); exact HO_15.out⟩, ⟨by (with_reducible repeat (first | apply Kd.V_alloc | apply Kd.V_drewN | apply Kd.V_drew)); exact HO_16.out⟩, ⟨by repeat (first | (with_reducible first | exact HK.out | apply Kept.alloc | apply Kept.drewN | apply Kept.drew) | exact HK.out)⟩, ⟨by repeat (first | (with_reducible first | exact HB.out | apply below_alloc | apply pw_below_drewN | apply below_drew1) | exact HB.out)⟩⟩
              case rest =>
                as_aux_lemma =>
                  clear HC22
                  try clear c1
                  try clear p1
                  try clear c2
                  try clear p2
                  try clear p6
                  try clear c9
                  try clear c9b0
                  try clear c10
                  try clear c12
                  try clear c17
                  try clear c17b0
                  try clear c23
                  try clear c23b0
                  try clear c24
                  try clear c24b0
                  try clear c24b1
                  try clear p1
                  try clear p2
                  try clear p6
                  obtain ⟨kq, x57_21, rfl, HA, HJ21, HO_1, HO_2, HO_15, HO_16, HK, HB⟩ := hcut
                  cases kq with
                  | zero => exact absurd HA.out (by simp [vernierref06_Round.j2])
                  | succ kj21 =>
                    have H := HA.out
                    clear HA
                    simp only [vernierref06_Round.j2] at H
                    by_cases c25 : x57_21 = true
                    · subst c25
                      have H1 : (if x17_2 > 0 then ((vernierref06_shift.f kj21 x1_13 x2_13 (wrap64 (x3_13 - (wrap64 (x13_2 + 1))))).bind fun bt586 => ((vernierref01_Few.f kj21 bt586.1 bt586.2).bind fun bt592 => (vernierref06_Round.l0 kj21 a0 x1_13 x2_13 x3_13 a4 (wrap64 (x13_2 + 1)) bt592.1 bt592.2 bt586.2 (wrap64 (x17_2 + 1))))) else ((vernierref06_shift.f kj21 x1_13 x2_13 (wrap64 (x3_13 - x13_2))).bind fun bt596 => ((vernierref01_Few.f kj21 bt596.1 bt596.2).bind fun bt602 => (vernierref06_Round.l0 kj21 a0 x1_13 x2_13 x3_13 a4 x13_2 bt602.1 bt602.2 bt596.2 (wrap64 (x17_2 + 1)))))) = some (r1, r2) := by rw [if_pos rfl] at H; exact H
                      clear H
                      have H := H1
                      clear H1
                      by_cases c26 : x17_2 > 0
                      · rw [if_pos c26] at H
                        have c26b0 : decide (0 < x17_2) = true := decide_eq_true c26
                        clear c26
                        replace H := Option.bind_eq_some_iff.mp H
                        obtain ⟨⟨t586, t589⟩, A270, H⟩ := H
                        replace H : ((vernierref01_Few.f kj21 t586 t589).bind fun bt592 => (vernierref06_Round.l0 kj21 a0 x1_13 x2_13 x3_13 a4 (wrap64 (x13_2 + 1)) bt592.1 bt592.2 t589 (wrap64 (x17_2 + 1)))) = some (r1, r2) := H
                        have A27 := Aside0.mk A270
                        clear A270
                        replace H := Option.bind_eq_some_iff.mp H
                        obtain ⟨⟨t592, t593⟩, A280, H⟩ := H
                        replace H : (vernierref06_Round.l0 kj21 a0 x1_13 x2_13 x3_13 a4 (wrap64 (x13_2 + 1)) t592 t593 t589 (wrap64 (x17_2 + 1))) = some (r1, r2) := H
                        have A28 := Aside0.mk A280
                        clear A280
                        have H' := Aside0.mk H
                        clear H
                        obtain ⟨Ao29, co29, eo29⟩ := Kd.R_slice HO_1.out
                        subst eo29
                        obtain ⟨Ao30, co30, eo30⟩ := Kd.R_slice HO_2.out
                        subst eo30
                        go_wp2_with (first | ((with_reducible refine gate_callee (f := 121) rfl ?_); refine goesL_ (some 70) rfl rfl Try.func121 (by kernel_rfl) rfl #[.slice Ao29 x1_13.length co29, .slice Ao30 x2_13.length co30, .int .i64 (wrap64 (x3_13 - (wrap64 (x13_2 + 1))))] rfl (by (try simp only [List.map_toArray, List.map_cons, List.map_nil]); first | done | rfl | (simp only [List.length_drop, List.length_take]; rfl)) ?_; (with_reducible refine (vernierref06_shift.calls kj21 (fun k_ => some k_ = (.slice Ao29 x1_13.length co29 : Value).ownBlock) _ _ x1_13 (fun k_ => some k_ = (.slice Ao30 x2_13.length co30 : Value).ownBlock) _ _ x2_13 (wrap64 (x3_13 - (wrap64 (x13_2 + 1)))) t586 t589 _ ?side1 ?side2 A27.out).mono ?_); (case side1 => exact Kd.R_V (Kd.R_tight rfl (HO_1.out))); (case side2 => exact Kd.R_V (Kd.R_tight rfl (HO_2.out))); rintro e w31 ⟨v587, v590, rfl, ho0, ho1, hb⟩; refine ⟨_, rfl, ?_⟩; have n0_ := Aside0.mk (Kd.R_below (by (with_reducible repeat (first | apply Kd.R_alloc | apply Kd.R_drewN | apply Kd.R_drew)); exact HO_1.out) hb); have n1_ := Aside0.mk (Kd.R_below (by (with_reducible repeat (first | apply Kd.R_alloc | apply Kd.R_drewN | apply Kd.R_drew)); exact HO_2.out) hb); have n2_ := Aside0.mk (Kd.V_below (by (with_reducible repeat (first | apply Kd.V_alloc | apply Kd.V_drewN | apply Kd.V_drew)); exact HO_15.out) hb); have n3_ := Aside0.mk (Kd.V_below (by (with_reducible repeat (first | apply Kd.V_alloc | apply Kd.V_drewN | apply Kd.V_drew)); exact HO_16.out) hb); have n4_ := Aside0.mk (Kd.V_lower (Kd.V_mono (ok' := fun k_ => ((P1_ k_ ∨ P2_ k_) ∨ w.heap.size ≤ k_)) ho0 (fun k_ hk_ => Or.elim hk_ (fun hs_ => Or.elim hs_ (fun hs_ => ((HO_1.out).1 k_ hs_.symm).1) (fun hs_ => ((HO_2.out).1 k_ hs_.symm).1)) (fun hn_ => (.inr (Nat.le_trans (by first | exact HK.out.1 | exact (show Kept w _ (fun k_ => P1_ k_ ∨ P2_ k_) from by repeat (first | (with_reducible first | exact HK.out | apply Kept.alloc | apply Kept.drewN | apply Kept.drew) | exact HK.out)).1) hn_))))) (below_size (by repeat (first | (with_reducible first | exact HB.out | apply below_alloc | apply pw_below_drewN | apply below_drew1) | exact HB.out)))); have n5_ := Aside0.mk (Kd.V_lower (Kd.V_mono (ok' := fun k_ => ((P1_ k_ ∨ P2_ k_) ∨ w.heap.size ≤ k_)) ho1 (fun k_ hk_ => Or.elim hk_ (fun hs_ => Or.elim hs_ (fun hs_ => ((HO_1.out).1 k_ hs_.symm).1) (fun hs_ => ((HO_2.out).1 k_ hs_.symm).1)) (fun hn_ => (.inr (Nat.le_trans (by first | exact HK.out.1 | exact (show Kept w _ (fun k_ => P1_ k_ ∨ P2_ k_) from by repeat (first | (with_reducible first | exact HK.out | apply Kept.alloc | apply Kept.drewN | apply Kept.drew) | exact HK.out)).1) hn_))))) (below_size (by repeat (first | (with_reducible first | exact HB.out | apply below_alloc | apply pw_below_drewN | apply below_drew1) | exact HB.out)))); have n6_ := Aside0.mk (Kept.below (S := (fun k_ => P1_ k_ ∨ P2_ k_)) (by repeat (first | (with_reducible first | exact HK.out | apply Kept.alloc | apply Kept.drewN | apply Kept.drew) | exact HK.out)) hb); have n7_ := Aside0.mk (below_step (by repeat (first | (with_reducible first | exact HB.out | apply below_alloc | apply pw_below_drewN | apply below_drew1) | exact HB.out)) hb); clear HO_1; clear HO_2; clear HO_15; clear HO_16; clear HK; clear HB; have HO_1 := n0_; have HO_2 := n1_; have HO_15 := n2_; have HO_16 := n3_; have HO588 := n4_; have HO591 := n5_; have HK := n6_; have HB := n7_; clear n0_ n1_ n2_ n3_ n4_ n5_ n6_ n7_; (try clear hb); (try clear hb2); (try clear hk); (try clear hi); (try clear ho0); (try clear ho1); obtain ⟨Ao32, co32, eo32⟩ := Kd.V_slice HO588.out; subst eo32; obtain ⟨Ao33, co33, eo33⟩ := Kd.V_slice HO591.out; subst eo33) | ((with_reducible refine gate_callee (f := 122) rfl ?_); refine goesL_ (some 76) rfl rfl Try.func122 (by kernel_rfl) rfl #[.slice Ao32 t586.length co32, .slice Ao33 t589.length co33] rfl (by (try simp only [List.map_toArray, List.map_cons, List.map_nil]); first | done | rfl | (simp only [List.length_drop, List.length_take]; rfl)) ?_; (with_reducible refine (vernierref01_Few.calls kj21 (fun k_ => ((P1_ k_ ∨ P2_ k_) ∨ w.heap.size ≤ k_)) _ _ t586 _ _ t589 t592 t593 _ ?side1 ?side2 ?side3 A28.out).mono ?_); (case side1 => exact HO588.out); (case side2 => repeat (first | exact (Kd.V_reads' HO591.out).2.2 | (with_reducible refine Kd.C_alloc ?_ _) | (with_reducible refine Kd.C_drewN ?_ _) | (with_reducible refine Kd.C_drew ?_))); (case side3 => exact (Kd.V_reads' HO591.out).2.1); rintro e w34 ⟨v594, rfl, ho0, hb⟩; refine ⟨_, rfl, ?_⟩; have n0_ := Aside0.mk (Kd.R_below (by (with_reducible repeat (first | apply Kd.R_alloc | apply Kd.R_drewN | apply Kd.R_drew)); exact HO_1.out) hb); have n1_ := Aside0.mk (Kd.R_below (by (with_reducible repeat (first | apply Kd.R_alloc | apply Kd.R_drewN | apply Kd.R_drew)); exact HO_2.out) hb); have n2_ := Aside0.mk (Kd.V_below (by (with_reducible repeat (first | apply Kd.V_alloc | apply Kd.V_drewN | apply Kd.V_drew)); exact HO_15.out) hb); have n3_ := Aside0.mk (Kd.V_below (by (with_reducible repeat (first | apply Kd.V_alloc | apply Kd.V_drewN | apply Kd.V_drew)); exact HO_16.out) hb); have n4_ := Aside0.mk (Kd.V_below (by (with_reducible repeat (first | apply Kd.V_alloc | apply Kd.V_drewN | apply Kd.V_drew)); exact HO588.out) hb); have n5_ := Aside0.mk (Kd.V_below (by (with_reducible repeat (first | apply Kd.V_alloc | apply Kd.V_drewN | apply Kd.V_drew)); exact HO591.out) hb); have n6_ := Aside0.mk (Kd.V_lower (Kd.V_mono (ok' := fun k_ => ((P1_ k_ ∨ P2_ k_) ∨ w.heap.size ≤ k_)) ho0 (fun k_ hk_ => Or.elim hk_ (fun hs_ => hs_) (fun hn_ => (.inr (Nat.le_trans (by first | exact HK.out.1 | exact (show Kept w _ (fun k_ => P1_ k_ ∨ P2_ k_) from by repeat (first | (with_reducible first | exact HK.out | apply Kept.alloc | apply Kept.drewN | apply Kept.drew) | exact HK.out)).1) hn_))))) (below_size (by repeat (first | (with_reducible first | exact HB.out | apply below_alloc | apply pw_below_drewN | apply below_drew1) | exact HB.out)))); have n7_ := Aside0.mk (Kept.below (S := (fun k_ => P1_ k_ ∨ P2_ k_)) (by repeat (first | (with_reducible first | exact HK.out | apply Kept.alloc | apply Kept.drewN | apply Kept.drew) | exact HK.out)) hb); have n8_ := Aside0.mk (below_step (by repeat (first | (with_reducible first | exact HB.out | apply below_alloc | apply pw_below_drewN | apply below_drew1) | exact HB.out)) hb); clear HO_1; clear HO_2; clear HO_15; clear HO_16; clear HO588; clear HO591; clear HK; clear HB; have HO_1 := n0_; have HO_2 := n1_; have HO_15 := n2_; have HO_16 := n3_; have HO588 := n4_; have HO591 := n5_; have HO595 := n6_; have HK := n7_; have HB := n8_; clear n0_ n1_ n2_ n3_ n4_ n5_ n6_ n7_ n8_; (try clear hb); (try clear hb2); (try clear hk); (try clear hi); (try clear ho0)))
                        go_roundg kj21
                        case measure => have := HJ13.out; have := HK2.out; have := HJ21.out; omega
                        case rel => exact ⟨(wrap64 (x13_2 + 1)), (t592), (t593), (t589), (wrap64 (x17_2 + 1)), (by first | rfl | (simp; done) | (simp [*]; done)), (by first | rfl | (simp; done) | (simp [*]; done)), (by first | rfl | (simp; done) | (simp [*]; done)), H', ⟨by have := HJ13.out; have := HK2.out; have := HJ21.out; omega⟩, ⟨by (with_reducible repeat (first | apply Kd.R_alloc | apply Kd.R_drewN | apply Kd.R_drew)); exact HO_1.out⟩, ⟨by (with_reducible repeat (first | apply Kd.R_alloc | apply Kd.R_drewN | apply Kd.R_drew)); exact HO_2.out⟩, ⟨by (with_reducible repeat (first | apply Kd.V_alloc | apply Kd.V_drewN | apply Kd.V_drew)); exact HO595.out⟩, ⟨by (with_reducible repeat (first | apply Kd.V_alloc | apply Kd.V_drewN | apply Kd.V_drew)); exact HO591.out⟩, ⟨by repeat (first | (with_reducible first | exact HK.out | apply Kept.alloc | apply Kept.drewN | apply Kept.drew) | exact HK.out)⟩, ⟨by repeat (first | (with_reducible first | exact HB.out | apply below_alloc | apply pw_below_drewN | apply below_drew1) | exact HB.out)⟩⟩
                      · rw [if_neg c26] at H
                        have c26b0 : decide (0 < x17_2) = false := decide_eq_false c26
                        clear c26
                        replace H := Option.bind_eq_some_iff.mp H
                        obtain ⟨⟨t596, t599⟩, A350, H⟩ := H
                        replace H : ((vernierref01_Few.f kj21 t596 t599).bind fun bt602 => (vernierref06_Round.l0 kj21 a0 x1_13 x2_13 x3_13 a4 x13_2 bt602.1 bt602.2 t599 (wrap64 (x17_2 + 1)))) = some (r1, r2) := H
                        have A35 := Aside0.mk A350
                        clear A350
                        replace H := Option.bind_eq_some_iff.mp H
                        obtain ⟨⟨t602, t603⟩, A360, H⟩ := H
                        replace H : (vernierref06_Round.l0 kj21 a0 x1_13 x2_13 x3_13 a4 x13_2 t602 t603 t599 (wrap64 (x17_2 + 1))) = some (r1, r2) := H
                        have A36 := Aside0.mk A360
                        clear A360
                        have H' := Aside0.mk H
                        clear H
                        obtain ⟨Ao37, co37, eo37⟩ := Kd.R_slice HO_1.out
                        subst eo37
                        obtain ⟨Ao38, co38, eo38⟩ := Kd.R_slice HO_2.out
                        subst eo38
                        go_wp2_with (first | ((with_reducible refine gate_callee (f := 121) rfl ?_); refine goesL_ (some 70) rfl rfl Try.func121 (by kernel_rfl) rfl #[.slice Ao37 x1_13.length co37, .slice Ao38 x2_13.length co38, .int .i64 (wrap64 (x3_13 - x13_2))] rfl (by (try simp only [List.map_toArray, List.map_cons, List.map_nil]); first | done | rfl | (simp only [List.length_drop, List.length_take]; rfl)) ?_; (with_reducible refine (vernierref06_shift.calls kj21 (fun k_ => some k_ = (.slice Ao37 x1_13.length co37 : Value).ownBlock) _ _ x1_13 (fun k_ => some k_ = (.slice Ao38 x2_13.length co38 : Value).ownBlock) _ _ x2_13 (wrap64 (x3_13 - x13_2)) t596 t599 _ ?side1 ?side2 A35.out).mono ?_); (case side1 => exact Kd.R_V (Kd.R_tight rfl (HO_1.out))); (case side2 => exact Kd.R_V (Kd.R_tight rfl (HO_2.out))); rintro e w39 ⟨v597, v600, rfl, ho0, ho1, hb⟩; refine ⟨_, rfl, ?_⟩; have n0_ := Aside0.mk (Kd.R_below (by (with_reducible repeat (first | apply Kd.R_alloc | apply Kd.R_drewN | apply Kd.R_drew)); exact HO_1.out) hb); have n1_ := Aside0.mk (Kd.R_below (by (with_reducible repeat (first | apply Kd.R_alloc | apply Kd.R_drewN | apply Kd.R_drew)); exact HO_2.out) hb); have n2_ := Aside0.mk (Kd.V_below (by (with_reducible repeat (first | apply Kd.V_alloc | apply Kd.V_drewN | apply Kd.V_drew)); exact HO_15.out) hb); have n3_ := Aside0.mk (Kd.V_below (by (with_reducible repeat (first | apply Kd.V_alloc | apply Kd.V_drewN | apply Kd.V_drew)); exact HO_16.out) hb); have n4_ := Aside0.mk (Kd.V_lower (Kd.V_mono (ok' := fun k_ => ((P1_ k_ ∨ P2_ k_) ∨ w.heap.size ≤ k_)) ho0 (fun k_ hk_ => Or.elim hk_ (fun hs_ => Or.elim hs_ (fun hs_ => ((HO_1.out).1 k_ hs_.symm).1) (fun hs_ => ((HO_2.out).1 k_ hs_.symm).1)) (fun hn_ => (.inr (Nat.le_trans (by first | exact HK.out.1 | exact (show Kept w _ (fun k_ => P1_ k_ ∨ P2_ k_) from by repeat (first | (with_reducible first | exact HK.out | apply Kept.alloc | apply Kept.drewN | apply Kept.drew) | exact HK.out)).1) hn_))))) (below_size (by repeat (first | (with_reducible first | exact HB.out | apply below_alloc | apply pw_below_drewN | apply below_drew1) | exact HB.out)))); have n5_ := Aside0.mk (Kd.V_lower (Kd.V_mono (ok' := fun k_ => ((P1_ k_ ∨ P2_ k_) ∨ w.heap.size ≤ k_)) ho1 (fun k_ hk_ => Or.elim hk_ (fun hs_ => Or.elim hs_ (fun hs_ => ((HO_1.out).1 k_ hs_.symm).1) (fun hs_ => ((HO_2.out).1 k_ hs_.symm).1)) (fun hn_ => (.inr (Nat.le_trans (by first | exact HK.out.1 | exact (show Kept w _ (fun k_ => P1_ k_ ∨ P2_ k_) from by repeat (first | (with_reducible first | exact HK.out | apply Kept.alloc | apply Kept.drewN | apply Kept.drew) | exact HK.out)).1) hn_))))) (below_size (by repeat (first | (with_reducible first | exact HB.out | apply below_alloc | apply pw_below_drewN | apply below_drew1) | exact HB.out)))); have n6_ := Aside0.mk (Kept.below (S := (fun k_ => P1_ k_ ∨ P2_ k_)) (by repeat (first | (with_reducible first | exact HK.out | apply Kept.alloc | apply Kept.drewN | apply Kept.drew) | exact HK.out)) hb); have n7_ := Aside0.mk (below_step (by repeat (first | (with_reducible first | exact HB.out | apply below_alloc | apply pw_below_drewN | apply below_drew1) | exact HB.out)) hb); clear HO_1; clear HO_2; clear HO_15; clear HO_16; clear HK; clear HB; have HO_1 := n0_; have HO_2 := n1_; have HO_15 := n2_; have HO_16 := n3_; have HO598 := n4_; have HO601 := n5_; have HK := n6_; have HB := n7_; clear n0_ n1_ n2_ n3_ n4_ n5_ n6_ n7_; (try clear hb); (try clear hb2); (try clear hk); (try clear hi); (try clear ho0); (try clear ho1); obtain ⟨Ao40, co40, eo40⟩ := Kd.V_slice HO598.out; subst eo40; obtain ⟨Ao41, co41, eo41⟩ := Kd.V_slice HO601.out; subst eo41) | ((with_reducible refine gate_callee (f := 122) rfl ?_); refine goesL_ (some 76) rfl rfl Try.func122 (by kernel_rfl) rfl #[.slice Ao40 t596.length co40, .slice Ao41 t599.length co41] rfl (by (try simp only [List.map_toArray, List.map_cons, List.map_nil]); first | done | rfl | (simp only [List.length_drop, List.length_take]; rfl)) ?_; (with_reducible refine (vernierref01_Few.calls kj21 (fun k_ => ((P1_ k_ ∨ P2_ k_) ∨ w.heap.size ≤ k_)) _ _ t596 _ _ t599 t602 t603 _ ?side1 ?side2 ?side3 A36.out).mono ?_); (case side1 => exact HO598.out); (case side2 => repeat (first | exact (Kd.V_reads' HO601.out).2.2 | (with_reducible refine Kd.C_alloc ?_ _) | (with_reducible refine Kd.C_drewN ?_ _) | (with_reducible refine Kd.C_drew ?_))); (case side3 => exact (Kd.V_reads' HO601.out).2.1); rintro e w42 ⟨v604, rfl, ho0, hb⟩; refine ⟨_, rfl, ?_⟩; have n0_ := Aside0.mk (Kd.R_below (by (with_reducible repeat (first | apply Kd.R_alloc | apply Kd.R_drewN | apply Kd.R_drew)); exact HO_1.out) hb); have n1_ := Aside0.mk (Kd.R_below (by (with_reducible repeat (first | apply Kd.R_alloc | apply Kd.R_drewN | apply Kd.R_drew)); exact HO_2.out) hb); have n2_ := Aside0.mk (Kd.V_below (by (with_reducible repeat (first | apply Kd.V_alloc | apply Kd.V_drewN | apply Kd.V_drew)); exact HO_15.out) hb); have n3_ := Aside0.mk (Kd.V_below (by (with_reducible repeat (first | apply Kd.V_alloc | apply Kd.V_drewN | apply Kd.V_drew)); exact HO_16.out) hb); have n4_ := Aside0.mk (Kd.V_below (by (with_reducible repeat (first | apply Kd.V_alloc | apply Kd.V_drewN | apply Kd.V_drew)); exact HO598.out) hb); have n5_ := Aside0.mk (Kd.V_below (by (with_reducible repeat (first | apply Kd.V_alloc | apply Kd.V_drewN | apply Kd.V_drew)); exact HO601.out) hb); have n6_ := Aside0.mk (Kd.V_lower (Kd.V_mono (ok' := fun k_ => ((P1_ k_ ∨ P2_ k_) ∨ w.heap.size ≤ k_)) ho0 (fun k_ hk_ => Or.elim hk_ (fun hs_ => hs_) (fun hn_ => (.inr (Nat.le_trans (by first | exact HK.out.1 | exact (show Kept w _ (fun k_ => P1_ k_ ∨ P2_ k_) from by repeat (first | (with_reducible first | exact HK.out | apply Kept.alloc | apply Kept.drewN | apply Kept.drew) | exact HK.out)).1) hn_))))) (below_size (by repeat (first | (with_reducible first | exact HB.out | apply below_alloc | apply pw_below_drewN | apply below_drew1) | exact HB.out)))); have n7_ := Aside0.mk (Kept.below (S := (fun k_ => P1_ k_ ∨ P2_ k_)) (by repeat (first | (with_reducible first | exact HK.out | apply Kept.alloc | apply Kept.drewN | apply Kept.drew) | exact HK.out)) hb); have n8_ := Aside0.mk (below_step (by repeat (first | (with_reducible first | exact HB.out | apply below_alloc | apply pw_below_drewN | apply below_drew1) | exact HB.out)) hb); clear HO_1; clear HO_2; clear HO_15; clear HO_16; clear HO598; clear HO601; clear HK; clear HB; have HO_1 := n0_; have HO_2 := n1_; have HO_15 := n2_; have HO_16 := n3_; have HO598 := n4_; have HO601 := n5_; have HO605 := n6_; have HK := n7_; have HB := n8_; clear n0_ n1_ n2_ n3_ n4_ n5_ n6_ n7_ n8_; (try clear hb); (try clear hb2); (try clear hk); (try clear hi); (try clear ho0)))
                        go_roundg kj21
                        case measure => have := HJ13.out; have := HK2.out; have := HJ21.out; omega
                        case rel => exact ⟨(x13_2), (t602), (t603), (t599), (wrap64 (x17_2 + 1)), (by first | rfl | (simp; done) | (simp [*]; done)), (by first | rfl | (simp; done) | (simp [*]; done)), (by first | rfl | (simp; done) | (simp [*]; done)), H', ⟨by have := HJ13.out; have := HK2.out; have := HJ21.out; omega⟩, ⟨by (with_reducible repeat (first | apply Kd.R_alloc | apply Kd.R_drewN | apply Kd.R_drew)); exact HO_1.out⟩, ⟨by (with_reducible repeat (first | apply Kd.R_alloc | apply Kd.R_drewN | apply Kd.R_drew)); exact HO_2.out⟩, ⟨by (with_reducible repeat (first | apply Kd.V_alloc | apply Kd.V_drewN | apply Kd.V_drew)); exact HO605.out⟩, ⟨by (with_reducible repeat (first | apply Kd.V_alloc | apply Kd.V_drewN | apply Kd.V_drew)); exact HO601.out⟩, ⟨by repeat (first | (with_reducible first | exact HK.out | apply Kept.alloc | apply Kept.drewN | apply Kept.drew) | exact HK.out)⟩, ⟨by repeat (first | (with_reducible first | exact HB.out | apply below_alloc | apply pw_below_drewN | apply below_drew1) | exact HB.out)⟩⟩
                    · replace c25 := Bool.eq_false_iff.mpr c25
                      subst c25
                      have H1 : ((vernierref06_shift.f kj21 x1_13 x2_13 (wrap64 (x3_13 + 1022))).bind fun bt606 => ((vernierref01_Cmp.f kj21 bt606.1 bt606.2).bind fun t612 => ((vernierref01_Shl.f kj21 x15_2 1).bind fun t613 => ((vernierref01_Cmp.f kj21 t613 x16_2).bind fun t616 => (if a4 = 1 then (vernierref06_Round.j3 kj21 a0 a4 x13_2 x14_2 (decide ((x15_2.length : Int) > 0)) (decide (t612 < 0)) (decide (t616 ≥ 0))) else (if a4 = 2 then (vernierref06_Round.j3 kj21 a0 a4 x13_2 x14_2 (decide ((x15_2.length : Int) > 0)) (decide (t612 < 0)) false) else (if a4 = 3 then (if (x15_2.length : Int) > 0 then (vernierref06_Round.j3 kj21 a0 a4 x13_2 x14_2 (decide ((x15_2.length : Int) > 0)) (decide (t612 < 0)) (!a0)) else (vernierref06_Round.j3 kj21 a0 a4 x13_2 x14_2 (decide ((x15_2.length : Int) > 0)) (decide (t612 < 0)) false)) else (if a4 = 4 then (if (x15_2.length : Int) > 0 then (vernierref06_Round.j3 kj21 a0 a4 x13_2 x14_2 (decide ((x15_2.length : Int) > 0)) (decide (t612 < 0)) a0) else (vernierref06_Round.j3 kj21 a0 a4 x13_2 x14_2 (decide ((x15_2.length : Int) > 0)) (decide (t612 < 0)) false)) else (if t616 > 0 then (vernierref06_Round.j3 kj21 a0 a4 x13_2 x14_2 (decide ((x15_2.length : Int) > 0)) (decide (t612 < 0)) true) else (if t616 = 0 then (vernierref06_Round.j3 kj21 a0 a4 x13_2 x14_2 (decide ((x15_2.length : Int) > 0)) (decide (t612 < 0)) ((Int.tmod x14_2 2) == 1)) else (vernierref06_Round.j3 kj21 a0 a4 x13_2 x14_2 (decide ((x15_2.length : Int) > 0)) (decide (t612 < 0)) false))))))))))) = some (r1, r2) := by rw [if_neg (show ¬ (false = true) by decide)] at H; exact H
                      clear H
                      have H := H1
                      clear H1
                      replace H := Option.bind_eq_some_iff.mp H
                      obtain ⟨⟨t606, t609⟩, A430, H⟩ := H
                      replace H : ((vernierref01_Cmp.f kj21 t606 t609).bind fun t612 => ((vernierref01_Shl.f kj21 x15_2 1).bind fun t613 => ((vernierref01_Cmp.f kj21 t613 x16_2).bind fun t616 => (if a4 = 1 then (vernierref06_Round.j3 kj21 a0 a4 x13_2 x14_2 (decide ((x15_2.length : Int) > 0)) (decide (t612 < 0)) (decide (t616 ≥ 0))) else (if a4 = 2 then (vernierref06_Round.j3 kj21 a0 a4 x13_2 x14_2 (decide ((x15_2.length : Int) > 0)) (decide (t612 < 0)) false) else (if a4 = 3 then (if (x15_2.length : Int) > 0 then (vernierref06_Round.j3 kj21 a0 a4 x13_2 x14_2 (decide ((x15_2.length : Int) > 0)) (decide (t612 < 0)) (!a0)) else (vernierref06_Round.j3 kj21 a0 a4 x13_2 x14_2 (decide ((x15_2.length : Int) > 0)) (decide (t612 < 0)) false)) else (if a4 = 4 then (if (x15_2.length : Int) > 0 then (vernierref06_Round.j3 kj21 a0 a4 x13_2 x14_2 (decide ((x15_2.length : Int) > 0)) (decide (t612 < 0)) a0) else (vernierref06_Round.j3 kj21 a0 a4 x13_2 x14_2 (decide ((x15_2.length : Int) > 0)) (decide (t612 < 0)) false)) else (if t616 > 0 then (vernierref06_Round.j3 kj21 a0 a4 x13_2 x14_2 (decide ((x15_2.length : Int) > 0)) (decide (t612 < 0)) true) else (if t616 = 0 then (vernierref06_Round.j3 kj21 a0 a4 x13_2 x14_2 (decide ((x15_2.length : Int) > 0)) (decide (t612 < 0)) ((Int.tmod x14_2 2) == 1)) else (vernierref06_Round.j3 kj21 a0 a4 x13_2 x14_2 (decide ((x15_2.length : Int) > 0)) (decide (t612 < 0)) false)))))))))) = some (r1, r2) := H
                      have A43 := Aside0.mk A430
                      clear A430
                      replace H := Option.bind_eq_some_iff.mp H
                      obtain ⟨t612, A440, H⟩ := H
                      replace H : ((vernierref01_Shl.f kj21 x15_2 1).bind fun t613 => ((vernierref01_Cmp.f kj21 t613 x16_2).bind fun t616 => (if a4 = 1 then (vernierref06_Round.j3 kj21 a0 a4 x13_2 x14_2 (decide ((x15_2.length : Int) > 0)) (decide (t612 < 0)) (decide (t616 ≥ 0))) else (if a4 = 2 then (vernierref06_Round.j3 kj21 a0 a4 x13_2 x14_2 (decide ((x15_2.length : Int) > 0)) (decide (t612 < 0)) false) else (if a4 = 3 then (if (x15_2.length : Int) > 0 then (vernierref06_Round.j3 kj21 a0 a4 x13_2 x14_2 (decide ((x15_2.length : Int) > 0)) (decide (t612 < 0)) (!a0)) else (vernierref06_Round.j3 kj21 a0 a4 x13_2 x14_2 (decide ((x15_2.length : Int) > 0)) (decide (t612 < 0)) false)) else (if a4 = 4 then (if (x15_2.length : Int) > 0 then (vernierref06_Round.j3 kj21 a0 a4 x13_2 x14_2 (decide ((x15_2.length : Int) > 0)) (decide (t612 < 0)) a0) else (vernierref06_Round.j3 kj21 a0 a4 x13_2 x14_2 (decide ((x15_2.length : Int) > 0)) (decide (t612 < 0)) false)) else (if t616 > 0 then (vernierref06_Round.j3 kj21 a0 a4 x13_2 x14_2 (decide ((x15_2.length : Int) > 0)) (decide (t612 < 0)) true) else (if t616 = 0 then (vernierref06_Round.j3 kj21 a0 a4 x13_2 x14_2 (decide ((x15_2.length : Int) > 0)) (decide (t612 < 0)) ((Int.tmod x14_2 2) == 1)) else (vernierref06_Round.j3 kj21 a0 a4 x13_2 x14_2 (decide ((x15_2.length : Int) > 0)) (decide (t612 < 0)) false))))))))) = some (r1, r2) := H
                      have A44 := Aside0.mk A440
                      clear A440
                      replace H := Option.bind_eq_some_iff.mp H
                      obtain ⟨t613, A450, H⟩ := H
                      replace H : ((vernierref01_Cmp.f kj21 t613 x16_2).bind fun t616 => (if a4 = 1 then (vernierref06_Round.j3 kj21 a0 a4 x13_2 x14_2 (decide ((x15_2.length : Int) > 0)) (decide (t612 < 0)) (decide (t616 ≥ 0))) else (if a4 = 2 then (vernierref06_Round.j3 kj21 a0 a4 x13_2 x14_2 (decide ((x15_2.length : Int) > 0)) (decide (t612 < 0)) false) else (if a4 = 3 then (if (x15_2.length : Int) > 0 then (vernierref06_Round.j3 kj21 a0 a4 x13_2 x14_2 (decide ((x15_2.length : Int) > 0)) (decide (t612 < 0)) (!a0)) else (vernierref06_Round.j3 kj21 a0 a4 x13_2 x14_2 (decide ((x15_2.length : Int) > 0)) (decide (t612 < 0)) false)) else (if a4 = 4 then (if (x15_2.length : Int) > 0 then (vernierref06_Round.j3 kj21 a0 a4 x13_2 x14_2 (decide ((x15_2.length : Int) > 0)) (decide (t612 < 0)) a0) else (vernierref06_Round.j3 kj21 a0 a4 x13_2 x14_2 (decide ((x15_2.length : Int) > 0)) (decide (t612 < 0)) false)) else (if t616 > 0 then (vernierref06_Round.j3 kj21 a0 a4 x13_2 x14_2 (decide ((x15_2.length : Int) > 0)) (decide (t612 < 0)) true) else (if t616 = 0 then (vernierref06_Round.j3 kj21 a0 a4 x13_2 x14_2 (decide ((x15_2.length : Int) > 0)) (decide (t612 < 0)) ((Int.tmod x14_2 2) == 1)) else (vernierref06_Round.j3 kj21 a0 a4 x13_2 x14_2 (decide ((x15_2.length : Int) > 0)) (decide (t612 < 0)) false)))))))) = some (r1, r2) := H
                      have A45 := Aside0.mk A450
                      clear A450
                      replace H := Option.bind_eq_some_iff.mp H
                      obtain ⟨t616, A460, H⟩ := H
                      replace H : (if a4 = 1 then (vernierref06_Round.j3 kj21 a0 a4 x13_2 x14_2 (decide ((x15_2.length : Int) > 0)) (decide (t612 < 0)) (decide (t616 ≥ 0))) else (if a4 = 2 then (vernierref06_Round.j3 kj21 a0 a4 x13_2 x14_2 (decide ((x15_2.length : Int) > 0)) (decide (t612 < 0)) false) else (if a4 = 3 then (if (x15_2.length : Int) > 0 then (vernierref06_Round.j3 kj21 a0 a4 x13_2 x14_2 (decide ((x15_2.length : Int) > 0)) (decide (t612 < 0)) (!a0)) else (vernierref06_Round.j3 kj21 a0 a4 x13_2 x14_2 (decide ((x15_2.length : Int) > 0)) (decide (t612 < 0)) false)) else (if a4 = 4 then (if (x15_2.length : Int) > 0 then (vernierref06_Round.j3 kj21 a0 a4 x13_2 x14_2 (decide ((x15_2.length : Int) > 0)) (decide (t612 < 0)) a0) else (vernierref06_Round.j3 kj21 a0 a4 x13_2 x14_2 (decide ((x15_2.length : Int) > 0)) (decide (t612 < 0)) false)) else (if t616 > 0 then (vernierref06_Round.j3 kj21 a0 a4 x13_2 x14_2 (decide ((x15_2.length : Int) > 0)) (decide (t612 < 0)) true) else (if t616 = 0 then (vernierref06_Round.j3 kj21 a0 a4 x13_2 x14_2 (decide ((x15_2.length : Int) > 0)) (decide (t612 < 0)) ((Int.tmod x14_2 2) == 1)) else (vernierref06_Round.j3 kj21 a0 a4 x13_2 x14_2 (decide ((x15_2.length : Int) > 0)) (decide (t612 < 0)) false))))))) = some (r1, r2) := H
                      have A46 := Aside0.mk A460
                      clear A460
                      have HC47 := Aside0.mk H
                      clear H
                      obtain ⟨Ao48, co48, eo48⟩ := Kd.V_slice HO_15.out
                      subst eo48
                      obtain ⟨Ao49, co49, eo49⟩ := Kd.R_slice HO_1.out
                      subst eo49
                      obtain ⟨Ao50, co50, eo50⟩ := Kd.R_slice HO_2.out
                      subst eo50
                      go_upto_block 2 with (first | ((with_reducible refine gate_callee (f := 121) rfl ?_); refine goesL_ (some 88) rfl rfl Try.func121 (by kernel_rfl) rfl #[.slice Ao49 x1_13.length co49, .slice Ao50 x2_13.length co50, .int .i64 (wrap64 (x3_13 + 1022))] rfl (by (try simp only [List.map_toArray, List.map_cons, List.map_nil]); first | done | rfl | (simp only [List.length_drop, List.length_take]; rfl)) ?_; (with_reducible refine (vernierref06_shift.calls kj21 (fun k_ => some k_ = (.slice Ao49 x1_13.length co49 : Value).ownBlock) _ _ x1_13 (fun k_ => some k_ = (.slice Ao50 x2_13.length co50 : Value).ownBlock) _ _ x2_13 (wrap64 (x3_13 + 1022)) t606 t609 _ ?side1 ?side2 A43.out).mono ?_); (case side1 => exact Kd.R_V (Kd.R_tight rfl (HO_1.out))); (case side2 => exact Kd.R_V (Kd.R_tight rfl (HO_2.out))); rintro e w51 ⟨v607, v610, rfl, ho0, ho1, hb⟩; refine ⟨_, rfl, ?_⟩; have n0_ := Aside0.mk (Kd.R_below (by (with_reducible repeat (first | apply Kd.R_alloc | apply Kd.R_drewN | apply Kd.R_drew)); exact HO_1.out) hb); have n1_ := Aside0.mk (Kd.R_below (by (with_reducible repeat (first | apply Kd.R_alloc | apply Kd.R_drewN | apply Kd.R_drew)); exact HO_2.out) hb); have n2_ := Aside0.mk (Kd.V_below (by (with_reducible repeat (first | apply Kd.V_alloc | apply Kd.V_drewN | apply Kd.V_drew)); exact HO_15.out) hb); have n3_ := Aside0.mk (Kd.V_below (by (with_reducible repeat (first | apply Kd.V_alloc | apply Kd.V_drewN | apply Kd.V_drew)); exact HO_16.out) hb); have n4_ := Aside0.mk (Kd.V_lower (Kd.V_mono (ok' := fun k_ => ((P1_ k_ ∨ P2_ k_) ∨ w.heap.size ≤ k_)) ho0 (fun k_ hk_ => Or.elim hk_ (fun hs_ => Or.elim hs_ (fun hs_ => ((HO_1.out).1 k_ hs_.symm).1) (fun hs_ => ((HO_2.out).1 k_ hs_.symm).1)) (fun hn_ => (.inr (Nat.le_trans (by first | exact HK.out.1 | exact (show Kept w _ (fun k_ => P1_ k_ ∨ P2_ k_) from by repeat (first | (with_reducible first | exact HK.out | apply Kept.alloc | apply Kept.drewN | apply Kept.drew) | exact HK.out)).1) hn_))))) (below_size (by repeat (first | (with_reducible first | exact HB.out | apply below_alloc | apply pw_below_drewN | apply below_drew1) | exact HB.out)))); have n5_ := Aside0.mk (Kd.V_lower (Kd.V_mono (ok' := fun k_ => ((P1_ k_ ∨ P2_ k_) ∨ w.heap.size ≤ k_)) ho1 (fun k_ hk_ => Or.elim hk_ (fun hs_ => Or.elim hs_ (fun hs_ => ((HO_1.out).1 k_ hs_.symm).1) (fun hs_ => ((HO_2.out).1 k_ hs_.symm).1)) (fun hn_ => (.inr (Nat.le_trans (by first | exact HK.out.1 | exact (show Kept w _ (fun k_ => P1_ k_ ∨ P2_ k_) from by repeat (first | (with_reducible first | exact HK.out | apply Kept.alloc | apply Kept.drewN | apply Kept.drew) | exact HK.out)).1) hn_))))) (below_size (by repeat (first | (with_reducible first | exact HB.out | apply below_alloc | apply pw_below_drewN | apply below_drew1) | exact HB.out)))); have n6_ := Aside0.mk (Kept.below (S := (fun k_ => P1_ k_ ∨ P2_ k_)) (by repeat (first | (with_reducible first | exact HK.out | apply Kept.alloc | apply Kept.drewN | apply Kept.drew) | exact HK.out)) hb); have n7_ := Aside0.mk (below_step (by repeat (first | (with_reducible first | exact HB.out | apply below_alloc | apply pw_below_drewN | apply below_drew1) | exact HB.out)) hb); clear HO_1; clear HO_2; clear HO_15; clear HO_16; clear HK; clear HB; have HO_1 := n0_; have HO_2 := n1_; have HO_15 := n2_; have HO_16 := n3_; have HO608 := n4_; have HO611 := n5_; have HK := n6_; have HB := n7_; clear n0_ n1_ n2_ n3_ n4_ n5_ n6_ n7_; (try clear hb); (try clear hb2); (try clear hk); (try clear hi); (try clear ho0); (try clear ho1); obtain ⟨Ao52, co52, eo52⟩ := Kd.V_slice HO608.out; subst eo52; obtain ⟨Ao53, co53, eo53⟩ := Kd.V_slice HO611.out; subst eo53) | ((with_reducible refine gate_callee (f := 19) rfl ?_); refine goesL_ (some 93) rfl rfl Try.func19 (by kernel_rfl) rfl #[.slice Ao52 t606.length co52, .slice Ao53 t609.length co53] rfl (by (try simp only [List.map_toArray, List.map_cons, List.map_nil]); first | done | rfl | (simp only [List.length_drop, List.length_take]; rfl)) ?_; (with_reducible refine (vernierref01_Cmp.calls kj21 _ _ t606 _ _ t609 t612 _ ?side1 ?side2 ?side3 ?side4 A44.out).mono ?_); (case side1 => repeat (first | exact (Kd.V_reads' HO608.out).2.2 | (with_reducible refine Kd.C_alloc ?_ _) | (with_reducible refine Kd.C_drewN ?_ _) | (with_reducible refine Kd.C_drew ?_))); (case side2 => exact (Kd.V_reads' HO608.out).2.1); (case side3 => repeat (first | exact (Kd.V_reads' HO611.out).2.2 | (with_reducible refine Kd.C_alloc ?_ _) | (with_reducible refine Kd.C_drewN ?_ _) | (with_reducible refine Kd.C_drew ?_))); (case side4 => exact (Kd.V_reads' HO611.out).2.1); rintro e w' ⟨rfl, ⟨nd, rfl⟩⟩; refine ⟨_, rfl, ?_⟩) | ((with_reducible refine gate_callee (f := 49) rfl ?_); refine goesL_ (some 96) rfl rfl Try.func49 (by kernel_rfl) rfl #[.slice Ao48 x15_2.length co48, .int .i64 1] rfl (by (try simp only [List.map_toArray, List.map_cons, List.map_nil]); first | done | rfl | (simp only [List.length_drop, List.length_take]; rfl)) ?_; (with_reducible refine (vernierref01_Shl.calls kj21 _ _ x15_2 1 t613 _ ?side1 ?side2 A45.out).mono ?_); (case side1 => repeat (first | exact (Kd.V_reads' HO_15.out).2.2 | (with_reducible refine Kd.C_alloc ?_ _) | (with_reducible refine Kd.C_drewN ?_ _) | (with_reducible refine Kd.C_drew ?_))); (case side2 => exact (Kd.V_reads' HO_15.out).2.1); rintro e w54 ⟨v614, rfl, ho0, hb⟩; refine ⟨_, rfl, ?_⟩; have n0_ := Aside0.mk (Kd.R_elder' (by (with_reducible repeat (first | apply Kd.R_alloc | apply Kd.R_drewN | apply Kd.R_drew)); exact HO_1.out) (Kd.R_base ho0) hb); have n1_ := Aside0.mk (Kd.R_elder' (by (with_reducible repeat (first | apply Kd.R_alloc | apply Kd.R_drewN | apply Kd.R_drew)); exact HO_2.out) (Kd.R_base ho0) hb); have n2_ := Aside0.mk (Kd.V_elder' (by (with_reducible repeat (first | apply Kd.V_alloc | apply Kd.V_drewN | apply Kd.V_drew)); exact HO_15.out) (Kd.R_base ho0) hb); have n3_ := Aside0.mk (Kd.V_elder' (by (with_reducible repeat (first | apply Kd.V_alloc | apply Kd.V_drewN | apply Kd.V_drew)); exact HO_16.out) (Kd.R_base ho0) hb); have n4_ := Aside0.mk (Kd.V_elder' (by (with_reducible repeat (first | apply Kd.V_alloc | apply Kd.V_drewN | apply Kd.V_drew)); exact HO608.out) (Kd.R_base ho0) hb); have n5_ := Aside0.mk (Kd.V_elder' (by (with_reducible repeat (first | apply Kd.V_alloc | apply Kd.V_drewN | apply Kd.V_drew)); exact HO611.out) (Kd.R_base ho0) hb); have n6_ := Aside0.mk (Kd.R_lower (Kd.R_new' (Kd.R_new' (Kd.R_newM (M := fun k_ => ((P1_ k_ ∨ P2_ k_) ∨ w.heap.size ≤ k_)) ho0 (by first | exact HK.out.1 | exact (show Kept w _ (fun k_ => P1_ k_ ∨ P2_ k_) from by repeat (first | (with_reducible first | exact HK.out | apply Kept.alloc | apply Kept.drewN | apply Kept.drew) | exact HK.out)).1) (fun k_ h_ => .inr h_)) (Kd.R_lt (by (with_reducible repeat (first | apply Kd.R_alloc | apply Kd.R_drewN | apply Kd.R_drew)); exact HO_1.out))) (Kd.R_lt (by (with_reducible repeat (first | apply Kd.R_alloc | apply Kd.R_drewN | apply Kd.R_drew)); exact HO_2.out))) (below_size (by repeat (first | (with_reducible first | exact HB.out | apply below_alloc | apply pw_below_drewN | apply below_drew1) | exact HB.out)))); have n7_ := Aside0.mk (Kept.below (S := (fun k_ => P1_ k_ ∨ P2_ k_)) (by repeat (first | (with_reducible first | exact HK.out | apply Kept.alloc | apply Kept.drewN | apply Kept.drew) | exact HK.out)) hb); have n8_ := Aside0.mk (below_step (by repeat (first | (with_reducible first | exact HB.out | apply below_alloc | apply pw_below_drewN | apply below_drew1) | exact HB.out)) hb); clear HO_1; clear HO_2; clear HO_15; clear HO_16; clear HO608; clear HO611; clear HK; clear HB; have HO_1 := n0_; have HO_2 := n1_; have HO_15 := n2_; have HO_16 := n3_; have HO608 := n4_; have HO611 := n5_; have HO615 := n6_; have HK := n7_; have HB := n8_; clear n0_ n1_ n2_ n3_ n4_ n5_ n6_ n7_ n8_; (try clear hb); (try clear hb2); (try clear hk); (try clear hi); (try clear ho0); obtain ⟨Ao55, co55, eo55⟩ := Kd.R_slice HO615.out; subst eo55; obtain ⟨Ao56, co56, eo56⟩ := Kd.V_slice HO_16.out; subst eo56) | ((with_reducible refine gate_callee (f := 19) rfl ?_); refine goesL_ (some 98) rfl rfl Try.func19 (by kernel_rfl) rfl #[.slice Ao55 t613.length co55, .slice Ao56 x16_2.length co56] rfl (by (try simp only [List.map_toArray, List.map_cons, List.map_nil]); first | done | rfl | (simp only [List.length_drop, List.length_take]; rfl)) ?_; (with_reducible refine (vernierref01_Cmp.calls kj21 _ _ t613 _ _ x16_2 t616 _ ?side1 ?side2 ?side3 ?side4 A46.out).mono ?_); (case side1 => repeat (first | exact (Kd.R_reads' HO615.out).2.2 | (with_reducible refine Kd.C_alloc ?_ _) | (with_reducible refine Kd.C_drewN ?_ _) | (with_reducible refine Kd.C_drew ?_))); (case side2 => exact (Kd.R_reads' HO615.out).2.1); (case side3 => repeat (first | exact (Kd.V_reads' HO_16.out).2.2 | (with_reducible refine Kd.C_alloc ?_ _) | (with_reducible refine Kd.C_drewN ?_ _) | (with_reducible refine Kd.C_drew ?_))); (case side4 => exact (Kd.V_reads' HO_16.out).2.1); rintro e w' ⟨rfl, ⟨nd, rfl⟩⟩; refine ⟨_, rfl, ?_⟩))
                      (try simp only [Act.put, List.setIfInBounds_toArray, List.set_cons_zero, List.set_cons_succ])
                      go_cut [25] (fun v25 wc => ∃ (kq : Nat) (x25_46 : Bool), v25 = .bool x25_46 ∧ Aside0 (vernierref06_Round.j3 kq a0 a4 x13_2 x14_2 (decide ((x15_2.length : Int) > 0)) (decide (t612 < 0)) x25_46 = some (r1, r2)) ∧ Aside0 (kq ≤ kj21) ∧ Aside0 (Kept w wc (fun k_ => P1_ k_ ∨ P2_ k_)) ∧ Aside0 (Below w0.heap.size w0 wc))
                      case first =>
                        have H := HC47.out
                        clear HC47
                        by_cases c57 : a4 = 1
                        · rw [if_pos c57] at H
                          have c57b0 : (a4 == 1) = true := beq_iff_eq.mpr c57
                          have c57b1 : (a4 != 1) = false := bne_eq_false_iff_eq.mpr c57
                          clear c57
                          (first | rw [c57b0] | (simp only [i64_w, i32_w]; rw [c57b0]) | skip)
                          have H' := Aside0.mk H
                          clear H
                          go_wp2
                          go_meet
                          case rel => exact ⟨_, (decide (t616 ≥ 0)), (by first | rfl | (simp; done) | (simp [*]; done)), H', ⟨by have := HJ13.out; have := HK2.out; have := HJ21.out; first | omega | exact Nat.le_refl _⟩, ⟨by repeat (first | (with_reducible first | exact HK.out | apply Kept.alloc | apply Kept.drewN | apply Kept.drew) | exact HK.out)⟩, ⟨by repeat (first | (with_reducible first | exact HB.out | apply below_alloc | apply pw_below_drewN | apply below_drew1) | exact HB.out)⟩⟩
                        · rw [if_neg c57] at H
                          have c57b0 : (a4 == 1) = false := beq_eq_false_iff_ne.mpr c57
                          have c57b1 : (a4 != 1) = true := bne_iff_ne.mpr c57
                          (first | rw [c57b0] | (simp only [i64_w, i32_w]; rw [c57b0]) | skip)
                          by_cases c58 : a4 = 2
                          · rw [if_pos c58] at H
                            have c58b0 : (a4 == 2) = true := beq_iff_eq.mpr c58
                            have c58b1 : (a4 != 2) = false := bne_eq_false_iff_eq.mpr c58
                            clear c58
                            have H' := Aside0.mk H
                            clear H
                            go_wp2
                            go_meet
                            case rel => exact ⟨_, (false), (by first | rfl | (simp; done) | (simp [*]; done)), H', ⟨by have := HJ13.out; have := HK2.out; have := HJ21.out; first | omega | exact Nat.le_refl _⟩, ⟨by repeat (first | (with_reducible first | exact HK.out | apply Kept.alloc | apply Kept.drewN | apply Kept.drew) | exact HK.out)⟩, ⟨by repeat (first | (with_reducible first | exact HB.out | apply below_alloc | apply pw_below_drewN | apply below_drew1) | exact HB.out)⟩⟩
                          · rw [if_neg c58] at H
                            have c58b0 : (a4 == 2) = false := beq_eq_false_iff_ne.mpr c58
                            have c58b1 : (a4 != 2) = true := bne_iff_ne.mpr c58
                            by_cases c59 : a4 = 3
                            · rw [if_pos c59] at H
                              have c59b0 : (a4 == 3) = true := beq_iff_eq.mpr c59
                              have c59b1 : (a4 != 3) = false := bne_eq_false_iff_eq.mpr c59
                              clear c59
                              by_cases c60 : (x15_2.length : Int) > 0
                              · rw [if_pos c60] at H
                                have c60b0 : decide (0 < (x15_2.length : Int)) = true := decide_eq_true c60
                                have c60b1 : decide (0 < x15_2.length) = true := decide_eq_true (by omega)
                                clear c60
                                have H' := Aside0.mk H
                                clear H
                                go_wp2
                                (try simp only [c60b1] at *)
                                go_meet
                                case rel => exact ⟨_, (!a0), (by first | rfl | (simp; done) | (simp [*]; done)), H', ⟨by have := HJ13.out; have := HK2.out; have := HJ21.out; first | omega | exact Nat.le_refl _⟩, ⟨by repeat (first | (with_reducible first | exact HK.out | apply Kept.alloc | apply Kept.drewN | apply Kept.drew) | exact HK.out)⟩, ⟨by repeat (first | (with_reducible first | exact HB.out | apply below_alloc | apply pw_below_drewN | apply below_drew1) | exact HB.out)⟩⟩
                              · rw [if_neg c60] at H
                                have c60b0 : decide (0 < (x15_2.length : Int)) = false := decide_eq_false c60
                                have c60b1 : decide (0 < x15_2.length) = false := decide_eq_false (by omega)
                                clear c60
                                have H' := Aside0.mk H
                                clear H
                                go_wp2
                                (try simp only [c60b1] at *)
                                go_meet
                                case rel => exact ⟨_, (false), (by first | rfl | (simp; done) | (simp [*]; done)), H', ⟨by have := HJ13.out; have := HK2.out; have := HJ21.out; first | omega | exact Nat.le_refl _⟩, ⟨by repeat (first | (with_reducible first | exact HK.out | apply Kept.alloc | apply Kept.drewN | apply Kept.drew) | exact HK.out)⟩, ⟨by repeat (first | (with_reducible first | exact HB.out | apply below_alloc | apply pw_below_drewN | apply below_drew1) | exact HB.out)⟩⟩
                            · rw [if_neg c59] at H
                              have c59b0 : (a4 == 3) = false := beq_eq_false_iff_ne.mpr c59
                              have c59b1 : (a4 != 3) = true := bne_iff_ne.mpr c59
                              by_cases c61 : a4 = 4
                              · rw [if_pos c61] at H
                                have c61b0 : (a4 == 4) = true := beq_iff_eq.mpr c61
                                have c61b1 : (a4 != 4) = false := bne_eq_false_iff_eq.mpr c61
                                clear c61
                                by_cases c62 : (x15_2.length : Int) > 0
                                · rw [if_pos c62] at H
                                  have c62b0 : decide (0 < (x15_2.length : Int)) = true := decide_eq_true c62
                                  have c62b1 : decide (0 < x15_2.length) = true := decide_eq_true (by omega)
                                  clear c62
                                  have H' := Aside0.mk H
                                  clear H
                                  go_wp2
                                  (try simp only [c62b1] at *)
                                  go_meet
                                  case rel => exact ⟨_, (a0), (by first | rfl | (simp; done) | (simp [*]; done)), H', ⟨by have := HJ13.out; have := HK2.out; have := HJ21.out; first | omega | exact Nat.le_refl _⟩, ⟨by repeat (first | (with_reducible first | exact HK.out | apply Kept.alloc | apply Kept.drewN | apply Kept.drew) | exact HK.out)⟩, ⟨by repeat (first | (with_reducible first | exact HB.out | apply below_alloc | apply pw_below_drewN | apply below_drew1) | exact HB.out)⟩⟩
                                · rw [if_neg c62] at H
                                  have c62b0 : decide (0 < (x15_2.length : Int)) = false := decide_eq_false c62
                                  have c62b1 : decide (0 < x15_2.length) = false := decide_eq_false (by omega)
                                  clear c62
                                  have H' := Aside0.mk H
                                  clear H
                                  go_wp2
                                  (try simp only [c62b1] at *)
                                  go_meet
                                  case rel => exact ⟨_, (false), (by first | rfl | (simp; done) | (simp [*]; done)), H', ⟨by have := HJ13.out; have := HK2.out; have := HJ21.out; first | omega | exact Nat.le_refl _⟩, ⟨by repeat (first | (with_reducible first | exact HK.out | apply Kept.alloc | apply Kept.drewN | apply Kept.drew) | exact HK.out)⟩, ⟨by repeat (first | (with_reducible first | exact HB.out | apply below_alloc | apply pw_below_drewN | apply below_drew1) | exact HB.out)⟩⟩
                              · rw [if_neg c61] at H
                                have c61b0 : (a4 == 4) = false := beq_eq_false_iff_ne.mpr c61
                                have c61b1 : (a4 != 4) = true := bne_iff_ne.mpr c61
                                by_cases c63 : t616 > 0
                                · rw [if_pos c63] at H
                                  have c63b0 : decide (0 < t616) = true := decide_eq_true c63
                                  clear c63
                                  have H' := Aside0.mk H
                                  clear H
                                  go_wp2
                                  go_meet
                                  case rel => exact ⟨_, (true), (by first | rfl | (simp; done) | (simp [*]; done)), H', ⟨by have := HJ13.out; have := HK2.out; have := HJ21.out; first | omega | exact Nat.le_refl _⟩, ⟨by repeat (first | (with_reducible first | exact HK.out | apply Kept.alloc | apply Kept.drewN | apply Kept.drew) | exact HK.out)⟩, ⟨by repeat (first | (with_reducible first | exact HB.out | apply below_alloc | apply pw_below_drewN | apply below_drew1) | exact HB.out)⟩⟩
                                · rw [if_neg c63] at H
                                  have c63b0 : decide (0 < t616) = false := decide_eq_false c63
                                  clear c63
                                  by_cases c64 : t616 = 0
                                  · rw [if_pos c64] at H
                                    have c64b0 : (t616 == 0) = true := beq_iff_eq.mpr c64
                                    have c64b1 : (t616 != 0) = false := bne_eq_false_iff_eq.mpr c64
                                    clear c64
                                    have H' := Aside0.mk H
                                    clear H
                                    go_wp2
                                    go_meet
                                    case rel => exact ⟨_, (((Int.tmod x14_2 2) == 1)), (by first | rfl | (simp; done) | (simp [*]; done)), H', ⟨by have := HJ13.out; have := HK2.out; have := HJ21.out; first | omega | exact Nat.le_refl _⟩, ⟨by repeat (first | (with_reducible first | exact HK.out | apply Kept.alloc | apply Kept.drewN | apply Kept.drew) | exact HK.out)⟩, ⟨by repeat (first | (with_reducible first | exact HB.out | apply below_alloc | apply pw_below_drewN | apply below_drew1) | exact HB.out)⟩⟩
                                  · rw [if_neg c64] at H
                                    have c64b0 : (t616 == 0) = false := beq_eq_false_iff_ne.mpr c64
                                    have c64b1 : (t616 != 0) = true := bne_iff_ne.mpr c64
                                    have H' := Aside0.mk H
                                    clear H
                                    go_wp2
                                    go_meet
                                    case rel => exact ⟨_, (false), (by first | rfl | (simp; done) | (simp [*]; done)), H', ⟨by have := HJ13.out; have := HK2.out; have := HJ21.out; first | omega | exact Nat.le_refl _⟩, ⟨by repeat (first | (with_reducible first | exact HK.out | apply Kept.alloc | apply Kept.drewN | apply Kept.drew) | exact HK.out)⟩, ⟨by repeat (first | (with_reducible first | exact HB.out | apply below_alloc | apply pw_below_drewN | apply below_drew1) | exact HB.out)⟩⟩
                      case rest =>
                        as_aux_lemma =>
                          clear HC47
                          try clear c1
                          try clear p1
                          try clear c2
                          try clear p2
                          try clear c4
                          try clear c5
                          try clear c6
                          try clear p6
                          try clear c9
                          try clear c9b0
                          try clear c10
                          try clear c12
                          try clear c17
                          try clear c17b0
                          try clear c19
                          try clear c23
                          try clear c23b0
                          try clear c24
                          try clear c24b0
                          try clear c24b1
                          try clear c25
                          try clear c26
                          try clear c26b0
                          try clear c49
                          try clear c57
                          try clear c57b0
                          try clear c57b1
                          try clear c58
                          try clear c58b0
                          try clear c58b1
                          try clear c59
                          try clear c59b0
                          try clear c59b1
                          try clear c60
                          try clear c60b0
                          try clear c60b1
                          try clear c61
                          try clear c61b0
                          try clear c61b1
                          try clear c62
                          try clear c62b0
                          try clear c62b1
                          try clear c63
                          try clear c63b0
                          try clear c64
                          try clear c64b0
                          try clear c64b1
                          try clear p64
                          try clear p1
                          try clear p2
                          try clear p6
                          obtain ⟨kq, x25_46, rfl, HA, HJ46, HK, HB⟩ := hcut
                          cases kq with
                          | zero => exact absurd HA.out (by simp [vernierref06_Round.j3])
                          | succ kj46 =>
                            have H := HA.out
                            clear HA
                            simp only [vernierref06_Round.j3] at H
                            have HC65 := Aside0.mk H
                            clear H
                            go_upto_if 130 with (fail)
                            go_cut [14] (fun v14 wc => ∃ (kq : Nat) (x14_64 : Int), v14 = .int .u64 x14_64 ∧ Aside0 (vernierref06_Round.j4 kq a0 a4 x13_2 x14_64 (decide ((x15_2.length : Int) > 0)) (decide (t612 < 0)) = some (r1, r2)) ∧ Aside0 (kq ≤ kj46) ∧ Aside0 (Kept w wc (fun k_ => P1_ k_ ∨ P2_ k_)) ∧ Aside0 (Below w0.heap.size w0 wc))
                            case first =>
                              have H := HC65.out
                              clear HC65
                              by_cases c66 : x25_46 = true
                              · subst c66
                                have H1 : (vernierref06_Round.j4 kj46 a0 a4 x13_2 (IntKind.u64.wrap (x14_2 + 1)) (decide ((x15_2.length : Int) > 0)) (decide (t612 < 0))) = some (r1, r2) := by rw [if_pos rfl] at H; exact H
                                clear H
                                have H := H1
                                clear H1
                                have H' := Aside0.mk H
                                clear H
                                go_wp2
                                go_meet
                                case rel => exact ⟨_, (IntKind.u64.wrap (x14_2 + 1)), (by first | rfl | (simp; done) | (simp [*]; done)), H', ⟨by have := HJ13.out; have := HK2.out; have := HJ21.out; have := HJ46.out; first | omega | exact Nat.le_refl _⟩, ⟨by repeat (first | (with_reducible first | exact HK.out | apply Kept.alloc | apply Kept.drewN | apply Kept.drew) | exact HK.out)⟩, ⟨by repeat (first | (with_reducible first | exact HB.out | apply below_alloc | apply pw_below_drewN | apply below_drew1) | exact HB.out)⟩⟩
                              · replace c66 := Bool.eq_false_iff.mpr c66
                                subst c66
                                have H1 : (vernierref06_Round.j4 kj46 a0 a4 x13_2 x14_2 (decide ((x15_2.length : Int) > 0)) (decide (t612 < 0))) = some (r1, r2) := by rw [if_neg (show ¬ (false = true) by decide)] at H; exact H
                                clear H
                                have H := H1
                                clear H1
                                have H' := Aside0.mk H
                                clear H
                                go_wp2
                                go_meet
                                case rel => exact ⟨_, (x14_2), (by first | rfl | (simp; done) | (simp [*]; done)), H', ⟨by have := HJ13.out; have := HK2.out; have := HJ21.out; have := HJ46.out; first | omega | exact Nat.le_refl _⟩, ⟨by repeat (first | (with_reducible first | exact HK.out | apply Kept.alloc | apply Kept.drewN | apply Kept.drew) | exact HK.out)⟩, ⟨by repeat (first | (with_reducible first | exact HB.out | apply below_alloc | apply pw_below_drewN | apply below_drew1) | exact HB.out)⟩⟩
                            case rest =>
                              as_aux_lemma =>
                                clear HC65
                                try clear c1
                                try clear p1
                                try clear c2
                                try clear p2
                                try clear c4
                                try clear c5
                                try clear c6
                                try clear p6
                                try clear c9
                                try clear c9b0
                                try clear c10
                                try clear c12
                                try clear c17
                                try clear c17b0
                                try clear c19
                                try clear c23
                                try clear c23b0
                                try clear c24
                                try clear c24b0
                                try clear c24b1
                                try clear c25
                                try clear c26
                                try clear c26b0
                                try clear c49
                                try clear c57
                                try clear c57b0
                                try clear c57b1
                                try clear c58
                                try clear c58b0
                                try clear c58b1
                                try clear c59
                                try clear c59b0
                                try clear c59b1
                                try clear c60
                                try clear c60b0
                                try clear c60b1
                                try clear c61
                                try clear c61b0
                                try clear c61b1
                                try clear c62
                                try clear c62b0
                                try clear c62b1
                                try clear c63
                                try clear c63b0
                                try clear c64
                                try clear c64b0
                                try clear c64b1
                                try clear p64
                                try clear c66
                                try clear p1
                                try clear p2
                                try clear p6
                                try clear p64
                                obtain ⟨kq, x14_64, rfl, HA, HJ64, HK, HB⟩ := hcut
                                cases kq with
                                | zero => exact absurd HA.out (by simp [vernierref06_Round.j4])
                                | succ kj64 =>
                                  have H := HA.out
                                  clear HA
                                  simp only [vernierref06_Round.j4] at H
                                  have HC67 := Aside0.mk H
                                  clear H
                                  go_upto_if 133 with (fail)
                                  go_cut [26] (fun v26 wc => ∃ (kq : Nat) (x26_66 : Int), v26 = .int .i64 x26_66 ∧ Aside0 (vernierref06_Round.j5 kq a0 a4 x13_2 x14_64 x26_66 = some (r1, r2)) ∧ Aside0 (kq ≤ kj64) ∧ Aside0 (Kept w wc (fun k_ => P1_ k_ ∨ P2_ k_)) ∧ Aside0 (Below w0.heap.size w0 wc))
                                  case first =>
                                    have H := HC67.out
                                    clear HC67
                                    by_cases c68 : (decide ((x15_2.length : Int) > 0)) = true
                                    · rw [if_pos c68] at H
                                      have c68b0 : (decide ((x15_2.length : Int) > 0)) = true := c68
                                      have c68b0z : decide (0 < x15_2.length) = true := by rw [← c68b0]; exact decide_eq_decide.2 Int.natCast_pos.symm
                                      (try rw [c68b0z])
                                      have c68b0y := eq_true (of_decide_eq_true c68b0z)
                                      clear c68
                                      (first | rw [c68b0] | (simp only [i64_w, i32_w]; rw [c68b0]) | skip)
                                      by_cases c69 : (decide (t612 < 0)) = true
                                      · rw [if_pos c69] at H
                                        have c69b0 : (decide (t612 < 0)) = true := c69
                                        have c69b0y := eq_true (of_decide_eq_true c69b0)
                                        (try rw [c69b0])
                                        have c69b0q : (decide (t612 < 0)) = true := c69b0
                                        clear c69
                                        have H' := Aside0.mk H
                                        clear H
                                        go_wp2
                                        (try simp only [c68b0z] at *)
                                        (try simp only [c69b0q] at *)
                                        go_meet
                                        case rel => exact ⟨_, (24), (by first | rfl | (simp; done) | (simp [*]; done)), H', ⟨by have := HJ13.out; have := HK2.out; have := HJ21.out; have := HJ46.out; have := HJ64.out; first | omega | exact Nat.le_refl _⟩, ⟨by repeat (first | (with_reducible first | exact HK.out | apply Kept.alloc | apply Kept.drewN | apply Kept.drew) | exact HK.out)⟩, ⟨by repeat (first | (with_reducible first | exact HB.out | apply below_alloc | apply pw_below_drewN | apply below_drew1) | exact HB.out)⟩⟩
                                      · rw [if_neg c69] at H
                                        have c69b0 : (decide (t612 < 0)) = false := by simpa using c69
                                        have c69b0y := eq_false (of_decide_eq_false c69b0)
                                        (try rw [c69b0])
                                        have c69b0q : (decide (t612 < 0)) = false := c69b0
                                        clear c69
                                        have H' := Aside0.mk H
                                        clear H
                                        go_wp2
                                        (try simp only [c68b0z] at *)
                                        (try simp only [c69b0q] at *)
                                        go_meet
                                        case rel => exact ⟨_, (16), (by first | rfl | (simp; done) | (simp [*]; done)), H', ⟨by have := HJ13.out; have := HK2.out; have := HJ21.out; have := HJ46.out; have := HJ64.out; first | omega | exact Nat.le_refl _⟩, ⟨by repeat (first | (with_reducible first | exact HK.out | apply Kept.alloc | apply Kept.drewN | apply Kept.drew) | exact HK.out)⟩, ⟨by repeat (first | (with_reducible first | exact HB.out | apply below_alloc | apply pw_below_drewN | apply below_drew1) | exact HB.out)⟩⟩
                                    · rw [if_neg c68] at H
                                      have c68b0 : (decide ((x15_2.length : Int) > 0)) = false := by simpa using c68
                                      have c68b0z : decide (0 < x15_2.length) = false := by rw [← c68b0]; exact decide_eq_decide.2 Int.natCast_pos.symm
                                      (try rw [c68b0z])
                                      have c68b0y := eq_false (of_decide_eq_false c68b0z)
                                      clear c68
                                      (first | rw [c68b0] | (simp only [i64_w, i32_w]; rw [c68b0]) | skip)
                                      have H' := Aside0.mk H
                                      clear H
                                      go_wp2
                                      (try simp only [c68b0z] at *)
                                      go_meet
                                      case rel => exact ⟨_, (0), (by first | rfl | (simp; done) | (simp [*]; done)), H', ⟨by have := HJ13.out; have := HK2.out; have := HJ21.out; have := HJ46.out; have := HJ64.out; first | omega | exact Nat.le_refl _⟩, ⟨by repeat (first | (with_reducible first | exact HK.out | apply Kept.alloc | apply Kept.drewN | apply Kept.drew) | exact HK.out)⟩, ⟨by repeat (first | (with_reducible first | exact HB.out | apply below_alloc | apply pw_below_drewN | apply below_drew1) | exact HB.out)⟩⟩
                                  case rest =>
                                    as_aux_lemma =>
                                      clear HC67
                                      try clear c1
                                      try clear p1
                                      try clear c2
                                      try clear p2
                                      try clear c4
                                      try clear c5
                                      try clear c6
                                      try clear p6
                                      try clear c9
                                      try clear c9b0
                                      try clear c10
                                      try clear c12
                                      try clear c17
                                      try clear c17b0
                                      try clear c19
                                      try clear c23
                                      try clear c23b0
                                      try clear c24
                                      try clear c24b0
                                      try clear c24b1
                                      try clear c25
                                      try clear c26
                                      try clear c26b0
                                      try clear c49
                                      try clear c57
                                      try clear c57b0
                                      try clear c57b1
                                      try clear c58
                                      try clear c58b0
                                      try clear c58b1
                                      try clear c59
                                      try clear c59b0
                                      try clear c59b1
                                      try clear c60
                                      try clear c60b0
                                      try clear c60b1
                                      try clear c61
                                      try clear c61b0
                                      try clear c61b1
                                      try clear c62
                                      try clear c62b0
                                      try clear c62b1
                                      try clear c63
                                      try clear c63b0
                                      try clear c64
                                      try clear c64b0
                                      try clear c64b1
                                      try clear p64
                                      try clear c66
                                      try clear c68
                                      try clear c68b0
                                      try clear c69
                                      try clear c69b0
                                      try clear p1
                                      try clear p2
                                      try clear p6
                                      try clear p64
                                      obtain ⟨kq, x26_66, rfl, HA, HJ66, HK, HB⟩ := hcut
                                      cases kq with
                                      | zero => exact absurd HA.out (by simp [vernierref06_Round.j5])
                                      | succ kj66 =>
                                        have H := HA.out
                                        clear HA
                                        simp only [vernierref06_Round.j5] at H
                                        have HC70 := Aside0.mk H
                                        clear H
                                        go_upto_if 136 with (fail)
                                        go_cut [13, 14] (fun v13 v14 wc => ∃ (kq : Nat) (x13_69 : Int) (x14_69 : Int), v13 = .int .i64 x13_69 ∧ v14 = .int .u64 x14_69 ∧ Aside0 (vernierref06_Round.j6 kq a0 a4 x13_69 x14_69 x26_66 = some (r1, r2)) ∧ Aside0 (kq ≤ kj66) ∧ Aside0 (Kept w wc (fun k_ => P1_ k_ ∨ P2_ k_)) ∧ Aside0 (Below w0.heap.size w0 wc))
                                        case first =>
                                          have H := HC70.out
                                          clear HC70
                                          by_cases c71 : x14_64 ≥ 9007199254740992
                                          · rw [if_pos c71] at H
                                            have c71b0 : decide (9007199254740992 ≤ x14_64) = true := decide_eq_true c71
                                            clear c71
                                            (first | rw [c71b0] | (simp only [i64_w, i32_w]; rw [c71b0]) | skip)
                                            have H' := Aside0.mk H
                                            clear H
                                            go_wp2
                                            go_meet
                                            case rel => exact ⟨_, (wrap64 (x13_2 + 1)), (IntKind.u64.wrap (Int.tdiv x14_64 2)), (by first | rfl | (simp; done) | (simp [*]; done)), (by first | rfl | (simp; done) | (simp [*]; done)), H', ⟨by have := HJ13.out; have := HK2.out; have := HJ21.out; have := HJ46.out; have := HJ64.out; have := HJ66.out; first | omega | exact Nat.le_refl _⟩, ⟨by repeat (first | (with_reducible first | exact HK.out | apply Kept.alloc | apply Kept.drewN | apply Kept.drew) | exact HK.out)⟩, ⟨by repeat (first | (with_reducible first | exact HB.out | apply below_alloc | apply pw_below_drewN | apply below_drew1) | exact HB.out)⟩⟩
                                          · rw [if_neg c71] at H
                                            have c71b0 : decide (9007199254740992 ≤ x14_64) = false := decide_eq_false c71
                                            clear c71
                                            (first | rw [c71b0] | (simp only [i64_w, i32_w]; rw [c71b0]) | skip)
                                            have H' := Aside0.mk H
                                            clear H
                                            go_wp2
                                            go_meet
                                            case rel => exact ⟨_, (x13_2), (x14_64), (by first | rfl | (simp; done) | (simp [*]; done)), (by first | rfl | (simp; done) | (simp [*]; done)), H', ⟨by have := HJ13.out; have := HK2.out; have := HJ21.out; have := HJ46.out; have := HJ64.out; have := HJ66.out; first | omega | exact Nat.le_refl _⟩, ⟨by repeat (first | (with_reducible first | exact HK.out | apply Kept.alloc | apply Kept.drewN | apply Kept.drew) | exact HK.out)⟩, ⟨by repeat (first | (with_reducible first | exact HB.out | apply below_alloc | apply pw_below_drewN | apply below_drew1) | exact HB.out)⟩⟩
                                        case rest =>
                                          as_aux_lemma =>
                                            clear HC70
                                            try clear c1
                                            try clear p1
                                            try clear c2
                                            try clear p2
                                            try clear c4
                                            try clear c5
                                            try clear c6
                                            try clear p6
                                            try clear c7
                                            try clear c9
                                            try clear c9b0
                                            try clear c10
                                            try clear c12
                                            try clear c17
                                            try clear c17b0
                                            try clear c19
                                            try clear c23
                                            try clear c23b0
                                            try clear c24
                                            try clear c24b0
                                            try clear c24b1
                                            try clear c25
                                            try clear c26
                                            try clear c26b0
                                            try clear c49
                                            try clear c57
                                            try clear c57b0
                                            try clear c57b1
                                            try clear c58
                                            try clear c58b0
                                            try clear c58b1
                                            try clear c59
                                            try clear c59b0
                                            try clear c59b1
                                            try clear c60
                                            try clear c60b0
                                            try clear c60b1
                                            try clear c61
                                            try clear c61b0
                                            try clear c61b1
                                            try clear c62
                                            try clear c62b0
                                            try clear c62b1
                                            try clear c63
                                            try clear c63b0
                                            try clear c64
                                            try clear c64b0
                                            try clear c64b1
                                            try clear p64
                                            try clear c66
                                            try clear c68
                                            try clear c68b0
                                            try clear c69
                                            try clear c69b0
                                            try clear c71
                                            try clear c71b0
                                            try clear p1
                                            try clear p2
                                            try clear p6
                                            try clear p64
                                            obtain ⟨kq, x13_69, x14_69, rfl, rfl, HA, HJ69, HK, HB⟩ := hcut
                                            cases kq with
                                            | zero => exact absurd HA.out (by simp [vernierref06_Round.j6])
                                            | succ kj69 =>
                                              have H := HA.out
                                              clear HA
                                              simp only [vernierref06_Round.j6] at H
                                              have HC72 := Aside0.mk H
                                              clear H
                                              go_upto_region 42 with (fail)
                                              go_cut [146] (fun v146 wc => ∃ (kq : Nat) (x146_71 : Bool), v146 = .bool x146_71 ∧ Aside0 (vernierref06_Round.j7 kq a0 a4 x13_69 x14_69 x26_66 x146_71 = some (r1, r2)) ∧ Aside0 (kq ≤ kj69) ∧ Aside0 (Kept w wc (fun k_ => P1_ k_ ∨ P2_ k_)) ∧ Aside0 (Below w0.heap.size w0 wc))
                                              case first =>
                                                have H := HC72.out
                                                clear HC72
                                                by_cases c73 : x14_69 ≥ 4503599627370496
                                                · rw [if_pos c73] at H
                                                  have c73b0 : decide (4503599627370496 ≤ x14_69) = true := decide_eq_true c73
                                                  clear c73
                                                  (first | rw [c73b0] | (simp only [i64_w, i32_w]; rw [c73b0]) | skip)
                                                  have H' := Aside0.mk H
                                                  clear H
                                                  go_wp2
                                                  go_meet
                                                  case rel => exact ⟨_, (decide (x13_69 > 971)), (by first | rfl | (simp; done) | (simp [*]; done)), H', ⟨by have := HJ13.out; have := HK2.out; have := HJ21.out; have := HJ46.out; have := HJ64.out; have := HJ66.out; have := HJ69.out; first | omega | exact Nat.le_refl _⟩, ⟨by repeat (first | (with_reducible first | exact HK.out | apply Kept.alloc | apply Kept.drewN | apply Kept.drew) | exact HK.out)⟩, ⟨by repeat (first | (with_reducible first | exact HB.out | apply below_alloc | apply pw_below_drewN | apply below_drew1) | exact HB.out)⟩⟩
                                                · rw [if_neg c73] at H
                                                  have c73b0 : decide (4503599627370496 ≤ x14_69) = false := decide_eq_false c73
                                                  clear c73
                                                  (first | rw [c73b0] | (simp only [i64_w, i32_w]; rw [c73b0]) | skip)
                                                  have H' := Aside0.mk H
                                                  clear H
                                                  go_wp2
                                                  go_meet
                                                  case rel => exact ⟨_, (false), (by first | rfl | (simp; done) | (simp [*]; done)), H', ⟨by have := HJ13.out; have := HK2.out; have := HJ21.out; have := HJ46.out; have := HJ64.out; have := HJ66.out; have := HJ69.out; first | omega | exact Nat.le_refl _⟩, ⟨by repeat (first | (with_reducible first | exact HK.out | apply Kept.alloc | apply Kept.drewN | apply Kept.drew) | exact HK.out)⟩, ⟨by repeat (first | (with_reducible first | exact HB.out | apply below_alloc | apply pw_below_drewN | apply below_drew1) | exact HB.out)⟩⟩
                                              case rest =>
                                                as_aux_lemma =>
                                                  clear HC72
                                                  try clear c1
                                                  try clear p1
                                                  try clear c2
                                                  try clear p2
                                                  try clear c4
                                                  try clear c5
                                                  try clear c6
                                                  try clear p6
                                                  try clear c7
                                                  try clear c9
                                                  try clear c9b0
                                                  try clear c10
                                                  try clear c12
                                                  try clear c17
                                                  try clear c17b0
                                                  try clear c19
                                                  try clear c23
                                                  try clear c23b0
                                                  try clear c24
                                                  try clear c24b0
                                                  try clear c24b1
                                                  try clear c25
                                                  try clear c26
                                                  try clear c26b0
                                                  try clear c49
                                                  try clear c57
                                                  try clear c57b0
                                                  try clear c57b1
                                                  try clear c58
                                                  try clear c58b0
                                                  try clear c58b1
                                                  try clear c59
                                                  try clear c59b0
                                                  try clear c59b1
                                                  try clear c60
                                                  try clear c60b0
                                                  try clear c60b1
                                                  try clear c61
                                                  try clear c61b0
                                                  try clear c61b1
                                                  try clear c62
                                                  try clear c62b0
                                                  try clear c62b1
                                                  try clear c63
                                                  try clear c63b0
                                                  try clear c64
                                                  try clear c64b0
                                                  try clear c64b1
                                                  try clear p64
                                                  try clear c66
                                                  try clear c68
                                                  try clear c68b0
                                                  try clear c69
                                                  try clear c69b0
                                                  try clear c71
                                                  try clear c71b0
                                                  try clear c73
                                                  try clear c73b0
                                                  try clear p1
                                                  try clear p2
                                                  try clear p6
                                                  try clear p64
                                                  obtain ⟨kq, x146_71, rfl, HA, HJ71, HK, HB⟩ := hcut
                                                  cases kq with
                                                  | zero => exact absurd HA.out (by simp [vernierref06_Round.j7])
                                                  | succ kj71 =>
                                                    have H := HA.out
                                                    clear HA
                                                    simp only [vernierref06_Round.j7] at H
                                                    by_cases c74 : x146_71 = true
                                                    · subst c74
                                                      have H1 : ((vernierref06_big.f kj71 a0 a4).bind fun bt617 => (some (bt617.1, bt617.2))) = some (r1, r2) := by rw [if_pos rfl] at H; exact H
                                                      clear H
                                                      have H := H1
                                                      clear H1
                                                      replace H := Option.bind_eq_some_iff.mp H
                                                      obtain ⟨⟨t617, t618⟩, A750, H⟩ := H
                                                      replace H : (some (t617, t618)) = some (r1, r2) := H
                                                      have A75 := Aside0.mk A750
                                                      clear A750
                                                      simp only [Option.some.injEq, Prod.mk.injEq] at H
                                                      obtain ⟨rfl, rfl⟩ := H
                                                      go_wp2_with (first | ((with_reducible refine gate_callee (f := 120) rfl ?_); refine goesL_ (some 149) rfl rfl Try.func120 (by kernel_rfl) rfl #[.bool a0, .int .i64 a4] rfl (by (try simp only [List.map_toArray, List.map_cons, List.map_nil]); first | done | rfl | (simp only [List.length_drop, List.length_take]; rfl)) ?_; (with_reducible refine (vernierref06_big.calls kj71 a0 a4 t617 t618 _ A75.out).mono ?_); rintro e w76 ⟨rfl, hb⟩; refine ⟨_, rfl, ?_⟩; have n0_ := Aside0.mk (Kept.below (S := (fun k_ => P1_ k_ ∨ P2_ k_)) (by repeat (first | (with_reducible first | exact HK.out | apply Kept.alloc | apply Kept.drewN | apply Kept.drew) | exact HK.out)) hb); have n1_ := Aside0.mk (below_step (by repeat (first | (with_reducible first | exact HB.out | apply below_alloc | apply pw_below_drewN | apply below_drew1) | exact HB.out)) hb); clear HK; clear HB; have HK := n0_; have HB := n1_; clear n0_ n1_; (try clear hb); (try clear hb2); (try clear hk); (try clear hi)))
                                                      go_ret2
                                                      exact ⟨by first | rfl | (simp [errW_none, errW_some] <;> rfl) | (simp only [← hji8]; first | rfl | (simp [errW_none, errW_some] <;> rfl)) | (simp [*, errW_none, errW_some] <;> rfl), by repeat (first | (with_reducible first | exact HB.out | apply below_alloc | apply pw_below_drewN | apply below_drew1) | exact HB.out), by repeat (first | (with_reducible first | exact HK.out | apply Kept.alloc | apply Kept.drewN | apply Kept.drew) | exact HK.out)⟩
                                                    · replace c74 := Bool.eq_false_iff.mpr c74
                                                      subst c74
                                                      have H1 : (if x14_69 < 4503599627370496 then ((vernierref06_Zero.f a0).bind fun t619 => (some (IntKind.u64.wrap (t619 + x14_69), x26_66))) else ((vernierref06_Zero.f a0).bind fun t620 => (some (IntKind.u64.wrap ((IntKind.u64.wrap ((IntKind.u64.wrap (t620 + (IntKind.u64.wrap ((IntKind.u64.wrap (wrap64 (x13_69 + 1075))) * 4503599627370496)))) + x14_69)) - 4503599627370496), x26_66)))) = some (r1, r2) := by rw [if_neg (show ¬ (false = true) by decide)] at H; exact H
                                                      clear H
                                                      have H := H1
                                                      clear H1
                                                      by_cases c77 : x14_69 < 4503599627370496
                                                      · rw [if_pos c77] at H
                                                        have c77b0 : decide (x14_69 < 4503599627370496) = true := decide_eq_true c77
                                                        clear c77
                                                        replace H := Option.bind_eq_some_iff.mp H
                                                        obtain ⟨t619, A780, H⟩ := H
                                                        replace H : (some (IntKind.u64.wrap (t619 + x14_69), x26_66)) = some (r1, r2) := H
                                                        have A78 := Aside0.mk A780
                                                        clear A780
                                                        simp only [Option.some.injEq, Prod.mk.injEq] at H
                                                        obtain ⟨rfl, rfl⟩ := H
                                                        go_wp2_with (first | ((with_reducible refine gate_callee (f := 107) rfl ?_); refine goesL_ (some 155) rfl rfl Try.func107 (by kernel_rfl) rfl #[.bool a0] rfl (by (try simp only [List.map_toArray, List.map_cons, List.map_nil]); first | done | rfl | (simp only [List.length_drop, List.length_take]; rfl)) ?_; (with_reducible refine (vernierref06_Zero.calls a0 t619 _ A78.out).mono ?_); rintro e w' ⟨rfl, ⟨nd, rfl⟩⟩; refine ⟨_, rfl, ?_⟩))
                                                        go_ret2
                                                        exact ⟨by first | rfl | (simp [errW_none, errW_some] <;> rfl) | (simp only [← hji8]; first | rfl | (simp [errW_none, errW_some] <;> rfl)) | (simp [*, errW_none, errW_some] <;> rfl), by repeat (first | (with_reducible first | exact HB.out | apply below_alloc | apply pw_below_drewN | apply below_drew1) | exact HB.out), by repeat (first | (with_reducible first | exact HK.out | apply Kept.alloc | apply Kept.drewN | apply Kept.drew) | exact HK.out)⟩
                                                      · rw [if_neg c77] at H
                                                        have c77b0 : decide (x14_69 < 4503599627370496) = false := decide_eq_false c77
                                                        clear c77
                                                        replace H := Option.bind_eq_some_iff.mp H
                                                        obtain ⟨t620, A790, H⟩ := H
                                                        replace H : (some (IntKind.u64.wrap ((IntKind.u64.wrap ((IntKind.u64.wrap (t620 + (IntKind.u64.wrap ((IntKind.u64.wrap (wrap64 (x13_69 + 1075))) * 4503599627370496)))) + x14_69)) - 4503599627370496), x26_66)) = some (r1, r2) := H
                                                        have A79 := Aside0.mk A790
                                                        clear A790
                                                        simp only [Option.some.injEq, Prod.mk.injEq] at H
                                                        obtain ⟨rfl, rfl⟩ := H
                                                        go_wp2_with (first | ((with_reducible refine gate_callee (f := 107) rfl ?_); refine goesL_ (some 160) rfl rfl Try.func107 (by kernel_rfl) rfl #[.bool a0] rfl (by (try simp only [List.map_toArray, List.map_cons, List.map_nil]); first | done | rfl | (simp only [List.length_drop, List.length_take]; rfl)) ?_; (with_reducible refine (vernierref06_Zero.calls a0 t620 _ A79.out).mono ?_); rintro e w' ⟨rfl, ⟨nd, rfl⟩⟩; refine ⟨_, rfl, ?_⟩))
                                                        go_ret2
                                                        exact ⟨by first | rfl | (simp [errW_none, errW_some] <;> rfl) | (simp only [← hji8]; first | rfl | (simp [errW_none, errW_some] <;> rfl)) | (simp [*, errW_none, errW_some] <;> rfl), by repeat (first | (with_reducible first | exact HB.out | apply below_alloc | apply pw_below_drewN | apply below_drew1) | exact HB.out), by repeat (first | (with_reducible first | exact HK.out | apply Kept.alloc | apply Kept.drewN | apply Kept.drew) | exact HK.out)⟩
end Go.Proofs.Ytfmdjhfnbiekaaa.PA
