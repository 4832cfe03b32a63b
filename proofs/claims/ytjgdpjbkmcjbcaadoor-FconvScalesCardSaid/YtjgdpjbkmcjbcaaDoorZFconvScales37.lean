/- Contracts of Go functions: each call answers what the Lean function of its name answers. Written by a program of this session (vprint.py) round the print of the kit. -/
import Derived.Test.YtjgdpjbkmcjbcaaDoorZFconvScales36
namespace Go.Proofs.YtjgdpjbkmcjbcaaDoor.PG
open Go.RowKit Go.Proofs.YtjgdpjbkmcjbcaaDoorW.PrintWords Go.Proofs.YtjgdpjbkmcjbcaaDoorW.PrintLast Go.Proofs.YtjgdpjbkmcjbcaaDoorW.PrintMore
attribute [local go_sem] max2_int min2_int max_two min_two max_three min_three max_four min_four
set_option linter.unusedVariables false
set_option linter.unusedSimpArgs false
attribute [local go_sem] fld139_1
def fconv_near.j0 : Nat → Bool → Int → Int → Bool → Bool → Bool → Option (Int × Bool)
  | 0, _, _, _, _, _, _ => none
  | k + 1, x0, x3, x10, x11, x12, x36 => if x36 = true then (some (x10, false)) else ((fconv_up.f x0 x11 x12 x10 x3).bind fun t1293 => (if t1293 = true then (some (IntKind.u64.wrap (x10 + 1), true)) else (some (x10, true))))
def fconv_near.f (k : Nat) (a0 : Bool) (a1 : Int) (a2 : Int) (a3 : Int) : Option (Int × Bool) := if 0 ≤ (mn a2 63) then (if 0 ≤ (wrap64 ((mn a2 63) - 1)) then (if ((Go.bits .and .u64 (shr .u64 a1 (wrap64 ((mn a2 63) - 1))) 1) = 1) then (fconv_near.j0 k a0 a3 (a1 / 2 ^ (mn a2 63).toNat) ((Go.bits .and .u64 (shr .u64 a1 (wrap64 ((mn a2 63) - 1))) 1) == 1) ((Go.bits .and .u64 a1 (IntKind.u64.wrap ((shl .u64 1 (wrap64 ((mn a2 63) - 1))) - 1))) != 0) false) else (fconv_near.j0 k a0 a3 (a1 / 2 ^ (mn a2 63).toNat) ((Go.bits .and .u64 (shr .u64 a1 (wrap64 ((mn a2 63) - 1))) 1) == 1) ((Go.bits .and .u64 a1 (IntKind.u64.wrap ((shl .u64 1 (wrap64 ((mn a2 63) - 1))) - 1))) != 0) (!((Go.bits .and .u64 a1 (IntKind.u64.wrap ((shl .u64 1 (wrap64 ((mn a2 63) - 1))) - 1))) != 0)))) else (none)) else (none)
set_option maxHeartbeats 8000000 in
set_option maxRecDepth 100000 in
theorem fconv_near.calls (k : Nat) (a0 : Bool) (a1 : Int) (a2 : Int) (a3 : Int) (r1 : Int) (r2 : Bool) (w : World) (h : fconv_near.f k a0 a1 a2 a3 = some (r1, r2)) :
    Calls Tryd.prog 127 #[.bool a0, .int .u64 a1, .int .i64 a2, .int .i64 a3] w fun e w' => e = .returned (.tuple #[.int .u64 r1, .bool r2]) ∧ Below w.heap.size w w' := by
  have HB := Aside0.mk (Below.refl w.heap.size w)
  have H : (if 0 ≤ (mn a2 63) then (if 0 ≤ (wrap64 ((mn a2 63) - 1)) then (if ((Go.bits .and .u64 (shr .u64 a1 (wrap64 ((mn a2 63) - 1))) 1) = 1) then (fconv_near.j0 k a0 a3 (a1 / 2 ^ (mn a2 63).toNat) ((Go.bits .and .u64 (shr .u64 a1 (wrap64 ((mn a2 63) - 1))) 1) == 1) ((Go.bits .and .u64 a1 (IntKind.u64.wrap ((shl .u64 1 (wrap64 ((mn a2 63) - 1))) - 1))) != 0) false) else (fconv_near.j0 k a0 a3 (a1 / 2 ^ (mn a2 63).toNat) ((Go.bits .and .u64 (shr .u64 a1 (wrap64 ((mn a2 63) - 1))) 1) == 1) ((Go.bits .and .u64 a1 (IntKind.u64.wrap ((shl .u64 1 (wrap64 ((mn a2 63) - 1))) - 1))) != 0) (!((Go.bits .and .u64 a1 (IntKind.u64.wrap ((shl .u64 1 (wrap64 ((mn a2 63) - 1))) - 1))) != 0)))) else (none)) else (none)) = some (r1, r2) := h
  clear h
  obtain ⟨ji5, hji5⟩ : ∃ j_ : Int, (mn a2 63) = j_ := ⟨_, rfl⟩
  replace H : (if 0 ≤ (ji5) then (if 0 ≤ (wrap64 ((ji5) - 1)) then (if ((Go.bits .and .u64 (shr .u64 a1 (wrap64 ((ji5) - 1))) 1) = 1) then (fconv_near.j0 k a0 a3 (a1 / 2 ^ (ji5).toNat) ((Go.bits .and .u64 (shr .u64 a1 (wrap64 ((ji5) - 1))) 1) == 1) ((Go.bits .and .u64 a1 (IntKind.u64.wrap ((shl .u64 1 (wrap64 ((ji5) - 1))) - 1))) != 0) false) else (fconv_near.j0 k a0 a3 (a1 / 2 ^ (ji5).toNat) ((Go.bits .and .u64 (shr .u64 a1 (wrap64 ((ji5) - 1))) 1) == 1) ((Go.bits .and .u64 a1 (IntKind.u64.wrap ((shl .u64 1 (wrap64 ((ji5) - 1))) - 1))) != 0) (!((Go.bits .and .u64 a1 (IntKind.u64.wrap ((shl .u64 1 (wrap64 ((ji5) - 1))) - 1))) != 0)))) else (none)) else (none)) = some (r1, r2) := by first | (rw [hji5] at H; exact H) | (simp only [hji5] at H ⊢; exact H)
  (try (have hji5h : ji5 ≤ 63 := by (rw [← hji5]; unfold mn; (repeat' split) <;> omega)))
  (try (have hji5g : ji5 ≤ 64 := by omega))
  have hji5_ : (if 63 < a2 then 63 else a2) = ji5 := hji5
  by_cases c6 : 0 ≤ (ji5)
  · rw [if_pos c6] at H
    have c6b0 := eq_true c6
    have c6b1 : decide (0 ≤ (ji5)) = true := decide_eq_true c6
    clear c6
    obtain ⟨ji7, hji7⟩ : ∃ j_ : Int, (wrap64 ((ji5) - 1)) = j_ := ⟨_, rfl⟩
    replace H : (if 0 ≤ (ji7) then (if ((Go.bits .and .u64 (shr .u64 a1 (ji7)) 1) = 1) then (fconv_near.j0 k a0 a3 (a1 / 2 ^ (ji5).toNat) ((Go.bits .and .u64 (shr .u64 a1 (ji7)) 1) == 1) ((Go.bits .and .u64 a1 (IntKind.u64.wrap ((shl .u64 1 (ji7)) - 1))) != 0) false) else (fconv_near.j0 k a0 a3 (a1 / 2 ^ (ji5).toNat) ((Go.bits .and .u64 (shr .u64 a1 (ji7)) 1) == 1) ((Go.bits .and .u64 a1 (IntKind.u64.wrap ((shl .u64 1 (ji7)) - 1))) != 0) (!((Go.bits .and .u64 a1 (IntKind.u64.wrap ((shl .u64 1 (ji7)) - 1))) != 0)))) else (none)) = some (r1, r2) := by first | (rw [hji7] at H; exact H) | (simp only [hji7] at H ⊢; exact H)
    have hji7w : (IntKind.i64.wrap ((ji5) - 1)) = ji7 := (i64_w _).trans hji7
    by_cases c8 : 0 ≤ (ji7)
    · rw [if_pos c8] at H
      have c8b0 := eq_true c8
      have c8b1 : decide (0 ≤ (ji7)) = true := decide_eq_true c8
      clear c8
      obtain ⟨ji9, hji9⟩ : ∃ j_ : Int, (shr .u64 a1 (ji7)) = j_ := ⟨_, rfl⟩
      replace H : (if ((Go.bits .and .u64 (ji9) 1) = 1) then (fconv_near.j0 k a0 a3 (a1 / 2 ^ (ji5).toNat) ((Go.bits .and .u64 (ji9) 1) == 1) ((Go.bits .and .u64 a1 (IntKind.u64.wrap ((shl .u64 1 (ji7)) - 1))) != 0) false) else (fconv_near.j0 k a0 a3 (a1 / 2 ^ (ji5).toNat) ((Go.bits .and .u64 (ji9) 1) == 1) ((Go.bits .and .u64 a1 (IntKind.u64.wrap ((shl .u64 1 (ji7)) - 1))) != 0) (!((Go.bits .and .u64 a1 (IntKind.u64.wrap ((shl .u64 1 (ji7)) - 1))) != 0)))) = some (r1, r2) := by first | (rw [hji9] at H; exact H) | (simp only [hji9] at H ⊢; exact H)
      have hji9_ : (a1 / 2 ^ min (ji7).toNat 64) = ji9 := hji9
      have hji9z : (ji7) ≤ 64 → (a1 / 2 ^ (ji7).toNat) = ji9 := shr_small hji9
      have c10b0 := eq_true (of_decide_eq_true (by first | (with_reducible assumption) | assumption) : 0 ≤ (ji7))
      obtain ⟨ji11, hji11⟩ : ∃ j_ : Int, (shl .u64 1 (ji7)) = j_ := ⟨_, rfl⟩
      replace H : (if ((Go.bits .and .u64 (ji9) 1) = 1) then (fconv_near.j0 k a0 a3 (a1 / 2 ^ (ji5).toNat) ((Go.bits .and .u64 (ji9) 1) == 1) ((Go.bits .and .u64 a1 (IntKind.u64.wrap ((ji11) - 1))) != 0) false) else (fconv_near.j0 k a0 a3 (a1 / 2 ^ (ji5).toNat) ((Go.bits .and .u64 (ji9) 1) == 1) ((Go.bits .and .u64 a1 (IntKind.u64.wrap ((ji11) - 1))) != 0) (!((Go.bits .and .u64 a1 (IntKind.u64.wrap ((ji11) - 1))) != 0)))) = some (r1, r2) := by first | (rw [hji11] at H; exact H) | (simp only [hji11] at H ⊢; exact H)
      have hji11_ : (IntKind.u64.wrap (1 * 2 ^ min (ji7).toNat 64)) = ji11 := hji11
      have hji11z : (ji7) ≤ 64 → (IntKind.u64.wrap (1 * 2 ^ (ji7).toNat)) = ji11 := shl_small hji11
      have hji11u : (IntKind.u64.wrap (2 ^ min (ji7).toNat 64)) = ji11 := by have h_ := hji11_; rw [Int.one_mul] at h_; exact h_
      have hji11v : (ji7) ≤ 64 → (IntKind.u64.wrap (2 ^ (ji7).toNat)) = ji11 := fun hle_ => by have h_ := hji11z hle_; rw [Int.one_mul] at h_; exact h_
      have HC12 := Aside0.mk H
      clear H
      go_enter Tryd.func127, Tryd.ntmps127
      go_upto_region 5 with (fail)
      go_cut [36] (fun v36 wc => ∃ (kq : Nat) (x36_11 : Bool), v36 = .bool x36_11 ∧ Aside0 (fconv_near.j0 kq a0 a3 (a1 / 2 ^ (ji5).toNat) ((Go.bits .and .u64 (ji9) 1) == 1) ((Go.bits .and .u64 a1 (IntKind.u64.wrap ((ji11) - 1))) != 0) x36_11 = some (r1, r2)) ∧ Aside0 (kq ≤ k) ∧ Aside0 (Below w.heap.size w wc))
      case first =>
        have H := HC12.out
        clear HC12
        by_cases c13 : ((Go.bits .and .u64 (ji9) 1) = 1)
        · rw [if_pos c13] at H
          have c13b0 : ((Go.bits .and .u64 (ji9) 1) == 1) = true := beq_iff_eq.mpr c13
          have c13b1 : ((Go.bits .and .u64 (ji9) 1) != 1) = false := bne_eq_false_iff_eq.mpr c13
          clear c13
          (first | rw [c13b0] | (simp only [i64_w, i32_w]; rw [c13b0]) | skip)
          have H' := Aside0.mk H
          clear H
          go_wp2
          (try simp only [c13b0] at *)
          go_meet
          case rel => exact ⟨_, (false), (by first | rfl | (simp; done) | (simp [*]; done)), H', ⟨by first | omega | exact Nat.le_refl _⟩, ⟨by repeat (first | (with_reducible first | exact HB.out | apply below_alloc | apply pw_below_drewN | apply below_drew1) | exact HB.out)⟩⟩
        · rw [if_neg c13] at H
          have c13b0 : ((Go.bits .and .u64 (ji9) 1) == 1) = false := beq_eq_false_iff_ne.mpr c13
          have c13b1 : ((Go.bits .and .u64 (ji9) 1) != 1) = true := bne_iff_ne.mpr c13
          (first | rw [c13b0] | (simp only [i64_w, i32_w]; rw [c13b0]) | skip)
          have H' := Aside0.mk H
          clear H
          go_wp2
          (try simp only [c13b0] at *)
          go_meet
          case rel => exact ⟨_, (!((Go.bits .and .u64 a1 (IntKind.u64.wrap ((ji11) - 1))) != 0)), (by first | rfl | (simp; done) | (simp only [← hji11] <;> (first | rfl | simp)) | (simp [*]; done)), H', ⟨by first | omega | exact Nat.le_refl _⟩, ⟨by repeat (first | (with_reducible first | exact HB.out | apply below_alloc | apply pw_below_drewN | apply below_drew1) | exact HB.out)⟩⟩
      case rest =>
        clear HC12
        try clear c1
        try clear p2
        try clear c6
        try clear c6b0
        try clear c6b1
        try clear p6
        try clear c8
        try clear c8b0
        try clear c8b1
        try clear c10
        try clear c10b0
        try clear c12
        try clear c13
        try clear c13b0
        try clear c13b1
        obtain ⟨kq, x36_11, rfl, HA, HJ11, HB⟩ := hcut
        cases kq with
        | zero => exact absurd HA.out (by simp [fconv_near.j0])
        | succ kj11 =>
          have H := HA.out
          clear HA
          simp only [fconv_near.j0] at H
          by_cases c14 : x36_11 = true
          · subst c14
            have H1 : (some ((a1 / 2 ^ (ji5).toNat), false)) = some (r1, r2) := by rw [if_pos rfl] at H; exact H
            clear H
            have H := H1
            clear H1
            simp only [Option.some.injEq, Prod.mk.injEq] at H
            obtain ⟨rfl, rfl⟩ := H
            go_wp2
            go_ret2
            exact ⟨by first | rfl | (simp [errW_none, errW_some] <;> rfl) | (simp only [← hji5, ← hji7, ← hji9, ← hji11]; first | rfl | (simp [errW_none, errW_some] <;> rfl)) | (simp [*, errW_none, errW_some] <;> rfl), by repeat (first | (with_reducible first | exact HB.out | apply below_alloc | apply pw_below_drewN | apply below_drew1) | exact HB.out)⟩
          · replace c14 := Bool.eq_false_iff.mpr c14
            subst c14
            have H1 : ((fconv_up.f a0 ((Go.bits .and .u64 (ji9) 1) == 1) ((Go.bits .and .u64 a1 (IntKind.u64.wrap ((ji11) - 1))) != 0) (a1 / 2 ^ (ji5).toNat) a3).bind fun t1293 => (if t1293 = true then (some (IntKind.u64.wrap ((a1 / 2 ^ (ji5).toNat) + 1), true)) else (some ((a1 / 2 ^ (ji5).toNat), true)))) = some (r1, r2) := by rw [if_neg (show ¬ (false = true) by decide)] at H; exact H
            clear H
            have H := H1
            clear H1
            replace H := Option.bind_eq_some_iff.mp H
            obtain ⟨t1293, A150, H⟩ := H
            replace H : (if t1293 = true then (some (IntKind.u64.wrap ((a1 / 2 ^ (ji5).toNat) + 1), true)) else (some ((a1 / 2 ^ (ji5).toNat), true))) = some (r1, r2) := H
            have A15 := Aside0.mk A150
            clear A150
            by_cases c16 : t1293 = true
            · subst c16
              have H1 : (some (IntKind.u64.wrap ((a1 / 2 ^ (ji5).toNat) + 1), true)) = some (r1, r2) := by rw [if_pos rfl] at H; exact H
              clear H
              have H := H1
              clear H1
              simp only [Option.some.injEq, Prod.mk.injEq] at H
              obtain ⟨rfl, rfl⟩ := H
              go_wp2_with (first | ((with_reducible refine gate_callee (f := 132) rfl ?_); refine goesL_ (some 43) rfl rfl Tryd.func132 (by kernel_rfl) rfl #[.bool a0, .bool ((Go.bits .and .u64 (ji9) 1) == 1), .bool ((Go.bits .and .u64 a1 (IntKind.u64.wrap ((ji11) - 1))) != 0), .int .u64 (a1 / 2 ^ (ji5).toNat), .int .i64 a3] rfl (by (try simp only [List.map_toArray, List.map_cons, List.map_nil]); first | done | (simp only [hji11, hji5, hji9]; rfl) | rfl | (simp only [List.length_drop, List.length_take]; rfl)) ?_; (refine (fconv_up.calls a0 ((Go.bits .and .u64 (ji9) 1) == 1) ((Go.bits .and .u64 a1 (IntKind.u64.wrap ((ji11) - 1))) != 0) (a1 / 2 ^ (ji5).toNat) a3 true _ A15.out).mono ?_); rintro e w' ⟨rfl, ⟨nd, rfl⟩⟩; refine ⟨_, rfl, ?_⟩))
              go_ret2
              exact ⟨by first | rfl | (simp [errW_none, errW_some] <;> rfl) | (simp only [← hji5, ← hji7, ← hji9, ← hji11]; first | rfl | (simp [errW_none, errW_some] <;> rfl)) | (simp [*, errW_none, errW_some] <;> rfl), by repeat (first | (with_reducible first | exact HB.out | apply below_alloc | apply pw_below_drewN | apply below_drew1) | exact HB.out)⟩
            · replace c16 := Bool.eq_false_iff.mpr c16
              subst c16
              have H1 : (some ((a1 / 2 ^ (ji5).toNat), true)) = some (r1, r2) := by rw [if_neg (show ¬ (false = true) by decide)] at H; exact H
              clear H
              have H := H1
              clear H1
              simp only [Option.some.injEq, Prod.mk.injEq] at H
              obtain ⟨rfl, rfl⟩ := H
              go_wp2_with (first | ((with_reducible refine gate_callee (f := 132) rfl ?_); refine goesL_ (some 43) rfl rfl Tryd.func132 (by kernel_rfl) rfl #[.bool a0, .bool ((Go.bits .and .u64 (ji9) 1) == 1), .bool ((Go.bits .and .u64 a1 (IntKind.u64.wrap ((ji11) - 1))) != 0), .int .u64 (a1 / 2 ^ (ji5).toNat), .int .i64 a3] rfl (by (try simp only [List.map_toArray, List.map_cons, List.map_nil]); first | done | (simp only [hji11, hji5, hji9]; rfl) | rfl | (simp only [List.length_drop, List.length_take]; rfl)) ?_; (refine (fconv_up.calls a0 ((Go.bits .and .u64 (ji9) 1) == 1) ((Go.bits .and .u64 a1 (IntKind.u64.wrap ((ji11) - 1))) != 0) (a1 / 2 ^ (ji5).toNat) a3 false _ A15.out).mono ?_); rintro e w' ⟨rfl, ⟨nd, rfl⟩⟩; refine ⟨_, rfl, ?_⟩))
              go_ret2
              exact ⟨by first | rfl | (simp [errW_none, errW_some] <;> rfl) | (simp only [← hji5, ← hji7, ← hji9, ← hji11]; first | rfl | (simp [errW_none, errW_some] <;> rfl)) | (simp [*, errW_none, errW_some] <;> rfl), by repeat (first | (with_reducible first | exact HB.out | apply below_alloc | apply pw_below_drewN | apply below_drew1) | exact HB.out)⟩
    · rw [if_neg c8] at H
      exact absurd H (by simp)
  · rw [if_neg c6] at H
    exact absurd H (by simp)
def fconv_Whole.f (k : Nat) (a0 : Int) (a1 : Int) : Option (Int × Int) := (parts_Split.f a0).bind fun bt1294 => ((parts_Class.f k a0).bind fun t1298 => (if t1298 = 3 then (some (9221120237041090560, 0)) else (if t1298 = 1 then (if bt1294.2.2.1 < 0 then ((fconv_near.f k bt1294.1 bt1294.2.1 (wrap64 (-bt1294.2.2.1)) a1).bind fun bt1299 => (if bt1299.2 = true then ((parts_Round.f k bt1294.1 0 bt1299.1 0 false 0).bind fun bt1301 => (some (bt1301.1, 16))) else ((parts_Round.f k bt1294.1 0 bt1299.1 0 false 0).bind fun bt1303 => (some (bt1303.1, 0))))) else (some (a0, 0))) else (some (a0, 0)))))
set_option maxHeartbeats 8000000 in
set_option maxRecDepth 100000 in
theorem fconv_Whole.calls (k : Nat) (a0 : Int) (a1 : Int) (r1 : Int) (r2 : Int) (w : World) (h : fconv_Whole.f k a0 a1 = some (r1, r2)) :
    Calls Tryd.prog 116 #[.int .u64 a0, .int .i64 a1] w fun e w' => e = .returned (.tuple #[.int .u64 r1, .int .i64 r2]) ∧ Below w.heap.size w w' := by
  have HB := Aside0.mk (Below.refl w.heap.size w)
  have H : ((parts_Split.f a0).bind fun bt1294 => ((parts_Class.f k a0).bind fun t1298 => (if t1298 = 3 then (some (9221120237041090560, 0)) else (if t1298 = 1 then (if bt1294.2.2.1 < 0 then ((fconv_near.f k bt1294.1 bt1294.2.1 (wrap64 (-bt1294.2.2.1)) a1).bind fun bt1299 => (if bt1299.2 = true then ((parts_Round.f k bt1294.1 0 bt1299.1 0 false 0).bind fun bt1301 => (some (bt1301.1, 16))) else ((parts_Round.f k bt1294.1 0 bt1299.1 0 false 0).bind fun bt1303 => (some (bt1303.1, 0))))) else (some (a0, 0))) else (some (a0, 0)))))) = some (r1, r2) := h
  clear h
  replace H := Option.bind_eq_some_iff.mp H
  obtain ⟨⟨t1294, t1295, t1296, t1297⟩, A30, H⟩ := H
  replace H : ((parts_Class.f k a0).bind fun t1298 => (if t1298 = 3 then (some (9221120237041090560, 0)) else (if t1298 = 1 then (if t1296 < 0 then ((fconv_near.f k t1294 t1295 (wrap64 (-t1296)) a1).bind fun bt1299 => (if bt1299.2 = true then ((parts_Round.f k t1294 0 bt1299.1 0 false 0).bind fun bt1301 => (some (bt1301.1, 16))) else ((parts_Round.f k t1294 0 bt1299.1 0 false 0).bind fun bt1303 => (some (bt1303.1, 0))))) else (some (a0, 0))) else (some (a0, 0))))) = some (r1, r2) := H
  have A3 := Aside0.mk A30
  clear A30
  replace H := Option.bind_eq_some_iff.mp H
  obtain ⟨t1298, A40, H⟩ := H
  replace H : (if t1298 = 3 then (some (9221120237041090560, 0)) else (if t1298 = 1 then (if t1296 < 0 then ((fconv_near.f k t1294 t1295 (wrap64 (-t1296)) a1).bind fun bt1299 => (if bt1299.2 = true then ((parts_Round.f k t1294 0 bt1299.1 0 false 0).bind fun bt1301 => (some (bt1301.1, 16))) else ((parts_Round.f k t1294 0 bt1299.1 0 false 0).bind fun bt1303 => (some (bt1303.1, 0))))) else (some (a0, 0))) else (some (a0, 0)))) = some (r1, r2) := H
  have A4 := Aside0.mk A40
  clear A40
  by_cases c5 : t1298 = 3
  · rw [if_pos c5] at H
    have c5b0 : (t1298 == 3) = true := beq_iff_eq.mpr c5
    have c5b1 : (t1298 != 3) = false := bne_eq_false_iff_eq.mpr c5
    clear c5
    simp only [Option.some.injEq, Prod.mk.injEq] at H
    obtain ⟨rfl, rfl⟩ := H
    go_enter Tryd.func116, Tryd.ntmps116
    go_wp2_with (first | ((with_reducible refine gate_callee (f := 100) rfl ?_); refine goesL_ (some 17) rfl rfl Tryd.func100 (by kernel_rfl) rfl #[.int .u64 a0] rfl (by (try simp only [List.map_toArray, List.map_cons, List.map_nil]); first | done | rfl | (simp only [List.length_drop, List.length_take]; rfl)) ?_; (with_reducible refine (parts_Split.calls a0 t1294 t1295 t1296 t1297 _ A3.out).mono ?_); rintro e w' ⟨rfl, ⟨nd, rfl⟩⟩; refine ⟨_, rfl, ?_⟩) | ((with_reducible refine gate_callee (f := 101) rfl ?_); refine goesL_ (some 23) rfl rfl Tryd.func101 (by kernel_rfl) rfl #[.int .u64 a0] rfl (by (try simp only [List.map_toArray, List.map_cons, List.map_nil]); first | done | rfl | (simp only [List.length_drop, List.length_take]; rfl)) ?_; (with_reducible refine (parts_Class.calls k a0 t1298 _ A4.out).mono ?_); rintro e w' ⟨rfl, ⟨nd, rfl⟩⟩; refine ⟨_, rfl, ?_⟩))
    go_ret2
    exact ⟨by first | rfl | (simp [errW_none, errW_some] <;> rfl) | (simp [*, errW_none, errW_some] <;> rfl), by repeat (first | (with_reducible first | exact HB.out | apply below_alloc | apply pw_below_drewN | apply below_drew1) | exact HB.out)⟩
  · rw [if_neg c5] at H
    have c5b0 : (t1298 == 3) = false := beq_eq_false_iff_ne.mpr c5
    have c5b1 : (t1298 != 3) = true := bne_iff_ne.mpr c5
    by_cases c6 : t1298 = 1
    · rw [if_pos c6] at H
      have c6b0 : (t1298 == 1) = true := beq_iff_eq.mpr c6
      have c6b1 : (t1298 != 1) = false := bne_eq_false_iff_eq.mpr c6
      clear c6
      by_cases c7 : t1296 < 0
      · rw [if_pos c7] at H
        have c7b0 : decide (t1296 < 0) = true := decide_eq_true c7
        clear c7
        replace H := Option.bind_eq_some_iff.mp H
        obtain ⟨⟨t1299, t1300⟩, A80, H⟩ := H
        replace H : (if t1300 = true then ((parts_Round.f k t1294 0 t1299 0 false 0).bind fun bt1301 => (some (bt1301.1, 16))) else ((parts_Round.f k t1294 0 t1299 0 false 0).bind fun bt1303 => (some (bt1303.1, 0)))) = some (r1, r2) := H
        have A8 := Aside0.mk A80
        clear A80
        by_cases c9 : t1300 = true
        · subst c9
          have H1 : ((parts_Round.f k t1294 0 t1299 0 false 0).bind fun bt1301 => (some (bt1301.1, 16))) = some (r1, r2) := by rw [if_pos rfl] at H; exact H
          clear H
          have H := H1
          clear H1
          replace H := Option.bind_eq_some_iff.mp H
          obtain ⟨⟨t1301, t1302⟩, A100, H⟩ := H
          replace H : (some (t1301, 16)) = some (r1, r2) := H
          have A10 := Aside0.mk A100
          clear A100
          simp only [Option.some.injEq, Prod.mk.injEq] at H
          obtain ⟨rfl, rfl⟩ := H
          go_enter Tryd.func116, Tryd.ntmps116
          go_wp2_with (first | ((with_reducible refine gate_callee (f := 100) rfl ?_); refine goesL_ (some 17) rfl rfl Tryd.func100 (by kernel_rfl) rfl #[.int .u64 a0] rfl (by (try simp only [List.map_toArray, List.map_cons, List.map_nil]); first | done | rfl | (simp only [List.length_drop, List.length_take]; rfl)) ?_; (with_reducible refine (parts_Split.calls a0 t1294 t1295 t1296 t1297 _ A3.out).mono ?_); rintro e w' ⟨rfl, ⟨nd, rfl⟩⟩; refine ⟨_, rfl, ?_⟩) | ((with_reducible refine gate_callee (f := 101) rfl ?_); refine goesL_ (some 23) rfl rfl Tryd.func101 (by kernel_rfl) rfl #[.int .u64 a0] rfl (by (try simp only [List.map_toArray, List.map_cons, List.map_nil]); first | done | rfl | (simp only [List.length_drop, List.length_take]; rfl)) ?_; (with_reducible refine (parts_Class.calls k a0 t1298 _ A4.out).mono ?_); rintro e w' ⟨rfl, ⟨nd, rfl⟩⟩; refine ⟨_, rfl, ?_⟩) | ((with_reducible refine gate_callee (f := 127) rfl ?_); refine goesL_ (some 37) rfl rfl Tryd.func127 (by kernel_rfl) rfl #[.bool t1294, .int .u64 t1295, .int .i64 (wrap64 (-t1296)), .int .i64 a1] rfl (by (try simp only [List.map_toArray, List.map_cons, List.map_nil]); first | done | rfl | (simp only [List.length_drop, List.length_take]; rfl)) ?_; (with_reducible refine (fconv_near.calls k t1294 t1295 (wrap64 (-t1296)) a1 t1299 true _ A8.out).mono ?_); rintro e w11 ⟨rfl, hb⟩; refine ⟨_, rfl, ?_⟩; have n0_ := Aside0.mk (below_step (by repeat (first | (with_reducible first | exact HB.out | apply below_alloc | apply pw_below_drewN | apply below_drew1) | exact HB.out)) hb); clear HB; have HB := n0_; clear n0_; (try clear hb); (try clear hb2); (try clear hk); (try clear hi)) | ((with_reducible refine gate_callee (f := 96) rfl ?_); refine goesL_ (some 44) rfl rfl Tryd.func96 (by kernel_rfl) rfl #[.bool t1294, .int .u64 0, .int .u64 t1299, .int .i64 0, .bool false, .int .i64 0] rfl (by (try simp only [List.map_toArray, List.map_cons, List.map_nil]); first | done | rfl | (simp only [List.length_drop, List.length_take]; rfl)) ?_; (with_reducible refine (parts_Round.calls k t1294 0 t1299 0 false 0 t1301 t1302 _ A10.out).mono ?_); rintro e w12 ⟨rfl, hb⟩; refine ⟨_, rfl, ?_⟩; have n0_ := Aside0.mk (below_step (by repeat (first | (with_reducible first | exact HB.out | apply below_alloc | apply pw_below_drewN | apply below_drew1) | exact HB.out)) hb); clear HB; have HB := n0_; clear n0_; (try clear hb); (try clear hb2); (try clear hk); (try clear hi)))
          go_ret2
          exact ⟨by first | rfl | (simp [errW_none, errW_some] <;> rfl) | (simp [*, errW_none, errW_some] <;> rfl), by repeat (first | (with_reducible first | exact HB.out | apply below_alloc | apply pw_below_drewN | apply below_drew1) | exact HB.out)⟩
        · replace c9 := Bool.eq_false_iff.mpr c9
          subst c9
          have H1 : ((parts_Round.f k t1294 0 t1299 0 false 0).bind fun bt1303 => (some (bt1303.1, 0))) = some (r1, r2) := by rw [if_neg (show ¬ (false = true) by decide)] at H; exact H
          clear H
          have H := H1
          clear H1
          replace H := Option.bind_eq_some_iff.mp H
          obtain ⟨⟨t1303, t1304⟩, A130, H⟩ := H
          replace H : (some (t1303, 0)) = some (r1, r2) := H
          have A13 := Aside0.mk A130
          clear A130
          simp only [Option.some.injEq, Prod.mk.injEq] at H
          obtain ⟨rfl, rfl⟩ := H
          go_enter Tryd.func116, Tryd.ntmps116
          go_wp2_with (first | ((with_reducible refine gate_callee (f := 100) rfl ?_); refine goesL_ (some 17) rfl rfl Tryd.func100 (by kernel_rfl) rfl #[.int .u64 a0] rfl (by (try simp only [List.map_toArray, List.map_cons, List.map_nil]); first | done | rfl | (simp only [List.length_drop, List.length_take]; rfl)) ?_; (with_reducible refine (parts_Split.calls a0 t1294 t1295 t1296 t1297 _ A3.out).mono ?_); rintro e w' ⟨rfl, ⟨nd, rfl⟩⟩; refine ⟨_, rfl, ?_⟩) | ((with_reducible refine gate_callee (f := 101) rfl ?_); refine goesL_ (some 23) rfl rfl Tryd.func101 (by kernel_rfl) rfl #[.int .u64 a0] rfl (by (try simp only [List.map_toArray, List.map_cons, List.map_nil]); first | done | rfl | (simp only [List.length_drop, List.length_take]; rfl)) ?_; (with_reducible refine (parts_Class.calls k a0 t1298 _ A4.out).mono ?_); rintro e w' ⟨rfl, ⟨nd, rfl⟩⟩; refine ⟨_, rfl, ?_⟩) | ((with_reducible refine gate_callee (f := 127) rfl ?_); refine goesL_ (some 37) rfl rfl Tryd.func127 (by kernel_rfl) rfl #[.bool t1294, .int .u64 t1295, .int .i64 (wrap64 (-t1296)), .int .i64 a1] rfl (by (try simp only [List.map_toArray, List.map_cons, List.map_nil]); first | done | rfl | (simp only [List.length_drop, List.length_take]; rfl)) ?_; (with_reducible refine (fconv_near.calls k t1294 t1295 (wrap64 (-t1296)) a1 t1299 false _ A8.out).mono ?_); rintro e w14 ⟨rfl, hb⟩; refine ⟨_, rfl, ?_⟩; have n0_ := Aside0.mk (below_step (by repeat (first | (with_reducible first | exact HB.out | apply below_alloc | apply pw_below_drewN | apply below_drew1) | exact HB.out)) hb); clear HB; have HB := n0_; clear n0_; (try clear hb); (try clear hb2); (try clear hk); (try clear hi)) | ((with_reducible refine gate_callee (f := 96) rfl ?_); refine goesL_ (some 44) rfl rfl Tryd.func96 (by kernel_rfl) rfl #[.bool t1294, .int .u64 0, .int .u64 t1299, .int .i64 0, .bool false, .int .i64 0] rfl (by (try simp only [List.map_toArray, List.map_cons, List.map_nil]); first | done | rfl | (simp only [List.length_drop, List.length_take]; rfl)) ?_; (with_reducible refine (parts_Round.calls k t1294 0 t1299 0 false 0 t1303 t1304 _ A13.out).mono ?_); rintro e w15 ⟨rfl, hb⟩; refine ⟨_, rfl, ?_⟩; have n0_ := Aside0.mk (below_step (by repeat (first | (with_reducible first | exact HB.out | apply below_alloc | apply pw_below_drewN | apply below_drew1) | exact HB.out)) hb); clear HB; have HB := n0_; clear n0_; (try clear hb); (try clear hb2); (try clear hk); (try clear hi)))
          go_ret2
          exact ⟨by first | rfl | (simp [errW_none, errW_some] <;> rfl) | (simp [*, errW_none, errW_some] <;> rfl), by repeat (first | (with_reducible first | exact HB.out | apply below_alloc | apply pw_below_drewN | apply below_drew1) | exact HB.out)⟩
      · rw [if_neg c7] at H
        have c7b0 : decide (t1296 < 0) = false := decide_eq_false c7
        clear c7
        simp only [Option.some.injEq, Prod.mk.injEq] at H
        obtain ⟨rfl, rfl⟩ := H
        go_enter Tryd.func116, Tryd.ntmps116
        go_wp2_with (first | ((with_reducible refine gate_callee (f := 100) rfl ?_); refine goesL_ (some 17) rfl rfl Tryd.func100 (by kernel_rfl) rfl #[.int .u64 a0] rfl (by (try simp only [List.map_toArray, List.map_cons, List.map_nil]); first | done | rfl | (simp only [List.length_drop, List.length_take]; rfl)) ?_; (with_reducible refine (parts_Split.calls a0 t1294 t1295 t1296 t1297 _ A3.out).mono ?_); rintro e w' ⟨rfl, ⟨nd, rfl⟩⟩; refine ⟨_, rfl, ?_⟩) | ((with_reducible refine gate_callee (f := 101) rfl ?_); refine goesL_ (some 23) rfl rfl Tryd.func101 (by kernel_rfl) rfl #[.int .u64 a0] rfl (by (try simp only [List.map_toArray, List.map_cons, List.map_nil]); first | done | rfl | (simp only [List.length_drop, List.length_take]; rfl)) ?_; (with_reducible refine (parts_Class.calls k a0 t1298 _ A4.out).mono ?_); rintro e w' ⟨rfl, ⟨nd, rfl⟩⟩; refine ⟨_, rfl, ?_⟩))
        go_ret2
        exact ⟨by first | rfl | (simp [errW_none, errW_some] <;> rfl) | (simp [*, errW_none, errW_some] <;> rfl), by repeat (first | (with_reducible first | exact HB.out | apply below_alloc | apply pw_below_drewN | apply below_drew1) | exact HB.out)⟩
    · rw [if_neg c6] at H
      have c6b0 : (t1298 == 1) = false := beq_eq_false_iff_ne.mpr c6
      have c6b1 : (t1298 != 1) = true := bne_iff_ne.mpr c6
      simp only [Option.some.injEq, Prod.mk.injEq] at H
      obtain ⟨rfl, rfl⟩ := H
      go_enter Tryd.func116, Tryd.ntmps116
      go_wp2_with (first | ((with_reducible refine gate_callee (f := 100) rfl ?_); refine goesL_ (some 17) rfl rfl Tryd.func100 (by kernel_rfl) rfl #[.int .u64 a0] rfl (by (try simp only [List.map_toArray, List.map_cons, List.map_nil]); first | done | rfl | (simp only [List.length_drop, List.length_take]; rfl)) ?_; (with_reducible refine (parts_Split.calls a0 t1294 t1295 t1296 t1297 _ A3.out).mono ?_); rintro e w' ⟨rfl, ⟨nd, rfl⟩⟩; refine ⟨_, rfl, ?_⟩) | ((with_reducible refine gate_callee (f := 101) rfl ?_); refine goesL_ (some 23) rfl rfl Tryd.func101 (by kernel_rfl) rfl #[.int .u64 a0] rfl (by (try simp only [List.map_toArray, List.map_cons, List.map_nil]); first | done | rfl | (simp only [List.length_drop, List.length_take]; rfl)) ?_; (with_reducible refine (parts_Class.calls k a0 t1298 _ A4.out).mono ?_); rintro e w' ⟨rfl, ⟨nd, rfl⟩⟩; refine ⟨_, rfl, ?_⟩))
      go_ret2
      exact ⟨by first | rfl | (simp [errW_none, errW_some] <;> rfl) | (simp [*, errW_none, errW_some] <;> rfl), by repeat (first | (with_reducible first | exact HB.out | apply below_alloc | apply pw_below_drewN | apply below_drew1) | exact HB.out)⟩
mutual
def fadd_odd.j0 : Nat → Int → Int → Int → Int → Bool → Option (Int × Int × Bool)
  | 0, _, _, _, _, _ => none
  | k + 1, x0, x1, x7, x8, x13 => if x13 = true then (some (9221120237041090560, 0, true)) else (if x7 = 2 then (if x8 = 2 then (fadd_odd.j1 k x0 x1 x7 x8 (x0 != x1)) else (fadd_odd.j1 k x0 x1 x7 x8 false)) else (fadd_odd.j1 k x0 x1 x7 x8 false))
def fadd_odd.j1 : Nat → Int → Int → Int → Int → Bool → Option (Int × Int × Bool)
  | 0, _, _, _, _, _ => none
  | k + 1, x0, x1, x7, x8, x20 => if x20 = true then (some (9221120237041090560, 1, true)) else (if x7 = 2 then (some (x0, 0, true)) else (if x8 = 2 then (some (x1, 0, true)) else (some (0, 0, false))))
end
def fadd_odd.f (k : Nat) (a0 : Int) (a1 : Int) : Option (Int × Int × Bool) := (parts_Class.f k a0).bind fun t1305 => ((parts_Class.f k a1).bind fun t1306 => (if t1305 = 3 then (fadd_odd.j0 k a0 a1 t1305 t1306 true) else (fadd_odd.j0 k a0 a1 t1305 t1306 (t1306 == 3))))
set_option maxHeartbeats 8000000 in
set_option maxRecDepth 100000 in
theorem fadd_odd.calls (k : Nat) (a0 : Int) (a1 : Int) (r1 : Int) (r2 : Int) (r3 : Bool) (w : World) (h : fadd_odd.f k a0 a1 = some (r1, r2, r3)) :
    Calls Tryd.prog 133 #[.int .u64 a0, .int .u64 a1] w fun e w' => e = .returned (.tuple #[.int .u64 r1, .int .i64 r2, .bool r3]) ∧ Drawn0 w w' := by
  have H : ((parts_Class.f k a0).bind fun t1305 => ((parts_Class.f k a1).bind fun t1306 => (if t1305 = 3 then (fadd_odd.j0 k a0 a1 t1305 t1306 true) else (fadd_odd.j0 k a0 a1 t1305 t1306 (t1306 == 3))))) = some (r1, r2, r3) := h
  clear h
  replace H := Option.bind_eq_some_iff.mp H
  obtain ⟨t1305, A30, H⟩ := H
  replace H : ((parts_Class.f k a1).bind fun t1306 => (if t1305 = 3 then (fadd_odd.j0 k a0 a1 t1305 t1306 true) else (fadd_odd.j0 k a0 a1 t1305 t1306 (t1306 == 3)))) = some (r1, r2, r3) := H
  have A3 := Aside0.mk A30
  clear A30
  replace H := Option.bind_eq_some_iff.mp H
  obtain ⟨t1306, A40, H⟩ := H
  replace H : (if t1305 = 3 then (fadd_odd.j0 k a0 a1 t1305 t1306 true) else (fadd_odd.j0 k a0 a1 t1305 t1306 (t1306 == 3))) = some (r1, r2, r3) := H
  have A4 := Aside0.mk A40
  clear A40
  have HC5 := Aside0.mk H
  clear H
  go_enter Tryd.func133, Tryd.ntmps133
  go_upto_region 2 with (first | ((with_reducible refine gate_callee (f := 101) rfl ?_); refine goesL_ (some 10) rfl rfl Tryd.func101 (by kernel_rfl) rfl #[.int .u64 a0] rfl (by (try simp only [List.map_toArray, List.map_cons, List.map_nil]); first | done | rfl | (simp only [List.length_drop, List.length_take]; rfl)) ?_; (with_reducible refine (parts_Class.calls k a0 t1305 _ A3.out).mono ?_); rintro e w' ⟨rfl, ⟨nd, rfl⟩⟩; refine ⟨_, rfl, ?_⟩) | ((with_reducible refine gate_callee (f := 101) rfl ?_); refine goesL_ (some 12) rfl rfl Tryd.func101 (by kernel_rfl) rfl #[.int .u64 a1] rfl (by (try simp only [List.map_toArray, List.map_cons, List.map_nil]); first | done | rfl | (simp only [List.length_drop, List.length_take]; rfl)) ?_; (with_reducible refine (parts_Class.calls k a1 t1306 _ A4.out).mono ?_); rintro e w' ⟨rfl, ⟨nd, rfl⟩⟩; refine ⟨_, rfl, ?_⟩))
  (try simp only [Act.put, List.setIfInBounds_toArray, List.set_cons_zero, List.set_cons_succ])
  go_cut [13] (fun v13 wc => ∃ (kq : Nat) (x13_4 : Bool), v13 = .bool x13_4 ∧ Aside0 (fadd_odd.j0 kq a0 a1 t1305 t1306 x13_4 = some (r1, r2, r3)) ∧ Aside0 (kq ≤ k) ∧ Drawn0 w wc)
  case first =>
    have H := HC5.out
    clear HC5
    by_cases c6 : t1305 = 3
    · rw [if_pos c6] at H
      have c6b0 : (t1305 == 3) = true := beq_iff_eq.mpr c6
      have c6b1 : (t1305 != 3) = false := bne_eq_false_iff_eq.mpr c6
      clear c6
      (first | rw [c6b0] | (simp only [i64_w, i32_w]; rw [c6b0]) | skip)
      have H' := Aside0.mk H
      clear H
      go_wp2
      go_meet
      case rel => exact ⟨_, (true), (by first | rfl | (simp; done) | (simp [*]; done)), H', ⟨by first | omega | exact Nat.le_refl _⟩, by repeat (first | exact Drawn0.refl _ | apply Drawn0.step)⟩
    · rw [if_neg c6] at H
      have c6b0 : (t1305 == 3) = false := beq_eq_false_iff_ne.mpr c6
      have c6b1 : (t1305 != 3) = true := bne_iff_ne.mpr c6
      (first | rw [c6b0] | (simp only [i64_w, i32_w]; rw [c6b0]) | skip)
      have H' := Aside0.mk H
      clear H
      go_wp2
      go_meet
      case rel => exact ⟨_, ((t1306 == 3)), (by first | rfl | (simp; done) | (simp [*]; done)), H', ⟨by first | omega | exact Nat.le_refl _⟩, by repeat (first | exact Drawn0.refl _ | apply Drawn0.step)⟩
  case rest =>
    clear HC5
    try clear c1
    try clear p2
    try clear c6
    try clear c6b0
    try clear c6b1
    obtain ⟨kq, x13_4, rfl, HA, HJ4, ⟨mc4, rfl⟩⟩ := hcut
    cases kq with
    | zero => exact absurd HA.out (by simp [fadd_odd.j0])
    | succ kj4 =>
      have H := HA.out
      clear HA
      simp only [fadd_odd.j0] at H
      by_cases c7 : x13_4 = true
      · subst c7
        have H1 : (some (9221120237041090560, 0, true)) = some (r1, r2, r3) := by rw [if_pos rfl] at H; exact H
        clear H
        have H := H1
        clear H1
        simp only [Option.some.injEq, Prod.mk.injEq] at H
        obtain ⟨rfl, rfl, rfl⟩ := H
        go_wp2
        go_ret3
        exact ⟨by first | rfl | (simp; done) | (simp [*]; done), by repeat (first | exact Drawn0.refl _ | apply Drawn0.step)⟩
      · replace c7 := Bool.eq_false_iff.mpr c7
        subst c7
        have H1 : (if t1305 = 2 then (if t1306 = 2 then (fadd_odd.j1 kj4 a0 a1 t1305 t1306 (a0 != a1)) else (fadd_odd.j1 kj4 a0 a1 t1305 t1306 false)) else (fadd_odd.j1 kj4 a0 a1 t1305 t1306 false)) = some (r1, r2, r3) := by rw [if_neg (show ¬ (false = true) by decide)] at H; exact H
        clear H
        have H := H1
        clear H1
        have HC8 := Aside0.mk H
        clear H
        go_upto_region 4 with (fail)
        go_cut [20] (fun v20 wc => ∃ (kq : Nat) (x20_7 : Bool), v20 = .bool x20_7 ∧ Aside0 (fadd_odd.j1 kq a0 a1 t1305 t1306 x20_7 = some (r1, r2, r3)) ∧ Aside0 (kq ≤ kj4) ∧ Drawn0 w wc)
        case first =>
          have H := HC8.out
          clear HC8
          by_cases c9 : t1305 = 2
          · rw [if_pos c9] at H
            have c9b0 : (t1305 == 2) = true := beq_iff_eq.mpr c9
            have c9b1 : (t1305 != 2) = false := bne_eq_false_iff_eq.mpr c9
            clear c9
            (first | rw [c9b0] | (simp only [i64_w, i32_w]; rw [c9b0]) | skip)
            by_cases c10 : t1306 = 2
            · rw [if_pos c10] at H
              have c10b0 : (t1306 == 2) = true := beq_iff_eq.mpr c10
              have c10b1 : (t1306 != 2) = false := bne_eq_false_iff_eq.mpr c10
              clear c10
              have H' := Aside0.mk H
              clear H
              go_wp2
              go_meet
              case rel => exact ⟨_, ((a0 != a1)), (by first | rfl | (simp; done) | (simp [*]; done)), H', ⟨by have := HJ4.out; first | omega | exact Nat.le_refl _⟩, by repeat (first | exact Drawn0.refl _ | apply Drawn0.step)⟩
            · rw [if_neg c10] at H
              have c10b0 : (t1306 == 2) = false := beq_eq_false_iff_ne.mpr c10
              have c10b1 : (t1306 != 2) = true := bne_iff_ne.mpr c10
              have H' := Aside0.mk H
              clear H
              go_wp2
              go_meet
              case rel => exact ⟨_, (false), (by first | rfl | (simp; done) | (simp [*]; done)), H', ⟨by have := HJ4.out; first | omega | exact Nat.le_refl _⟩, by repeat (first | exact Drawn0.refl _ | apply Drawn0.step)⟩
          · rw [if_neg c9] at H
            have c9b0 : (t1305 == 2) = false := beq_eq_false_iff_ne.mpr c9
            have c9b1 : (t1305 != 2) = true := bne_iff_ne.mpr c9
            (first | rw [c9b0] | (simp only [i64_w, i32_w]; rw [c9b0]) | skip)
            have H' := Aside0.mk H
            clear H
            go_wp2
            go_meet
            case rel => exact ⟨_, (false), (by first | rfl | (simp; done) | (simp [*]; done)), H', ⟨by have := HJ4.out; first | omega | exact Nat.le_refl _⟩, by repeat (first | exact Drawn0.refl _ | apply Drawn0.step)⟩
        case rest =>
          clear HC8
          try clear c1
          try clear p2
          try clear c4
          try clear c6
          try clear c6b0
          try clear c6b1
          try clear c7
          try clear c9
          try clear c9b0
          try clear c9b1
          try clear c10
          try clear c10b0
          try clear c10b1
          try clear p2
          obtain ⟨kq, x20_7, rfl, HA, HJ7, ⟨mc7, rfl⟩⟩ := hcut
          cases kq with
          | zero => exact absurd HA.out (by simp [fadd_odd.j1])
          | succ kj7 =>
            have H := HA.out
            clear HA
            simp only [fadd_odd.j1] at H
            by_cases c11 : x20_7 = true
            · subst c11
              have H1 : (some (9221120237041090560, 1, true)) = some (r1, r2, r3) := by rw [if_pos rfl] at H; exact H
              clear H
              have H := H1
              clear H1
              simp only [Option.some.injEq, Prod.mk.injEq] at H
              obtain ⟨rfl, rfl, rfl⟩ := H
              go_wp2
              go_ret3
              exact ⟨by first | rfl | (simp; done) | (simp [*]; done), by repeat (first | exact Drawn0.refl _ | apply Drawn0.step)⟩
            · replace c11 := Bool.eq_false_iff.mpr c11
              subst c11
              have H1 : (if t1305 = 2 then (some (a0, 0, true)) else (if t1306 = 2 then (some (a1, 0, true)) else (some (0, 0, false)))) = some (r1, r2, r3) := by rw [if_neg (show ¬ (false = true) by decide)] at H; exact H
              clear H
              have H := H1
              clear H1
              by_cases c12 : t1305 = 2
              · rw [if_pos c12] at H
                have c12b0 : (t1305 == 2) = true := beq_iff_eq.mpr c12
                have c12b1 : (t1305 != 2) = false := bne_eq_false_iff_eq.mpr c12
                clear c12
                simp only [Option.some.injEq, Prod.mk.injEq] at H
                obtain ⟨rfl, rfl, rfl⟩ := H
                go_wp2
                go_ret3
                exact ⟨by first | rfl | (simp; done) | (simp [*]; done), by repeat (first | exact Drawn0.refl _ | apply Drawn0.step)⟩
              · rw [if_neg c12] at H
                have c12b0 : (t1305 == 2) = false := beq_eq_false_iff_ne.mpr c12
                have c12b1 : (t1305 != 2) = true := bne_iff_ne.mpr c12
                by_cases c13 : t1306 = 2
                · rw [if_pos c13] at H
                  have c13b0 : (t1306 == 2) = true := beq_iff_eq.mpr c13
                  have c13b1 : (t1306 != 2) = false := bne_eq_false_iff_eq.mpr c13
                  clear c13
                  simp only [Option.some.injEq, Prod.mk.injEq] at H
                  obtain ⟨rfl, rfl, rfl⟩ := H
                  go_wp2
                  go_ret3
                  exact ⟨by first | rfl | (simp; done) | (simp [*]; done), by repeat (first | exact Drawn0.refl _ | apply Drawn0.step)⟩
                · rw [if_neg c13] at H
                  have c13b0 : (t1306 == 2) = false := beq_eq_false_iff_ne.mpr c13
                  have c13b1 : (t1306 != 2) = true := bne_iff_ne.mpr c13
                  simp only [Option.some.injEq, Prod.mk.injEq] at H
                  obtain ⟨rfl, rfl, rfl⟩ := H
                  go_wp2
                  go_ret3
                  exact ⟨by first | rfl | (simp; done) | (simp [*]; done), by repeat (first | exact Drawn0.refl _ | apply Drawn0.step)⟩
def fadd_nought.f (a0 : Int) (a1 : Int) (a2 : Int) : Option (Int) := if (Go.bits .and .u64 a0 9223372036854775808) = (Go.bits .and .u64 a1 9223372036854775808) then (some (Go.bits .and .u64 a0 9223372036854775808)) else ((parts_Zero.f (a2 == 4)).bind fun t1307 => (some t1307))
set_option maxHeartbeats 8000000 in
set_option maxRecDepth 100000 in
theorem fadd_nought.calls (a0 : Int) (a1 : Int) (a2 : Int) (r : Int) (w : World) (h : fadd_nought.f a0 a1 a2 = some r) :
    Calls Tryd.prog 134 #[.int .u64 a0, .int .u64 a1, .int .i64 a2] w fun e w' => e = .returned (.int .u64 r) ∧ Drawn0 w w' := by
  have H : (if (Go.bits .and .u64 a0 9223372036854775808) = (Go.bits .and .u64 a1 9223372036854775808) then (some (Go.bits .and .u64 a0 9223372036854775808)) else ((parts_Zero.f (a2 == 4)).bind fun t1307 => (some t1307))) = some r := h
  clear h
  by_cases c4 : (Go.bits .and .u64 a0 9223372036854775808) = (Go.bits .and .u64 a1 9223372036854775808)
  · rw [if_pos c4] at H
    have c4b0 : ((Go.bits .and .u64 a0 9223372036854775808) == (Go.bits .and .u64 a1 9223372036854775808)) = true := beq_iff_eq.mpr c4
    have c4b1 : ((Go.bits .and .u64 a0 9223372036854775808) != (Go.bits .and .u64 a1 9223372036854775808)) = false := bne_eq_false_iff_eq.mpr c4
    clear c4
    obtain rfl := Option.some.inj H
    go_enter Tryd.func134, Tryd.ntmps134
    go_wp2
    go_ret
    exact ⟨by first | rfl | (simp; done) | (simp [*]; done), by repeat (first | exact Drawn0.refl _ | apply Drawn0.step)⟩
  · rw [if_neg c4] at H
    have c4b0 : ((Go.bits .and .u64 a0 9223372036854775808) == (Go.bits .and .u64 a1 9223372036854775808)) = false := beq_eq_false_iff_ne.mpr c4
    have c4b1 : ((Go.bits .and .u64 a0 9223372036854775808) != (Go.bits .and .u64 a1 9223372036854775808)) = true := bne_iff_ne.mpr c4
    replace H := Option.bind_eq_some_iff.mp H
    obtain ⟨t1307, A50, H⟩ := H
    replace H : (some t1307) = some r := H
    have A5 := Aside0.mk A50
    clear A50
    obtain rfl := Option.some.inj H
    go_enter Tryd.func134, Tryd.ntmps134
    go_wp2_with (first | ((with_reducible refine gate_callee (f := 114) rfl ?_); refine goesL_ (some 16) rfl rfl Tryd.func114 (by kernel_rfl) rfl #[.bool (a2 == 4)] rfl (by (try simp only [List.map_toArray, List.map_cons, List.map_nil]); first | done | rfl | (simp only [List.length_drop, List.length_take]; rfl)) ?_; (with_reducible refine (parts_Zero.calls (a2 == 4) t1307 _ A5.out).mono ?_); rintro e w' ⟨rfl, ⟨nd, rfl⟩⟩; refine ⟨_, rfl, ?_⟩))
    go_ret
    exact ⟨by first | rfl | (simp; done) | (simp [*]; done), by repeat (first | exact Drawn0.refl _ | apply Drawn0.step)⟩
def fadd_lift.f (a0 : Int) (a1 : Int) : Option (Int × Int) := if a1 = 0 then (some (0, a0)) else (if 0 ≤ (wrap64 (64 - a1)) then (if 0 ≤ a1 then (some (shr .u64 a0 (wrap64 (64 - a1)), shl .u64 a0 a1)) else (none)) else (none))
set_option maxHeartbeats 8000000 in
set_option maxRecDepth 100000 in
theorem fadd_lift.calls (a0 : Int) (a1 : Int) (r1 : Int) (r2 : Int) (w : World) (h : fadd_lift.f a0 a1 = some (r1, r2)) :
    Calls Tryd.prog 136 #[.int .u64 a0, .int .i64 a1] w fun e w' => e = .returned (.tuple #[.int .u64 r1, .int .u64 r2]) ∧ Drawn0 w w' := by
  have H : (if a1 = 0 then (some (0, a0)) else (if 0 ≤ (wrap64 (64 - a1)) then (if 0 ≤ a1 then (some (shr .u64 a0 (wrap64 (64 - a1)), shl .u64 a0 a1)) else (none)) else (none))) = some (r1, r2) := h
  clear h
  by_cases c3 : a1 = 0
  · rw [if_pos c3] at H
    have c3b0 : (a1 == 0) = true := beq_iff_eq.mpr c3
    have c3b1 : (a1 != 0) = false := bne_eq_false_iff_eq.mpr c3
    clear c3
    simp only [Option.some.injEq, Prod.mk.injEq] at H
    obtain ⟨rfl, rfl⟩ := H
    go_enter Tryd.func136, Tryd.ntmps136
    go_wp2
    repeat (go_quiet (fail); try go_wp2)
    go_ret2
    exact ⟨by first | rfl | (simp; done) | (simp [*]; done), by repeat (first | exact Drawn0.refl _ | apply Drawn0.step)⟩
  · rw [if_neg c3] at H
    have c3b0 : (a1 == 0) = false := beq_eq_false_iff_ne.mpr c3
    have c3b1 : (a1 != 0) = true := bne_iff_ne.mpr c3
    obtain ⟨ji4, hji4⟩ : ∃ j_ : Int, (wrap64 (64 - a1)) = j_ := ⟨_, rfl⟩
    replace H : (if 0 ≤ (ji4) then (if 0 ≤ a1 then (some (shr .u64 a0 (ji4), shl .u64 a0 a1)) else (none)) else (none)) = some (r1, r2) := by first | (rw [hji4] at H; exact H) | (simp only [hji4] at H ⊢; exact H)
    have hji4w : (IntKind.i64.wrap (64 - a1)) = ji4 := (i64_w _).trans hji4
    by_cases c5 : 0 ≤ (ji4)
    · rw [if_pos c5] at H
      have c5b0 := eq_true c5
      have c5b1 : decide (0 ≤ (ji4)) = true := decide_eq_true c5
      clear c5
      obtain ⟨ji6, hji6⟩ : ∃ j_ : Int, (shr .u64 a0 (ji4)) = j_ := ⟨_, rfl⟩
      replace H : (if 0 ≤ a1 then (some (ji6, shl .u64 a0 a1)) else (none)) = some (r1, r2) := by first | (rw [hji6] at H; exact H) | (simp only [hji6] at H ⊢; exact H)
      have hji6_ : (a0 / 2 ^ min (ji4).toNat 64) = ji6 := hji6
      have hji6z : (ji4) ≤ 64 → (a0 / 2 ^ (ji4).toNat) = ji6 := shr_small hji6
      by_cases c7 : 0 ≤ a1
      · rw [if_pos c7] at H
        have c7b0 := eq_true c7
        have c7b1 : decide (0 ≤ a1) = true := decide_eq_true c7
        clear c7
        obtain ⟨ji8, hji8⟩ : ∃ j_ : Int, (shl .u64 a0 a1) = j_ := ⟨_, rfl⟩
        replace H : (some (ji6, ji8)) = some (r1, r2) := by first | (rw [hji8] at H; exact H) | (simp only [hji8] at H ⊢; exact H)
        have hji8_ : (IntKind.u64.wrap (a0 * 2 ^ min a1.toNat 64)) = ji8 := hji8
        have hji8z : a1 ≤ 64 → (IntKind.u64.wrap (a0 * 2 ^ a1.toNat)) = ji8 := shl_small hji8
        simp only [Option.some.injEq, Prod.mk.injEq] at H
        obtain ⟨rfl, rfl⟩ := H
        go_enter Tryd.func136, Tryd.ntmps136
        go_wp2
        repeat (go_quiet (fail); try go_wp2)
        go_ret2
        exact ⟨by first | rfl | (simp; done) | (simp only [← hji4, ← hji6, ← hji8] <;> (first | rfl | simp)) | (simp [*]; done), by repeat (first | exact Drawn0.refl _ | apply Drawn0.step)⟩
      · rw [if_neg c7] at H
        exact absurd H (by simp)
    · rw [if_neg c5] at H
      exact absurd H (by simp)
def fadd_join.f (a0 : Int) (a1 : Int) (a2 : Int) (a3 : Bool) (a4 : Bool) : Option (Int × Int) := if a3 = true then (if a4 = true then ((bits_Sub64.f a1 a2 1).bind fun bt1308 => (some (IntKind.u64.wrap (a0 - bt1308.2), bt1308.1))) else ((bits_Sub64.f a1 a2 0).bind fun bt1310 => (some (IntKind.u64.wrap (a0 - bt1310.2), bt1310.1)))) else ((bits_Add64.f a1 a2 0).bind fun bt1312 => (some (IntKind.u64.wrap (a0 + bt1312.2), bt1312.1)))
set_option maxHeartbeats 8000000 in
set_option maxRecDepth 100000 in
theorem fadd_join.calls (a0 : Int) (a1 : Int) (a2 : Int) (a3 : Bool) (a4 : Bool) (r1 : Int) (r2 : Int) (w : World) (h : fadd_join.f a0 a1 a2 a3 a4 = some (r1, r2)) :
    Calls Tryd.prog 137 #[.int .u64 a0, .int .u64 a1, .int .u64 a2, .bool a3, .bool a4] w fun e w' => e = .returned (.tuple #[.int .u64 r1, .int .u64 r2]) ∧ Drawn0 w w' := by
  have H : (if a3 = true then (if a4 = true then ((bits_Sub64.f a1 a2 1).bind fun bt1308 => (some (IntKind.u64.wrap (a0 - bt1308.2), bt1308.1))) else ((bits_Sub64.f a1 a2 0).bind fun bt1310 => (some (IntKind.u64.wrap (a0 - bt1310.2), bt1310.1)))) else ((bits_Add64.f a1 a2 0).bind fun bt1312 => (some (IntKind.u64.wrap (a0 + bt1312.2), bt1312.1)))) = some (r1, r2) := h
  clear h
  by_cases c6 : a3 = true
  · subst c6
    have H1 : (if a4 = true then ((bits_Sub64.f a1 a2 1).bind fun bt1308 => (some (IntKind.u64.wrap (a0 - bt1308.2), bt1308.1))) else ((bits_Sub64.f a1 a2 0).bind fun bt1310 => (some (IntKind.u64.wrap (a0 - bt1310.2), bt1310.1)))) = some (r1, r2) := by rw [if_pos rfl] at H; exact H
    clear H
    have H := H1
    clear H1
    by_cases c7 : a4 = true
    · subst c7
      have H1 : ((bits_Sub64.f a1 a2 1).bind fun bt1308 => (some (IntKind.u64.wrap (a0 - bt1308.2), bt1308.1))) = some (r1, r2) := by rw [if_pos rfl] at H; exact H
      clear H
      have H := H1
      clear H1
      replace H := Option.bind_eq_some_iff.mp H
      obtain ⟨⟨t1308, t1309⟩, A80, H⟩ := H
      replace H : (some (IntKind.u64.wrap (a0 - t1309), t1308)) = some (r1, r2) := H
      have A8 := Aside0.mk A80
      clear A80
      simp only [Option.some.injEq, Prod.mk.injEq] at H
      obtain ⟨rfl, rfl⟩ := H
      go_enter Tryd.func137, Tryd.ntmps137
      go_wp2_with (first | ((with_reducible refine gate_callee (f := 123) rfl ?_); refine goesX_ (some 34) rfl rfl #[.int .u64 a1, .int .u64 a2, .int .u64 1] rfl (by (try simp only [List.map_toArray, List.map_cons, List.map_nil]); first | done | rfl) ?_; (with_reducible refine (bits_Sub64.calls a1 a2 1 t1308 t1309 _ A8.out).mono ?_); rintro e w' ⟨rfl, ⟨nd, rfl⟩⟩; refine ⟨_, rfl, ?_⟩))
      go_ret2
      exact ⟨by first | rfl | (simp; done) | (simp [*]; done), by repeat (first | exact Drawn0.refl _ | apply Drawn0.step)⟩
    · replace c7 := Bool.eq_false_iff.mpr c7
      subst c7
      have H1 : ((bits_Sub64.f a1 a2 0).bind fun bt1310 => (some (IntKind.u64.wrap (a0 - bt1310.2), bt1310.1))) = some (r1, r2) := by rw [if_neg (show ¬ (false = true) by decide)] at H; exact H
      clear H
      have H := H1
      clear H1
      replace H := Option.bind_eq_some_iff.mp H
      obtain ⟨⟨t1310, t1311⟩, A90, H⟩ := H
      replace H : (some (IntKind.u64.wrap (a0 - t1311), t1310)) = some (r1, r2) := H
      have A9 := Aside0.mk A90
      clear A90
      simp only [Option.some.injEq, Prod.mk.injEq] at H
      obtain ⟨rfl, rfl⟩ := H
      go_enter Tryd.func137, Tryd.ntmps137
      go_wp2_with (first | ((with_reducible refine gate_callee (f := 123) rfl ?_); refine goesX_ (some 34) rfl rfl #[.int .u64 a1, .int .u64 a2, .int .u64 0] rfl (by (try simp only [List.map_toArray, List.map_cons, List.map_nil]); first | done | rfl) ?_; (with_reducible refine (bits_Sub64.calls a1 a2 0 t1310 t1311 _ A9.out).mono ?_); rintro e w' ⟨rfl, ⟨nd, rfl⟩⟩; refine ⟨_, rfl, ?_⟩))
      go_ret2
      exact ⟨by first | rfl | (simp; done) | (simp [*]; done), by repeat (first | exact Drawn0.refl _ | apply Drawn0.step)⟩
  · replace c6 := Bool.eq_false_iff.mpr c6
    subst c6
    have H1 : ((bits_Add64.f a1 a2 0).bind fun bt1312 => (some (IntKind.u64.wrap (a0 + bt1312.2), bt1312.1))) = some (r1, r2) := by rw [if_neg (show ¬ (false = true) by decide)] at H; exact H
    clear H
    have H := H1
    clear H1
    replace H := Option.bind_eq_some_iff.mp H
    obtain ⟨⟨t1312, t1313⟩, A100, H⟩ := H
    replace H : (some (IntKind.u64.wrap (a0 + t1313), t1312)) = some (r1, r2) := H
    have A10 := Aside0.mk A100
    clear A100
    simp only [Option.some.injEq, Prod.mk.injEq] at H
    obtain ⟨rfl, rfl⟩ := H
    go_enter Tryd.func137, Tryd.ntmps137
    go_wp2_with (first | ((with_reducible refine gate_callee (f := 110) rfl ?_); refine goesX_ (some 22) rfl rfl #[.int .u64 a1, .int .u64 a2, .int .u64 0] rfl (by (try simp only [List.map_toArray, List.map_cons, List.map_nil]); first | done | rfl) ?_; (with_reducible refine (bits_Add64.calls a1 a2 0 t1312 t1313 _ A10.out).mono ?_); rintro e w' ⟨rfl, ⟨nd, rfl⟩⟩; refine ⟨_, rfl, ?_⟩))
    go_ret2
    exact ⟨by first | rfl | (simp; done) | (simp [*]; done), by repeat (first | exact Drawn0.refl _ | apply Drawn0.step)⟩
def fadd_sum.f (k : Nat) (a0 : Int) (a1 : Int) (a2 : Int) : Option (Int × Int) := (parts_Split.f a0).bind fun bt1314 => ((parts_Split.f a1).bind fun bt1318 => (if (wrap64 (bt1314.2.2.1 - bt1318.2.2.1)) ≤ 60 then ((fadd_lift.f bt1314.2.1 (wrap64 (bt1314.2.2.1 - bt1318.2.2.1))).bind fun bt1322 => ((fadd_join.f bt1322.1 bt1322.2 bt1318.2.1 (bt1314.1 != bt1318.1) false).bind fun bt1324 => ((parts_Round.f k bt1314.1 bt1324.1 bt1324.2 bt1318.2.2.1 false a2).bind fun bt1326 => (some (bt1326.1, bt1326.2))))) else ((fadd_lift.f bt1314.2.1 62).bind fun bt1328 => (if (mn (wrap64 ((wrap64 (bt1314.2.2.1 - bt1318.2.2.1)) - 62)) 116) ≤ 0 then (if 0 ≤ (wrap64 (-(mn (wrap64 ((wrap64 (bt1314.2.2.1 - bt1318.2.2.1)) - 62)) 116))) then ((fadd_join.f bt1328.1 bt1328.2 (shl .u64 bt1318.2.1 (wrap64 (-(mn (wrap64 ((wrap64 (bt1314.2.2.1 - bt1318.2.2.1)) - 62)) 116)))) (bt1314.1 != bt1318.1) false).bind fun bt1330 => ((parts_Round.f k bt1314.1 bt1330.1 bt1330.2 (wrap64 (bt1314.2.2.1 - 62)) false a2).bind fun bt1332 => (some (bt1332.1, bt1332.2)))) else (none)) else (if (mn (wrap64 ((wrap64 (bt1314.2.2.1 - bt1318.2.2.1)) - 62)) 116) < 64 then (if 0 ≤ (mn (wrap64 ((wrap64 (bt1314.2.2.1 - bt1318.2.2.1)) - 62)) 116) then (if 0 ≤ (wrap64 (64 - (mn (wrap64 ((wrap64 (bt1314.2.2.1 - bt1318.2.2.1)) - 62)) 116))) then ((fadd_join.f bt1328.1 bt1328.2 (shr .u64 bt1318.2.1 (mn (wrap64 ((wrap64 (bt1314.2.2.1 - bt1318.2.2.1)) - 62)) 116)) (bt1314.1 != bt1318.1) ((shl .u64 bt1318.2.1 (wrap64 (64 - (mn (wrap64 ((wrap64 (bt1314.2.2.1 - bt1318.2.2.1)) - 62)) 116)))) != 0)).bind fun bt1334 => ((parts_Round.f k bt1314.1 bt1334.1 bt1334.2 (wrap64 (bt1314.2.2.1 - 62)) ((shl .u64 bt1318.2.1 (wrap64 (64 - (mn (wrap64 ((wrap64 (bt1314.2.2.1 - bt1318.2.2.1)) - 62)) 116)))) != 0) a2).bind fun bt1336 => (some (bt1336.1, bt1336.2)))) else (none)) else (none)) else ((fadd_join.f bt1328.1 bt1328.2 0 (bt1314.1 != bt1318.1) (bt1318.2.1 != 0)).bind fun bt1338 => ((parts_Round.f k bt1314.1 bt1338.1 bt1338.2 (wrap64 (bt1314.2.2.1 - 62)) (bt1318.2.1 != 0) a2).bind fun bt1340 => (some (bt1340.1, bt1340.2)))))))))
set_option maxHeartbeats 8000000 in
set_option maxRecDepth 100000 in
theorem fadd_sum.calls (k : Nat) (a0 : Int) (a1 : Int) (a2 : Int) (r1 : Int) (r2 : Int) (w : World) (h : fadd_sum.f k a0 a1 a2 = some (r1, r2)) :
    Calls Tryd.prog 135 #[.int .u64 a0, .int .u64 a1, .int .i64 a2] w fun e w' => e = .returned (.tuple #[.int .u64 r1, .int .i64 r2]) ∧ Below w.heap.size w w' := by
  have HB := Aside0.mk (Below.refl w.heap.size w)
  have H : ((parts_Split.f a0).bind fun bt1314 => ((parts_Split.f a1).bind fun bt1318 => (if (wrap64 (bt1314.2.2.1 - bt1318.2.2.1)) ≤ 60 then ((fadd_lift.f bt1314.2.1 (wrap64 (bt1314.2.2.1 - bt1318.2.2.1))).bind fun bt1322 => ((fadd_join.f bt1322.1 bt1322.2 bt1318.2.1 (bt1314.1 != bt1318.1) false).bind fun bt1324 => ((parts_Round.f k bt1314.1 bt1324.1 bt1324.2 bt1318.2.2.1 false a2).bind fun bt1326 => (some (bt1326.1, bt1326.2))))) else ((fadd_lift.f bt1314.2.1 62).bind fun bt1328 => (if (mn (wrap64 ((wrap64 (bt1314.2.2.1 - bt1318.2.2.1)) - 62)) 116) ≤ 0 then (if 0 ≤ (wrap64 (-(mn (wrap64 ((wrap64 (bt1314.2.2.1 - bt1318.2.2.1)) - 62)) 116))) then ((fadd_join.f bt1328.1 bt1328.2 (shl .u64 bt1318.2.1 (wrap64 (-(mn (wrap64 ((wrap64 (bt1314.2.2.1 - bt1318.2.2.1)) - 62)) 116)))) (bt1314.1 != bt1318.1) false).bind fun bt1330 => ((parts_Round.f k bt1314.1 bt1330.1 bt1330.2 (wrap64 (bt1314.2.2.1 - 62)) false a2).bind fun bt1332 => (some (bt1332.1, bt1332.2)))) else (none)) else (if (mn (wrap64 ((wrap64 (bt1314.2.2.1 - bt1318.2.2.1)) - 62)) 116) < 64 then (if 0 ≤ (mn (wrap64 ((wrap64 (bt1314.2.2.1 - bt1318.2.2.1)) - 62)) 116) then (if 0 ≤ (wrap64 (64 - (mn (wrap64 ((wrap64 (bt1314.2.2.1 - bt1318.2.2.1)) - 62)) 116))) then ((fadd_join.f bt1328.1 bt1328.2 (shr .u64 bt1318.2.1 (mn (wrap64 ((wrap64 (bt1314.2.2.1 - bt1318.2.2.1)) - 62)) 116)) (bt1314.1 != bt1318.1) ((shl .u64 bt1318.2.1 (wrap64 (64 - (mn (wrap64 ((wrap64 (bt1314.2.2.1 - bt1318.2.2.1)) - 62)) 116)))) != 0)).bind fun bt1334 => ((parts_Round.f k bt1314.1 bt1334.1 bt1334.2 (wrap64 (bt1314.2.2.1 - 62)) ((shl .u64 bt1318.2.1 (wrap64 (64 - (mn (wrap64 ((wrap64 (bt1314.2.2.1 - bt1318.2.2.1)) - 62)) 116)))) != 0) a2).bind fun bt1336 => (some (bt1336.1, bt1336.2)))) else (none)) else (none)) else ((fadd_join.f bt1328.1 bt1328.2 0 (bt1314.1 != bt1318.1) (bt1318.2.1 != 0)).bind fun bt1338 => ((parts_Round.f k bt1314.1 bt1338.1 bt1338.2 (wrap64 (bt1314.2.2.1 - 62)) (bt1318.2.1 != 0) a2).bind fun bt1340 => (some (bt1340.1, bt1340.2)))))))))) = some (r1, r2) := h
  clear h
  replace H := Option.bind_eq_some_iff.mp H
  obtain ⟨⟨t1314, t1315, t1316, t1317⟩, A40, H⟩ := H
  replace H : ((parts_Split.f a1).bind fun bt1318 => (if (wrap64 (t1316 - bt1318.2.2.1)) ≤ 60 then ((fadd_lift.f t1315 (wrap64 (t1316 - bt1318.2.2.1))).bind fun bt1322 => ((fadd_join.f bt1322.1 bt1322.2 bt1318.2.1 (t1314 != bt1318.1) false).bind fun bt1324 => ((parts_Round.f k t1314 bt1324.1 bt1324.2 bt1318.2.2.1 false a2).bind fun bt1326 => (some (bt1326.1, bt1326.2))))) else ((fadd_lift.f t1315 62).bind fun bt1328 => (if (mn (wrap64 ((wrap64 (t1316 - bt1318.2.2.1)) - 62)) 116) ≤ 0 then (if 0 ≤ (wrap64 (-(mn (wrap64 ((wrap64 (t1316 - bt1318.2.2.1)) - 62)) 116))) then ((fadd_join.f bt1328.1 bt1328.2 (shl .u64 bt1318.2.1 (wrap64 (-(mn (wrap64 ((wrap64 (t1316 - bt1318.2.2.1)) - 62)) 116)))) (t1314 != bt1318.1) false).bind fun bt1330 => ((parts_Round.f k t1314 bt1330.1 bt1330.2 (wrap64 (t1316 - 62)) false a2).bind fun bt1332 => (some (bt1332.1, bt1332.2)))) else (none)) else (if (mn (wrap64 ((wrap64 (t1316 - bt1318.2.2.1)) - 62)) 116) < 64 then (if 0 ≤ (mn (wrap64 ((wrap64 (t1316 - bt1318.2.2.1)) - 62)) 116) then (if 0 ≤ (wrap64 (64 - (mn (wrap64 ((wrap64 (t1316 - bt1318.2.2.1)) - 62)) 116))) then ((fadd_join.f bt1328.1 bt1328.2 (shr .u64 bt1318.2.1 (mn (wrap64 ((wrap64 (t1316 - bt1318.2.2.1)) - 62)) 116)) (t1314 != bt1318.1) ((shl .u64 bt1318.2.1 (wrap64 (64 - (mn (wrap64 ((wrap64 (t1316 - bt1318.2.2.1)) - 62)) 116)))) != 0)).bind fun bt1334 => ((parts_Round.f k t1314 bt1334.1 bt1334.2 (wrap64 (t1316 - 62)) ((shl .u64 bt1318.2.1 (wrap64 (64 - (mn (wrap64 ((wrap64 (t1316 - bt1318.2.2.1)) - 62)) 116)))) != 0) a2).bind fun bt1336 => (some (bt1336.1, bt1336.2)))) else (none)) else (none)) else ((fadd_join.f bt1328.1 bt1328.2 0 (t1314 != bt1318.1) (bt1318.2.1 != 0)).bind fun bt1338 => ((parts_Round.f k t1314 bt1338.1 bt1338.2 (wrap64 (t1316 - 62)) (bt1318.2.1 != 0) a2).bind fun bt1340 => (some (bt1340.1, bt1340.2))))))))) = some (r1, r2) := H
  have A4 := Aside0.mk A40
  clear A40
  replace H := Option.bind_eq_some_iff.mp H
  obtain ⟨⟨t1318, t1319, t1320, t1321⟩, A50, H⟩ := H
  replace H : (if (wrap64 (t1316 - t1320)) ≤ 60 then ((fadd_lift.f t1315 (wrap64 (t1316 - t1320))).bind fun bt1322 => ((fadd_join.f bt1322.1 bt1322.2 t1319 (t1314 != t1318) false).bind fun bt1324 => ((parts_Round.f k t1314 bt1324.1 bt1324.2 t1320 false a2).bind fun bt1326 => (some (bt1326.1, bt1326.2))))) else ((fadd_lift.f t1315 62).bind fun bt1328 => (if (mn (wrap64 ((wrap64 (t1316 - t1320)) - 62)) 116) ≤ 0 then (if 0 ≤ (wrap64 (-(mn (wrap64 ((wrap64 (t1316 - t1320)) - 62)) 116))) then ((fadd_join.f bt1328.1 bt1328.2 (shl .u64 t1319 (wrap64 (-(mn (wrap64 ((wrap64 (t1316 - t1320)) - 62)) 116)))) (t1314 != t1318) false).bind fun bt1330 => ((parts_Round.f k t1314 bt1330.1 bt1330.2 (wrap64 (t1316 - 62)) false a2).bind fun bt1332 => (some (bt1332.1, bt1332.2)))) else (none)) else (if (mn (wrap64 ((wrap64 (t1316 - t1320)) - 62)) 116) < 64 then (if 0 ≤ (mn (wrap64 ((wrap64 (t1316 - t1320)) - 62)) 116) then (if 0 ≤ (wrap64 (64 - (mn (wrap64 ((wrap64 (t1316 - t1320)) - 62)) 116))) then ((fadd_join.f bt1328.1 bt1328.2 (shr .u64 t1319 (mn (wrap64 ((wrap64 (t1316 - t1320)) - 62)) 116)) (t1314 != t1318) ((shl .u64 t1319 (wrap64 (64 - (mn (wrap64 ((wrap64 (t1316 - t1320)) - 62)) 116)))) != 0)).bind fun bt1334 => ((parts_Round.f k t1314 bt1334.1 bt1334.2 (wrap64 (t1316 - 62)) ((shl .u64 t1319 (wrap64 (64 - (mn (wrap64 ((wrap64 (t1316 - t1320)) - 62)) 116)))) != 0) a2).bind fun bt1336 => (some (bt1336.1, bt1336.2)))) else (none)) else (none)) else ((fadd_join.f bt1328.1 bt1328.2 0 (t1314 != t1318) (t1319 != 0)).bind fun bt1338 => ((parts_Round.f k t1314 bt1338.1 bt1338.2 (wrap64 (t1316 - 62)) (t1319 != 0) a2).bind fun bt1340 => (some (bt1340.1, bt1340.2)))))))) = some (r1, r2) := H
  have A5 := Aside0.mk A50
  clear A50
  by_cases c6 : (wrap64 (t1316 - t1320)) ≤ 60
  · rw [if_pos c6] at H
    have c6b0 : decide ((wrap64 (t1316 - t1320)) ≤ 60) = true := decide_eq_true c6
    clear c6
    replace H := Option.bind_eq_some_iff.mp H
    obtain ⟨⟨t1322, t1323⟩, A70, H⟩ := H
    replace H : ((fadd_join.f t1322 t1323 t1319 (t1314 != t1318) false).bind fun bt1324 => ((parts_Round.f k t1314 bt1324.1 bt1324.2 t1320 false a2).bind fun bt1326 => (some (bt1326.1, bt1326.2)))) = some (r1, r2) := H
    have A7 := Aside0.mk A70
    clear A70
    replace H := Option.bind_eq_some_iff.mp H
    obtain ⟨⟨t1324, t1325⟩, A80, H⟩ := H
    replace H : ((parts_Round.f k t1314 t1324 t1325 t1320 false a2).bind fun bt1326 => (some (bt1326.1, bt1326.2))) = some (r1, r2) := H
    have A8 := Aside0.mk A80
    clear A80
    replace H := Option.bind_eq_some_iff.mp H
    obtain ⟨⟨t1326, t1327⟩, A90, H⟩ := H
    replace H : (some (t1326, t1327)) = some (r1, r2) := H
    have A9 := Aside0.mk A90
    clear A90
    simp only [Option.some.injEq, Prod.mk.injEq] at H
    obtain ⟨rfl, rfl⟩ := H
    go_enter Tryd.func135, Tryd.ntmps135
    go_wp2_with (first | (go_at_call 100; (with_reducible refine (parts_Split.calls a0 t1314 t1315 t1316 t1317 _ A4.out).mono ?_); rintro e w' ⟨rfl, ⟨nd, rfl⟩⟩; (try first | exact ⟨rfl, _, World.drewN_drewN _ _ _⟩ | exact ⟨rfl, _, Eq.trans (World.drewN_drewN _ _ _) (congrArg (World.drewN _) (Nat.add_assoc _ _ _))⟩)) | (go_at_call 100; (with_reducible refine (parts_Split.calls a1 t1318 t1319 t1320 t1321 _ A5.out).mono ?_); rintro e w' ⟨rfl, ⟨nd, rfl⟩⟩; (try first | exact ⟨rfl, _, World.drewN_drewN _ _ _⟩ | exact ⟨rfl, _, Eq.trans (World.drewN_drewN _ _ _) (congrArg (World.drewN _) (Nat.add_assoc _ _ _))⟩)) | (go_at_call 136; (with_reducible refine (fadd_lift.calls t1315 (wrap64 (t1316 - t1320)) t1322 t1323 _ A7.out).mono ?_); rintro e w' ⟨rfl, ⟨nd, rfl⟩⟩; (try first | exact ⟨rfl, _, World.drewN_drewN _ _ _⟩ | exact ⟨rfl, _, Eq.trans (World.drewN_drewN _ _ _) (congrArg (World.drewN _) (Nat.add_assoc _ _ _))⟩)) | (go_at_call 137; (refine (fadd_join.calls t1322 t1323 t1319 (t1314 != t1318) false t1324 t1325 _ A8.out).mono ?_); rintro e w' ⟨rfl, ⟨nd, rfl⟩⟩; (try first | exact ⟨rfl, _, World.drewN_drewN _ _ _⟩ | exact ⟨rfl, _, Eq.trans (World.drewN_drewN _ _ _) (congrArg (World.drewN _) (Nat.add_assoc _ _ _))⟩)) | (go_at_call 96; (with_reducible refine (parts_Round.calls k t1314 t1324 t1325 t1320 false a2 t1326 t1327 _ A9.out).mono ?_); rintro e w10 ⟨rfl, hb⟩; have n0_ := Aside0.mk (below_step (by repeat (first | (with_reducible first | exact HB.out | apply below_alloc | apply pw_below_drewN | apply below_drew1) | exact HB.out)) hb); clear HB; have HB := n0_; clear n0_; (try clear hb); (try clear hb2); (try clear hk); (try clear hi)))
    repeat (go_quiet (first | (go_at_call 100; (with_reducible refine (parts_Split.calls a0 t1314 t1315 t1316 t1317 _ A4.out).mono ?_); rintro e w' ⟨rfl, ⟨nd, rfl⟩⟩; (try first | exact ⟨rfl, _, World.drewN_drewN _ _ _⟩ | exact ⟨rfl, _, Eq.trans (World.drewN_drewN _ _ _) (congrArg (World.drewN _) (Nat.add_assoc _ _ _))⟩)) | (go_at_call 100; (with_reducible refine (parts_Split.calls a1 t1318 t1319 t1320 t1321 _ A5.out).mono ?_); rintro e w' ⟨rfl, ⟨nd, rfl⟩⟩; (try first | exact ⟨rfl, _, World.drewN_drewN _ _ _⟩ | exact ⟨rfl, _, Eq.trans (World.drewN_drewN _ _ _) (congrArg (World.drewN _) (Nat.add_assoc _ _ _))⟩)) | (go_at_call 136; (with_reducible refine (fadd_lift.calls t1315 (wrap64 (t1316 - t1320)) t1322 t1323 _ A7.out).mono ?_); rintro e w' ⟨rfl, ⟨nd, rfl⟩⟩; (try first | exact ⟨rfl, _, World.drewN_drewN _ _ _⟩ | exact ⟨rfl, _, Eq.trans (World.drewN_drewN _ _ _) (congrArg (World.drewN _) (Nat.add_assoc _ _ _))⟩)) | (go_at_call 137; (refine (fadd_join.calls t1322 t1323 t1319 (t1314 != t1318) false t1324 t1325 _ A8.out).mono ?_); rintro e w' ⟨rfl, ⟨nd, rfl⟩⟩; (try first | exact ⟨rfl, _, World.drewN_drewN _ _ _⟩ | exact ⟨rfl, _, Eq.trans (World.drewN_drewN _ _ _) (congrArg (World.drewN _) (Nat.add_assoc _ _ _))⟩)) | (go_at_call 96; (with_reducible refine (parts_Round.calls k t1314 t1324 t1325 t1320 false a2 t1326 t1327 _ A9.out).mono ?_); rintro e w10 ⟨rfl, hb⟩; have n0_ := Aside0.mk (below_step (by repeat (first | (with_reducible first | exact HB.out | apply below_alloc | apply pw_below_drewN | apply below_drew1) | exact HB.out)) hb); clear HB; have HB := n0_; clear n0_; (try clear hb); (try clear hb2); (try clear hk); (try clear hi))); try go_wp2_with (first | (go_at_call 100; (with_reducible refine (parts_Split.calls a0 t1314 t1315 t1316 t1317 _ A4.out).mono ?_); rintro e w' ⟨rfl, ⟨nd, rfl⟩⟩; (try first | exact ⟨rfl, _, World.drewN_drewN _ _ _⟩ | exact ⟨rfl, _, Eq.trans (World.drewN_drewN _ _ _) (congrArg (World.drewN _) (Nat.add_assoc _ _ _))⟩)) | (go_at_call 100; (with_reducible refine (parts_Split.calls a1 t1318 t1319 t1320 t1321 _ A5.out).mono ?_); rintro e w' ⟨rfl, ⟨nd, rfl⟩⟩; (try first | exact ⟨rfl, _, World.drewN_drewN _ _ _⟩ | exact ⟨rfl, _, Eq.trans (World.drewN_drewN _ _ _) (congrArg (World.drewN _) (Nat.add_assoc _ _ _))⟩)) | (go_at_call 136; (with_reducible refine (fadd_lift.calls t1315 (wrap64 (t1316 - t1320)) t1322 t1323 _ A7.out).mono ?_); rintro e w' ⟨rfl, ⟨nd, rfl⟩⟩; (try first | exact ⟨rfl, _, World.drewN_drewN _ _ _⟩ | exact ⟨rfl, _, Eq.trans (World.drewN_drewN _ _ _) (congrArg (World.drewN _) (Nat.add_assoc _ _ _))⟩)) | (go_at_call 137; (refine (fadd_join.calls t1322 t1323 t1319 (t1314 != t1318) false t1324 t1325 _ A8.out).mono ?_); rintro e w' ⟨rfl, ⟨nd, rfl⟩⟩; (try first | exact ⟨rfl, _, World.drewN_drewN _ _ _⟩ | exact ⟨rfl, _, Eq.trans (World.drewN_drewN _ _ _) (congrArg (World.drewN _) (Nat.add_assoc _ _ _))⟩)) | (go_at_call 96; (with_reducible refine (parts_Round.calls k t1314 t1324 t1325 t1320 false a2 t1326 t1327 _ A9.out).mono ?_); rintro e w10 ⟨rfl, hb⟩; have n0_ := Aside0.mk (below_step (by repeat (first | (with_reducible first | exact HB.out | apply below_alloc | apply pw_below_drewN | apply below_drew1) | exact HB.out)) hb); clear HB; have HB := n0_; clear n0_; (try clear hb); (try clear hb2); (try clear hk); (try clear hi))))
    go_ret2
    exact ⟨by first | rfl | (simp [errW_none, errW_some] <;> rfl) | (simp [*, errW_none, errW_some] <;> rfl), by repeat (first | (with_reducible first | exact HB.out | apply below_alloc | apply pw_below_drewN | apply below_drew1) | exact HB.out)⟩
  · rw [if_neg c6] at H
    have c6b0 : decide ((wrap64 (t1316 - t1320)) ≤ 60) = false := decide_eq_false c6
    clear c6
    replace H := Option.bind_eq_some_iff.mp H
    obtain ⟨⟨t1328, t1329⟩, A110, H⟩ := H
    replace H : (if (mn (wrap64 ((wrap64 (t1316 - t1320)) - 62)) 116) ≤ 0 then (if 0 ≤ (wrap64 (-(mn (wrap64 ((wrap64 (t1316 - t1320)) - 62)) 116))) then ((fadd_join.f t1328 t1329 (shl .u64 t1319 (wrap64 (-(mn (wrap64 ((wrap64 (t1316 - t1320)) - 62)) 116)))) (t1314 != t1318) false).bind fun bt1330 => ((parts_Round.f k t1314 bt1330.1 bt1330.2 (wrap64 (t1316 - 62)) false a2).bind fun bt1332 => (some (bt1332.1, bt1332.2)))) else (none)) else (if (mn (wrap64 ((wrap64 (t1316 - t1320)) - 62)) 116) < 64 then (if 0 ≤ (mn (wrap64 ((wrap64 (t1316 - t1320)) - 62)) 116) then (if 0 ≤ (wrap64 (64 - (mn (wrap64 ((wrap64 (t1316 - t1320)) - 62)) 116))) then ((fadd_join.f t1328 t1329 (shr .u64 t1319 (mn (wrap64 ((wrap64 (t1316 - t1320)) - 62)) 116)) (t1314 != t1318) ((shl .u64 t1319 (wrap64 (64 - (mn (wrap64 ((wrap64 (t1316 - t1320)) - 62)) 116)))) != 0)).bind fun bt1334 => ((parts_Round.f k t1314 bt1334.1 bt1334.2 (wrap64 (t1316 - 62)) ((shl .u64 t1319 (wrap64 (64 - (mn (wrap64 ((wrap64 (t1316 - t1320)) - 62)) 116)))) != 0) a2).bind fun bt1336 => (some (bt1336.1, bt1336.2)))) else (none)) else (none)) else ((fadd_join.f t1328 t1329 0 (t1314 != t1318) (t1319 != 0)).bind fun bt1338 => ((parts_Round.f k t1314 bt1338.1 bt1338.2 (wrap64 (t1316 - 62)) (t1319 != 0) a2).bind fun bt1340 => (some (bt1340.1, bt1340.2)))))) = some (r1, r2) := H
    have A11 := Aside0.mk A110
    clear A110
    obtain ⟨ji12, hji12⟩ : ∃ j_ : Int, (mn (wrap64 ((wrap64 (t1316 - t1320)) - 62)) 116) = j_ := ⟨_, rfl⟩
    replace H : (if (ji12) ≤ 0 then (if 0 ≤ (wrap64 (-(ji12))) then ((fadd_join.f t1328 t1329 (shl .u64 t1319 (wrap64 (-(ji12)))) (t1314 != t1318) false).bind fun bt1330 => ((parts_Round.f k t1314 bt1330.1 bt1330.2 (wrap64 (t1316 - 62)) false a2).bind fun bt1332 => (some (bt1332.1, bt1332.2)))) else (none)) else (if (ji12) < 64 then (if 0 ≤ (ji12) then (if 0 ≤ (wrap64 (64 - (ji12))) then ((fadd_join.f t1328 t1329 (shr .u64 t1319 (ji12)) (t1314 != t1318) ((shl .u64 t1319 (wrap64 (64 - (ji12)))) != 0)).bind fun bt1334 => ((parts_Round.f k t1314 bt1334.1 bt1334.2 (wrap64 (t1316 - 62)) ((shl .u64 t1319 (wrap64 (64 - (ji12)))) != 0) a2).bind fun bt1336 => (some (bt1336.1, bt1336.2)))) else (none)) else (none)) else ((fadd_join.f t1328 t1329 0 (t1314 != t1318) (t1319 != 0)).bind fun bt1338 => ((parts_Round.f k t1314 bt1338.1 bt1338.2 (wrap64 (t1316 - 62)) (t1319 != 0) a2).bind fun bt1340 => (some (bt1340.1, bt1340.2)))))) = some (r1, r2) := by first | (rw [hji12] at H; exact H) | (simp only [hji12] at H ⊢; exact H)
    (try rw [hji12] at A4)
    (try rw [hji12] at A5)
    (try rw [hji12] at A11)
    (try (have hji12h : ji12 ≤ 116 := by (rw [← hji12]; unfold mn; (repeat' split) <;> omega)))
    (try (have hji12g : ji12 ≤ 64 := by omega))
    have hji12_ : (if 116 < (wrap64 ((wrap64 (t1316 - t1320)) - 62)) then 116 else (wrap64 ((wrap64 (t1316 - t1320)) - 62))) = ji12 := hji12
    by_cases c13 : (ji12) ≤ 0
    · rw [if_pos c13] at H
      have c13b0 : decide ((ji12) ≤ 0) = true := decide_eq_true c13
      clear c13
      obtain ⟨ji14, hji14⟩ : ∃ j_ : Int, (wrap64 (-(ji12))) = j_ := ⟨_, rfl⟩
      replace H : (if 0 ≤ (ji14) then ((fadd_join.f t1328 t1329 (shl .u64 t1319 (ji14)) (t1314 != t1318) false).bind fun bt1330 => ((parts_Round.f k t1314 bt1330.1 bt1330.2 (wrap64 (t1316 - 62)) false a2).bind fun bt1332 => (some (bt1332.1, bt1332.2)))) else (none)) = some (r1, r2) := by first | (rw [hji14] at H; exact H) | (simp only [hji14] at H ⊢; exact H)
      (try rw [hji14] at A4)
      (try rw [hji14] at A5)
      (try rw [hji14] at A11)
      have hji14w : (IntKind.i64.wrap (-(ji12))) = ji14 := (i64_w _).trans hji14
      by_cases c15 : 0 ≤ (ji14)
      · rw [if_pos c15] at H
        have c15b0 := eq_true c15
        have c15b1 : decide (0 ≤ (ji14)) = true := decide_eq_true c15
        clear c15
        obtain ⟨ji16, hji16⟩ : ∃ j_ : Int, (shl .u64 t1319 (ji14)) = j_ := ⟨_, rfl⟩
        replace H : ((fadd_join.f t1328 t1329 (ji16) (t1314 != t1318) false).bind fun bt1330 => ((parts_Round.f k t1314 bt1330.1 bt1330.2 (wrap64 (t1316 - 62)) false a2).bind fun bt1332 => (some (bt1332.1, bt1332.2)))) = some (r1, r2) := by first | (rw [hji16] at H; exact H) | (simp only [hji16] at H ⊢; exact H)
        (try rw [hji16] at A4)
        (try rw [hji16] at A5)
        (try rw [hji16] at A11)
        have hji16_ : (IntKind.u64.wrap (t1319 * 2 ^ min (ji14).toNat 64)) = ji16 := hji16
        have hji16z : (ji14) ≤ 64 → (IntKind.u64.wrap (t1319 * 2 ^ (ji14).toNat)) = ji16 := shl_small hji16
        replace H := Option.bind_eq_some_iff.mp H
        obtain ⟨⟨t1330, t1331⟩, A170, H⟩ := H
        replace H : ((parts_Round.f k t1314 t1330 t1331 (wrap64 (t1316 - 62)) false a2).bind fun bt1332 => (some (bt1332.1, bt1332.2))) = some (r1, r2) := H
        have A17 := Aside0.mk A170
        clear A170
        replace H := Option.bind_eq_some_iff.mp H
        obtain ⟨⟨t1332, t1333⟩, A180, H⟩ := H
        replace H : (some (t1332, t1333)) = some (r1, r2) := H
        have A18 := Aside0.mk A180
        clear A180
        simp only [Option.some.injEq, Prod.mk.injEq] at H
        obtain ⟨rfl, rfl⟩ := H
        go_enter Tryd.func135, Tryd.ntmps135
        go_wp2_with (first | (go_at_call 100; (with_reducible refine (parts_Split.calls a0 t1314 t1315 t1316 t1317 _ A4.out).mono ?_); rintro e w' ⟨rfl, ⟨nd, rfl⟩⟩; (try first | exact ⟨rfl, _, World.drewN_drewN _ _ _⟩ | exact ⟨rfl, _, Eq.trans (World.drewN_drewN _ _ _) (congrArg (World.drewN _) (Nat.add_assoc _ _ _))⟩)) | (go_at_call 100; (with_reducible refine (parts_Split.calls a1 t1318 t1319 t1320 t1321 _ A5.out).mono ?_); rintro e w' ⟨rfl, ⟨nd, rfl⟩⟩; (try first | exact ⟨rfl, _, World.drewN_drewN _ _ _⟩ | exact ⟨rfl, _, Eq.trans (World.drewN_drewN _ _ _) (congrArg (World.drewN _) (Nat.add_assoc _ _ _))⟩)) | (go_at_call 136; (with_reducible refine (fadd_lift.calls t1315 62 t1328 t1329 _ A11.out).mono ?_); rintro e w' ⟨rfl, ⟨nd, rfl⟩⟩; (try first | exact ⟨rfl, _, World.drewN_drewN _ _ _⟩ | exact ⟨rfl, _, Eq.trans (World.drewN_drewN _ _ _) (congrArg (World.drewN _) (Nat.add_assoc _ _ _))⟩)) | (go_at_call 137; (refine (fadd_join.calls t1328 t1329 ji16 (t1314 != t1318) false t1330 t1331 _ A17.out).mono ?_); rintro e w' ⟨rfl, ⟨nd, rfl⟩⟩; (try first | exact ⟨rfl, _, World.drewN_drewN _ _ _⟩ | exact ⟨rfl, _, Eq.trans (World.drewN_drewN _ _ _) (congrArg (World.drewN _) (Nat.add_assoc _ _ _))⟩)) | (go_at_call 96; (with_reducible refine (parts_Round.calls k t1314 t1330 t1331 (wrap64 (t1316 - 62)) false a2 t1332 t1333 _ A18.out).mono ?_); rintro e w19 ⟨rfl, hb⟩; have n0_ := Aside0.mk (below_step (by repeat (first | (with_reducible first | exact HB.out | apply below_alloc | apply pw_below_drewN | apply below_drew1) | exact HB.out)) hb); clear HB; have HB := n0_; clear n0_; (try clear hb); (try clear hb2); (try clear hk); (try clear hi)))
        repeat (go_quiet (first | (go_at_call 100; (with_reducible refine (parts_Split.calls a0 t1314 t1315 t1316 t1317 _ A4.out).mono ?_); rintro e w' ⟨rfl, ⟨nd, rfl⟩⟩; (try first | exact ⟨rfl, _, World.drewN_drewN _ _ _⟩ | exact ⟨rfl, _, Eq.trans (World.drewN_drewN _ _ _) (congrArg (World.drewN _) (Nat.add_assoc _ _ _))⟩)) | (go_at_call 100; (with_reducible refine (parts_Split.calls a1 t1318 t1319 t1320 t1321 _ A5.out).mono ?_); rintro e w' ⟨rfl, ⟨nd, rfl⟩⟩; (try first | exact ⟨rfl, _, World.drewN_drewN _ _ _⟩ | exact ⟨rfl, _, Eq.trans (World.drewN_drewN _ _ _) (congrArg (World.drewN _) (Nat.add_assoc _ _ _))⟩)) | (go_at_call 136; (with_reducible refine (fadd_lift.calls t1315 62 t1328 t1329 _ A11.out).mono ?_); rintro e w' ⟨rfl, ⟨nd, rfl⟩⟩; (try first | exact ⟨rfl, _, World.drewN_drewN _ _ _⟩ | exact ⟨rfl, _, Eq.trans (World.drewN_drewN _ _ _) (congrArg (World.drewN _) (Nat.add_assoc _ _ _))⟩)) | (go_at_call 137; (refine (fadd_join.calls t1328 t1329 ji16 (t1314 != t1318) false t1330 t1331 _ A17.out).mono ?_); rintro e w' ⟨rfl, ⟨nd, rfl⟩⟩; (try first | exact ⟨rfl, _, World.drewN_drewN _ _ _⟩ | exact ⟨rfl, _, Eq.trans (World.drewN_drewN _ _ _) (congrArg (World.drewN _) (Nat.add_assoc _ _ _))⟩)) | (go_at_call 96; (with_reducible refine (parts_Round.calls k t1314 t1330 t1331 (wrap64 (t1316 - 62)) false a2 t1332 t1333 _ A18.out).mono ?_); rintro e w19 ⟨rfl, hb⟩; have n0_ := Aside0.mk (below_step (by repeat (first | (with_reducible first | exact HB.out | apply below_alloc | apply pw_below_drewN | apply below_drew1) | exact HB.out)) hb); clear HB; have HB := n0_; clear n0_; (try clear hb); (try clear hb2); (try clear hk); (try clear hi))); try go_wp2_with (first | (go_at_call 100; (with_reducible refine (parts_Split.calls a0 t1314 t1315 t1316 t1317 _ A4.out).mono ?_); rintro e w' ⟨rfl, ⟨nd, rfl⟩⟩; (try first | exact ⟨rfl, _, World.drewN_drewN _ _ _⟩ | exact ⟨rfl, _, Eq.trans (World.drewN_drewN _ _ _) (congrArg (World.drewN _) (Nat.add_assoc _ _ _))⟩)) | (go_at_call 100; (with_reducible refine (parts_Split.calls a1 t1318 t1319 t1320 t1321 _ A5.out).mono ?_); rintro e w' ⟨rfl, ⟨nd, rfl⟩⟩; (try first | exact ⟨rfl, _, World.drewN_drewN _ _ _⟩ | exact ⟨rfl, _, Eq.trans (World.drewN_drewN _ _ _) (congrArg (World.drewN _) (Nat.add_assoc _ _ _))⟩)) | (go_at_call 136; (with_reducible refine (fadd_lift.calls t1315 62 t1328 t1329 _ A11.out).mono ?_); rintro e w' ⟨rfl, ⟨nd, rfl⟩⟩; (try first | exact ⟨rfl, _, World.drewN_drewN _ _ _⟩ | exact ⟨rfl, _, Eq.trans (World.drewN_drewN _ _ _) (congrArg (World.drewN _) (Nat.add_assoc _ _ _))⟩)) | (go_at_call 137; (refine (fadd_join.calls t1328 t1329 ji16 (t1314 != t1318) false t1330 t1331 _ A17.out).mono ?_); rintro e w' ⟨rfl, ⟨nd, rfl⟩⟩; (try first | exact ⟨rfl, _, World.drewN_drewN _ _ _⟩ | exact ⟨rfl, _, Eq.trans (World.drewN_drewN _ _ _) (congrArg (World.drewN _) (Nat.add_assoc _ _ _))⟩)) | (go_at_call 96; (with_reducible refine (parts_Round.calls k t1314 t1330 t1331 (wrap64 (t1316 - 62)) false a2 t1332 t1333 _ A18.out).mono ?_); rintro e w19 ⟨rfl, hb⟩; have n0_ := Aside0.mk (below_step (by repeat (first | (with_reducible first | exact HB.out | apply below_alloc | apply pw_below_drewN | apply below_drew1) | exact HB.out)) hb); clear HB; have HB := n0_; clear n0_; (try clear hb); (try clear hb2); (try clear hk); (try clear hi))))
        go_ret2
        exact ⟨by first | rfl | (simp [errW_none, errW_some] <;> rfl) | (simp only [← hji12, ← hji14, ← hji16]; first | rfl | (simp [errW_none, errW_some] <;> rfl)) | (simp [*, errW_none, errW_some] <;> rfl), by repeat (first | (with_reducible first | exact HB.out | apply below_alloc | apply pw_below_drewN | apply below_drew1) | exact HB.out)⟩
      · rw [if_neg c15] at H
        exact absurd H (by simp)
    · rw [if_neg c13] at H
      have c13b0 : decide ((ji12) ≤ 0) = false := decide_eq_false c13
      clear c13
      by_cases c20 : (ji12) < 64
      · rw [if_pos c20] at H
        have c20b0 : decide ((ji12) < 64) = true := decide_eq_true c20
        clear c20
        by_cases c21 : 0 ≤ (ji12)
        · rw [if_pos c21] at H
          have c21b0 := eq_true c21
          have c21b1 : decide (0 ≤ (ji12)) = true := decide_eq_true c21
          clear c21
          obtain ⟨ji22, hji22⟩ : ∃ j_ : Int, (shr .u64 t1319 (ji12)) = j_ := ⟨_, rfl⟩
          replace H : (if 0 ≤ (wrap64 (64 - (ji12))) then ((fadd_join.f t1328 t1329 (ji22) (t1314 != t1318) ((shl .u64 t1319 (wrap64 (64 - (ji12)))) != 0)).bind fun bt1334 => ((parts_Round.f k t1314 bt1334.1 bt1334.2 (wrap64 (t1316 - 62)) ((shl .u64 t1319 (wrap64 (64 - (ji12)))) != 0) a2).bind fun bt1336 => (some (bt1336.1, bt1336.2)))) else (none)) = some (r1, r2) := by first | (rw [hji22] at H; exact H) | (simp only [hji22] at H ⊢; exact H)
          (try rw [hji22] at A4)
          (try rw [hji22] at A5)
          (try rw [hji22] at A11)
          have hji22_ : (t1319 / 2 ^ min (ji12).toNat 64) = ji22 := hji22
          have hji22z : (ji12) ≤ 64 → (t1319 / 2 ^ (ji12).toNat) = ji22 := shr_small hji22
          obtain ⟨ji23, hji23⟩ : ∃ j_ : Int, (wrap64 (64 - (ji12))) = j_ := ⟨_, rfl⟩
          replace H : (if 0 ≤ (ji23) then ((fadd_join.f t1328 t1329 (ji22) (t1314 != t1318) ((shl .u64 t1319 (ji23)) != 0)).bind fun bt1334 => ((parts_Round.f k t1314 bt1334.1 bt1334.2 (wrap64 (t1316 - 62)) ((shl .u64 t1319 (ji23)) != 0) a2).bind fun bt1336 => (some (bt1336.1, bt1336.2)))) else (none)) = some (r1, r2) := by first | (rw [hji23] at H; exact H) | (simp only [hji23] at H ⊢; exact H)
          (try rw [hji23] at A4)
          (try rw [hji23] at A5)
          (try rw [hji23] at A11)
          have hji23w : (IntKind.i64.wrap (64 - (ji12))) = ji23 := (i64_w _).trans hji23
          by_cases c24 : 0 ≤ (ji23)
          · rw [if_pos c24] at H
            have c24b0 := eq_true c24
            have c24b1 : decide (0 ≤ (ji23)) = true := decide_eq_true c24
            clear c24
            obtain ⟨ji25, hji25⟩ : ∃ j_ : Int, (shl .u64 t1319 (ji23)) = j_ := ⟨_, rfl⟩
            replace H : ((fadd_join.f t1328 t1329 (ji22) (t1314 != t1318) ((ji25) != 0)).bind fun bt1334 => ((parts_Round.f k t1314 bt1334.1 bt1334.2 (wrap64 (t1316 - 62)) ((ji25) != 0) a2).bind fun bt1336 => (some (bt1336.1, bt1336.2)))) = some (r1, r2) := by first | (rw [hji25] at H; exact H) | (simp only [hji25] at H ⊢; exact H)
            (try rw [hji25] at A4)
            (try rw [hji25] at A5)
            (try rw [hji25] at A11)
            have hji25_ : (IntKind.u64.wrap (t1319 * 2 ^ min (ji23).toNat 64)) = ji25 := hji25
            have hji25z : (ji23) ≤ 64 → (IntKind.u64.wrap (t1319 * 2 ^ (ji23).toNat)) = ji25 := shl_small hji25
            replace H := Option.bind_eq_some_iff.mp H
            obtain ⟨⟨t1334, t1335⟩, A260, H⟩ := H
            replace H : ((parts_Round.f k t1314 t1334 t1335 (wrap64 (t1316 - 62)) ((ji25) != 0) a2).bind fun bt1336 => (some (bt1336.1, bt1336.2))) = some (r1, r2) := H
            have A26 := Aside0.mk A260
            clear A260
            replace H := Option.bind_eq_some_iff.mp H
            obtain ⟨⟨t1336, t1337⟩, A270, H⟩ := H
            replace H : (some (t1336, t1337)) = some (r1, r2) := H
            have A27 := Aside0.mk A270
            clear A270
            simp only [Option.some.injEq, Prod.mk.injEq] at H
            obtain ⟨rfl, rfl⟩ := H
            go_enter Tryd.func135, Tryd.ntmps135
            go_wp2_with (first | (go_at_call 100; (with_reducible refine (parts_Split.calls a0 t1314 t1315 t1316 t1317 _ A4.out).mono ?_); rintro e w' ⟨rfl, ⟨nd, rfl⟩⟩; (try first | exact ⟨rfl, _, World.drewN_drewN _ _ _⟩ | exact ⟨rfl, _, Eq.trans (World.drewN_drewN _ _ _) (congrArg (World.drewN _) (Nat.add_assoc _ _ _))⟩)) | (go_at_call 100; (with_reducible refine (parts_Split.calls a1 t1318 t1319 t1320 t1321 _ A5.out).mono ?_); rintro e w' ⟨rfl, ⟨nd, rfl⟩⟩; (try first | exact ⟨rfl, _, World.drewN_drewN _ _ _⟩ | exact ⟨rfl, _, Eq.trans (World.drewN_drewN _ _ _) (congrArg (World.drewN _) (Nat.add_assoc _ _ _))⟩)) | (go_at_call 136; (with_reducible refine (fadd_lift.calls t1315 62 t1328 t1329 _ A11.out).mono ?_); rintro e w' ⟨rfl, ⟨nd, rfl⟩⟩; (try first | exact ⟨rfl, _, World.drewN_drewN _ _ _⟩ | exact ⟨rfl, _, Eq.trans (World.drewN_drewN _ _ _) (congrArg (World.drewN _) (Nat.add_assoc _ _ _))⟩)) | (go_at_call 137; (refine (fadd_join.calls t1328 t1329 ji22 (t1314 != t1318) ((ji25) != 0) t1334 t1335 _ A26.out).mono ?_); rintro e w' ⟨rfl, ⟨nd, rfl⟩⟩; (try first | exact ⟨rfl, _, World.drewN_drewN _ _ _⟩ | exact ⟨rfl, _, Eq.trans (World.drewN_drewN _ _ _) (congrArg (World.drewN _) (Nat.add_assoc _ _ _))⟩)) | (go_at_call 96; (refine (parts_Round.calls k t1314 t1334 t1335 (wrap64 (t1316 - 62)) ((ji25) != 0) a2 t1336 t1337 _ A27.out).mono ?_); rintro e w28 ⟨rfl, hb⟩; have n0_ := Aside0.mk (below_step (by repeat (first | (with_reducible first | exact HB.out | apply below_alloc | apply pw_below_drewN | apply below_drew1) | exact HB.out)) hb); clear HB; have HB := n0_; clear n0_; (try clear hb); (try clear hb2); (try clear hk); (try clear hi)))
            repeat (go_quiet (first | (go_at_call 100; (with_reducible refine (parts_Split.calls a0 t1314 t1315 t1316 t1317 _ A4.out).mono ?_); rintro e w' ⟨rfl, ⟨nd, rfl⟩⟩; (try first | exact ⟨rfl, _, World.drewN_drewN _ _ _⟩ | exact ⟨rfl, _, Eq.trans (World.drewN_drewN _ _ _) (congrArg (World.drewN _) (Nat.add_assoc _ _ _))⟩)) | (go_at_call 100; (with_reducible refine (parts_Split.calls a1 t1318 t1319 t1320 t1321 _ A5.out).mono ?_); rintro e w' ⟨rfl, ⟨nd, rfl⟩⟩; (try first | exact ⟨rfl, _, World.drewN_drewN _ _ _⟩ | exact ⟨rfl, _, Eq.trans (World.drewN_drewN _ _ _) (congrArg (World.drewN _) (Nat.add_assoc _ _ _))⟩)) | (go_at_call 136; (with_reducible refine (fadd_lift.calls t1315 62 t1328 t1329 _ A11.out).mono ?_); rintro e w' ⟨rfl, ⟨nd, rfl⟩⟩; (try first | exact ⟨rfl, _, World.drewN_drewN _ _ _⟩ | exact ⟨rfl, _, Eq.trans (World.drewN_drewN _ _ _) (congrArg (World.drewN _) (Nat.add_assoc _ _ _))⟩)) | (go_at_call 137; (refine (fadd_join.calls t1328 t1329 ji22 (t1314 != t1318) ((ji25) != 0) t1334 t1335 _ A26.out).mono ?_); rintro e w' ⟨rfl, ⟨nd, rfl⟩⟩; (try first | exact ⟨rfl, _, World.drewN_drewN _ _ _⟩ | exact ⟨rfl, _, Eq.trans (World.drewN_drewN _ _ _) (congrArg (World.drewN _) (Nat.add_assoc _ _ _))⟩)) | (go_at_call 96; (refine (parts_Round.calls k t1314 t1334 t1335 (wrap64 (t1316 - 62)) ((ji25) != 0) a2 t1336 t1337 _ A27.out).mono ?_); rintro e w28 ⟨rfl, hb⟩; have n0_ := Aside0.mk (below_step (by repeat (first | (with_reducible first | exact HB.out | apply below_alloc | apply pw_below_drewN | apply below_drew1) | exact HB.out)) hb); clear HB; have HB := n0_; clear n0_; (try clear hb); (try clear hb2); (try clear hk); (try clear hi))); try go_wp2_with (first | (go_at_call 100; (with_reducible refine (parts_Split.calls a0 t1314 t1315 t1316 t1317 _ A4.out).mono ?_); rintro e w' ⟨rfl, ⟨nd, rfl⟩⟩; (try first | exact ⟨rfl, _, World.drewN_drewN _ _ _⟩ | exact ⟨rfl, _, Eq.trans (World.drewN_drewN _ _ _) (congrArg (World.drewN _) (Nat.add_assoc _ _ _))⟩)) | (go_at_call 100; (with_reducible refine (parts_Split.calls a1 t1318 t1319 t1320 t1321 _ A5.out).mono ?_); rintro e w' ⟨rfl, ⟨nd, rfl⟩⟩; (try first | exact ⟨rfl, _, World.drewN_drewN _ _ _⟩ | exact ⟨rfl, _, Eq.trans (World.drewN_drewN _ _ _) (congrArg (World.drewN _) (Nat.add_assoc _ _ _))⟩)) | (go_at_call 136; (with_reducible refine (fadd_lift.calls t1315 62 t1328 t1329 _ A11.out).mono ?_); rintro e w' ⟨rfl, ⟨nd, rfl⟩⟩; (try first | exact ⟨rfl, _, World.drewN_drewN _ _ _⟩ | exact ⟨rfl, _, Eq.trans (World.drewN_drewN _ _ _) (congrArg (World.drewN _) (Nat.add_assoc _ _ _))⟩)) | (go_at_call 137; (refine (fadd_join.calls t1328 t1329 ji22 (t1314 != t1318) ((ji25) != 0) t1334 t1335 _ A26.out).mono ?_); rintro e w' ⟨rfl, ⟨nd, rfl⟩⟩; (try first | exact ⟨rfl, _, World.drewN_drewN _ _ _⟩ | exact ⟨rfl, _, Eq.trans (World.drewN_drewN _ _ _) (congrArg (World.drewN _) (Nat.add_assoc _ _ _))⟩)) | (go_at_call 96; (refine (parts_Round.calls k t1314 t1334 t1335 (wrap64 (t1316 - 62)) ((ji25) != 0) a2 t1336 t1337 _ A27.out).mono ?_); rintro e w28 ⟨rfl, hb⟩; have n0_ := Aside0.mk (below_step (by repeat (first | (with_reducible first | exact HB.out | apply below_alloc | apply pw_below_drewN | apply below_drew1) | exact HB.out)) hb); clear HB; have HB := n0_; clear n0_; (try clear hb); (try clear hb2); (try clear hk); (try clear hi))))
            go_ret2
            exact ⟨by first | rfl | (simp [errW_none, errW_some] <;> rfl) | (simp only [← hji12, ← hji22, ← hji23, ← hji25]; first | rfl | (simp [errW_none, errW_some] <;> rfl)) | (simp [*, errW_none, errW_some] <;> rfl), by repeat (first | (with_reducible first | exact HB.out | apply below_alloc | apply pw_below_drewN | apply below_drew1) | exact HB.out)⟩
          · rw [if_neg c24] at H
            exact absurd H (by simp)
        · rw [if_neg c21] at H
          exact absurd H (by simp)
      · rw [if_neg c20] at H
        have c20b0 : decide ((ji12) < 64) = false := decide_eq_false c20
        clear c20
        replace H := Option.bind_eq_some_iff.mp H
        obtain ⟨⟨t1338, t1339⟩, A290, H⟩ := H
        replace H : ((parts_Round.f k t1314 t1338 t1339 (wrap64 (t1316 - 62)) (t1319 != 0) a2).bind fun bt1340 => (some (bt1340.1, bt1340.2))) = some (r1, r2) := H
        have A29 := Aside0.mk A290
        clear A290
        replace H := Option.bind_eq_some_iff.mp H
        obtain ⟨⟨t1340, t1341⟩, A300, H⟩ := H
        replace H : (some (t1340, t1341)) = some (r1, r2) := H
        have A30 := Aside0.mk A300
        clear A300
        simp only [Option.some.injEq, Prod.mk.injEq] at H
        obtain ⟨rfl, rfl⟩ := H
        go_enter Tryd.func135, Tryd.ntmps135
        go_wp2_with (first | (go_at_call 100; (with_reducible refine (parts_Split.calls a0 t1314 t1315 t1316 t1317 _ A4.out).mono ?_); rintro e w' ⟨rfl, ⟨nd, rfl⟩⟩; (try first | exact ⟨rfl, _, World.drewN_drewN _ _ _⟩ | exact ⟨rfl, _, Eq.trans (World.drewN_drewN _ _ _) (congrArg (World.drewN _) (Nat.add_assoc _ _ _))⟩)) | (go_at_call 100; (with_reducible refine (parts_Split.calls a1 t1318 t1319 t1320 t1321 _ A5.out).mono ?_); rintro e w' ⟨rfl, ⟨nd, rfl⟩⟩; (try first | exact ⟨rfl, _, World.drewN_drewN _ _ _⟩ | exact ⟨rfl, _, Eq.trans (World.drewN_drewN _ _ _) (congrArg (World.drewN _) (Nat.add_assoc _ _ _))⟩)) | (go_at_call 136; (with_reducible refine (fadd_lift.calls t1315 62 t1328 t1329 _ A11.out).mono ?_); rintro e w' ⟨rfl, ⟨nd, rfl⟩⟩; (try first | exact ⟨rfl, _, World.drewN_drewN _ _ _⟩ | exact ⟨rfl, _, Eq.trans (World.drewN_drewN _ _ _) (congrArg (World.drewN _) (Nat.add_assoc _ _ _))⟩)) | (go_at_call 137; (refine (fadd_join.calls t1328 t1329 0 (t1314 != t1318) (t1319 != 0) t1338 t1339 _ A29.out).mono ?_); rintro e w' ⟨rfl, ⟨nd, rfl⟩⟩; (try first | exact ⟨rfl, _, World.drewN_drewN _ _ _⟩ | exact ⟨rfl, _, Eq.trans (World.drewN_drewN _ _ _) (congrArg (World.drewN _) (Nat.add_assoc _ _ _))⟩)) | (go_at_call 96; (refine (parts_Round.calls k t1314 t1338 t1339 (wrap64 (t1316 - 62)) (t1319 != 0) a2 t1340 t1341 _ A30.out).mono ?_); rintro e w31 ⟨rfl, hb⟩; have n0_ := Aside0.mk (below_step (by repeat (first | (with_reducible first | exact HB.out | apply below_alloc | apply pw_below_drewN | apply below_drew1) | exact HB.out)) hb); clear HB; have HB := n0_; clear n0_; (try clear hb); (try clear hb2); (try clear hk); (try clear hi)))
        repeat (go_quiet (first | (go_at_call 100; (with_reducible refine (parts_Split.calls a0 t1314 t1315 t1316 t1317 _ A4.out).mono ?_); rintro e w' ⟨rfl, ⟨nd, rfl⟩⟩; (try first | exact ⟨rfl, _, World.drewN_drewN _ _ _⟩ | exact ⟨rfl, _, Eq.trans (World.drewN_drewN _ _ _) (congrArg (World.drewN _) (Nat.add_assoc _ _ _))⟩)) | (go_at_call 100; (with_reducible refine (parts_Split.calls a1 t1318 t1319 t1320 t1321 _ A5.out).mono ?_); rintro e w' ⟨rfl, ⟨nd, rfl⟩⟩; (try first | exact ⟨rfl, _, World.drewN_drewN _ _ _⟩ | exact ⟨rfl, _, Eq.trans (World.drewN_drewN _ _ _) (congrArg (World.drewN _) (Nat.add_assoc _ _ _))⟩)) | (go_at_call 136; (with_reducible refine (fadd_lift.calls t1315 62 t1328 t1329 _ A11.out).mono ?_); rintro e w' ⟨rfl, ⟨nd, rfl⟩⟩; (try first | exact ⟨rfl, _, World.drewN_drewN _ _ _⟩ | exact ⟨rfl, _, Eq.trans (World.drewN_drewN _ _ _) (congrArg (World.drewN _) (Nat.add_assoc _ _ _))⟩)) | (go_at_call 137; (refine (fadd_join.calls t1328 t1329 0 (t1314 != t1318) (t1319 != 0) t1338 t1339 _ A29.out).mono ?_); rintro e w' ⟨rfl, ⟨nd, rfl⟩⟩; (try first | exact ⟨rfl, _, World.drewN_drewN _ _ _⟩ | exact ⟨rfl, _, Eq.trans (World.drewN_drewN _ _ _) (congrArg (World.drewN _) (Nat.add_assoc _ _ _))⟩)) | (go_at_call 96; (refine (parts_Round.calls k t1314 t1338 t1339 (wrap64 (t1316 - 62)) (t1319 != 0) a2 t1340 t1341 _ A30.out).mono ?_); rintro e w31 ⟨rfl, hb⟩; have n0_ := Aside0.mk (below_step (by repeat (first | (with_reducible first | exact HB.out | apply below_alloc | apply pw_below_drewN | apply below_drew1) | exact HB.out)) hb); clear HB; have HB := n0_; clear n0_; (try clear hb); (try clear hb2); (try clear hk); (try clear hi))); try go_wp2_with (first | (go_at_call 100; (with_reducible refine (parts_Split.calls a0 t1314 t1315 t1316 t1317 _ A4.out).mono ?_); rintro e w' ⟨rfl, ⟨nd, rfl⟩⟩; (try first | exact ⟨rfl, _, World.drewN_drewN _ _ _⟩ | exact ⟨rfl, _, Eq.trans (World.drewN_drewN _ _ _) (congrArg (World.drewN _) (Nat.add_assoc _ _ _))⟩)) | (go_at_call 100; (with_reducible refine (parts_Split.calls a1 t1318 t1319 t1320 t1321 _ A5.out).mono ?_); rintro e w' ⟨rfl, ⟨nd, rfl⟩⟩; (try first | exact ⟨rfl, _, World.drewN_drewN _ _ _⟩ | exact ⟨rfl, _, Eq.trans (World.drewN_drewN _ _ _) (congrArg (World.drewN _) (Nat.add_assoc _ _ _))⟩)) | (go_at_call 136; (with_reducible refine (fadd_lift.calls t1315 62 t1328 t1329 _ A11.out).mono ?_); rintro e w' ⟨rfl, ⟨nd, rfl⟩⟩; (try first | exact ⟨rfl, _, World.drewN_drewN _ _ _⟩ | exact ⟨rfl, _, Eq.trans (World.drewN_drewN _ _ _) (congrArg (World.drewN _) (Nat.add_assoc _ _ _))⟩)) | (go_at_call 137; (refine (fadd_join.calls t1328 t1329 0 (t1314 != t1318) (t1319 != 0) t1338 t1339 _ A29.out).mono ?_); rintro e w' ⟨rfl, ⟨nd, rfl⟩⟩; (try first | exact ⟨rfl, _, World.drewN_drewN _ _ _⟩ | exact ⟨rfl, _, Eq.trans (World.drewN_drewN _ _ _) (congrArg (World.drewN _) (Nat.add_assoc _ _ _))⟩)) | (go_at_call 96; (refine (parts_Round.calls k t1314 t1338 t1339 (wrap64 (t1316 - 62)) (t1319 != 0) a2 t1340 t1341 _ A30.out).mono ?_); rintro e w31 ⟨rfl, hb⟩; have n0_ := Aside0.mk (below_step (by repeat (first | (with_reducible first | exact HB.out | apply below_alloc | apply pw_below_drewN | apply below_drew1) | exact HB.out)) hb); clear HB; have HB := n0_; clear n0_; (try clear hb); (try clear hb2); (try clear hk); (try clear hi))))
        go_ret2
        exact ⟨by first | rfl | (simp [errW_none, errW_some] <;> rfl) | (simp only [← hji12]; first | rfl | (simp [errW_none, errW_some] <;> rfl)) | (simp [*, errW_none, errW_some] <;> rfl), by repeat (first | (with_reducible first | exact HB.out | apply below_alloc | apply pw_below_drewN | apply below_drew1) | exact HB.out)⟩
end Go.Proofs.YtjgdpjbkmcjbcaaDoor.PG
