/- Contracts of Go functions: each call answers what the Lean function of its name answers. Written by a program of this session (vprint.py) round the print of the kit. -/
import Derived.Test.YtjgdpjbkmcjbcaaDoorZFconvScales39
namespace Go.Proofs.YtjgdpjbkmcjbcaaDoor.PG
open Go.RowKit Go.Proofs.YtjgdpjbkmcjbcaaDoorW.PrintWords Go.Proofs.YtjgdpjbkmcjbcaaDoorW.PrintLast Go.Proofs.YtjgdpjbkmcjbcaaDoorW.PrintMore
attribute [local go_sem] max2_int min2_int max_two min_two max_three min_three max_four min_four
set_option linter.unusedVariables false
set_option linter.unusedSimpArgs false
attribute [local go_sem] fld139_1
def vernierlaw13_FconvScales.f (k : Nat) (a0 : Int) (a1 : Int) : Option (Bool) := (vernierlaw13_alive.f k).bind fun t1436 => (if t1436 = true then (if a0 < 0 then ((fconv_FromInt.f k (wrap64 (a0)) 0).bind fun bt1437 => ((fmul_Scale.f k bt1437.1 (Int.tmod a1 900) 0).bind fun bt1439 => ((fconv_FromDyadic.f k (decide (a0 < 0)) (([IntKind.u64.wrap (-(IntKind.u64.wrap (a0)))] : List Int)) (Int.tmod a1 900) 0).bind fun bt1444 => (if bt1437.2 = 0 then (if bt1439.2 = 0 then (if bt1444.2.1 = 0 then (if bt1444.2.2 = 0 then (if bt1439.1 = bt1444.1 then (some true) else (some (a0 == 0))) else (some false)) else (some false)) else (some false)) else (some false))))) else ((fconv_FromInt.f k (wrap64 (a0)) 0).bind fun bt1447 => ((fmul_Scale.f k bt1447.1 (Int.tmod a1 900) 0).bind fun bt1449 => ((fconv_FromDyadic.f k (decide (a0 < 0)) (([IntKind.u64.wrap (a0)] : List Int)) (Int.tmod a1 900) 0).bind fun bt1454 => (if bt1447.2 = 0 then (if bt1449.2 = 0 then (if bt1454.2.1 = 0 then (if bt1454.2.2 = 0 then (if bt1449.1 = bt1454.1 then (some true) else (some (a0 == 0))) else (some false)) else (some false)) else (some false)) else (some false)))))) else (some false))
set_option maxHeartbeats 8000000 in
set_option maxRecDepth 100000 in
theorem vernierlaw13_FconvScales.calls (k : Nat) (a0 : Int) (a1 : Int) (r : Bool) (w : World) (ht_ : Tz w) (h : vernierlaw13_FconvScales.f k a0 a1 = some r) (hT : r = true := by rfl) :
    Calls Tryd.prog 13 #[.int .i32 a0, .int .i64 a1] w fun e w' => e = .returned (.bool r) ∧ Below w.heap.size w w' := by
  have HT := Aside0.mk ht_
  clear ht_
  have hu36 := Tryd.underlying36
  have HB := Aside0.mk (Below.refl w.heap.size w)
  have H : ((vernierlaw13_alive.f k).bind fun t1436 => (if t1436 = true then (if a0 < 0 then ((fconv_FromInt.f k (wrap64 (a0)) 0).bind fun bt1437 => ((fmul_Scale.f k bt1437.1 (Int.tmod a1 900) 0).bind fun bt1439 => ((fconv_FromDyadic.f k (decide (a0 < 0)) (([IntKind.u64.wrap (-(IntKind.u64.wrap (a0)))] : List Int)) (Int.tmod a1 900) 0).bind fun bt1444 => (if bt1437.2 = 0 then (if bt1439.2 = 0 then (if bt1444.2.1 = 0 then (if bt1444.2.2 = 0 then (if bt1439.1 = bt1444.1 then (some true) else (some (a0 == 0))) else (some false)) else (some false)) else (some false)) else (some false))))) else ((fconv_FromInt.f k (wrap64 (a0)) 0).bind fun bt1447 => ((fmul_Scale.f k bt1447.1 (Int.tmod a1 900) 0).bind fun bt1449 => ((fconv_FromDyadic.f k (decide (a0 < 0)) (([IntKind.u64.wrap (a0)] : List Int)) (Int.tmod a1 900) 0).bind fun bt1454 => (if bt1447.2 = 0 then (if bt1449.2 = 0 then (if bt1454.2.1 = 0 then (if bt1454.2.2 = 0 then (if bt1449.1 = bt1454.1 then (some true) else (some (a0 == 0))) else (some false)) else (some false)) else (some false)) else (some false)))))) else (some false))) = some r := h
  clear h
  replace H := Option.bind_eq_some_iff.mp H
  obtain ⟨t1436, A30, H⟩ := H
  replace H : (if t1436 = true then (if a0 < 0 then ((fconv_FromInt.f k (wrap64 (a0)) 0).bind fun bt1437 => ((fmul_Scale.f k bt1437.1 (Int.tmod a1 900) 0).bind fun bt1439 => ((fconv_FromDyadic.f k (decide (a0 < 0)) (([IntKind.u64.wrap (-(IntKind.u64.wrap (a0)))] : List Int)) (Int.tmod a1 900) 0).bind fun bt1444 => (if bt1437.2 = 0 then (if bt1439.2 = 0 then (if bt1444.2.1 = 0 then (if bt1444.2.2 = 0 then (if bt1439.1 = bt1444.1 then (some true) else (some (a0 == 0))) else (some false)) else (some false)) else (some false)) else (some false))))) else ((fconv_FromInt.f k (wrap64 (a0)) 0).bind fun bt1447 => ((fmul_Scale.f k bt1447.1 (Int.tmod a1 900) 0).bind fun bt1449 => ((fconv_FromDyadic.f k (decide (a0 < 0)) (([IntKind.u64.wrap (a0)] : List Int)) (Int.tmod a1 900) 0).bind fun bt1454 => (if bt1447.2 = 0 then (if bt1449.2 = 0 then (if bt1454.2.1 = 0 then (if bt1454.2.2 = 0 then (if bt1449.1 = bt1454.1 then (some true) else (some (a0 == 0))) else (some false)) else (some false)) else (some false)) else (some false)))))) else (some false)) = some r := H
  have A3 := Aside0.mk A30
  clear A30
  by_cases c4 : t1436 = true
  · subst c4
    have H1 : (if a0 < 0 then ((fconv_FromInt.f k (wrap64 (a0)) 0).bind fun bt1437 => ((fmul_Scale.f k bt1437.1 (Int.tmod a1 900) 0).bind fun bt1439 => ((fconv_FromDyadic.f k (decide (a0 < 0)) (([IntKind.u64.wrap (-(IntKind.u64.wrap (a0)))] : List Int)) (Int.tmod a1 900) 0).bind fun bt1444 => (if bt1437.2 = 0 then (if bt1439.2 = 0 then (if bt1444.2.1 = 0 then (if bt1444.2.2 = 0 then (if bt1439.1 = bt1444.1 then (some true) else (some (a0 == 0))) else (some false)) else (some false)) else (some false)) else (some false))))) else ((fconv_FromInt.f k (wrap64 (a0)) 0).bind fun bt1447 => ((fmul_Scale.f k bt1447.1 (Int.tmod a1 900) 0).bind fun bt1449 => ((fconv_FromDyadic.f k (decide (a0 < 0)) (([IntKind.u64.wrap (a0)] : List Int)) (Int.tmod a1 900) 0).bind fun bt1454 => (if bt1447.2 = 0 then (if bt1449.2 = 0 then (if bt1454.2.1 = 0 then (if bt1454.2.2 = 0 then (if bt1449.1 = bt1454.1 then (some true) else (some (a0 == 0))) else (some false)) else (some false)) else (some false)) else (some false)))))) = some r := by rw [if_pos rfl] at H; exact H
    clear H
    have H := H1
    clear H1
    by_cases c5 : a0 < 0
    · rw [if_pos c5] at H
      have c5b0 : decide (a0 < 0) = true := decide_eq_true c5
      (try rw [c5b0] at H)
      clear c5
      replace H := Option.bind_eq_some_iff.mp H
      obtain ⟨⟨t1437, t1438⟩, A60, H⟩ := H
      replace H : ((fmul_Scale.f k t1437 (Int.tmod a1 900) 0).bind fun bt1439 => ((fconv_FromDyadic.f k true (([IntKind.u64.wrap (-(IntKind.u64.wrap (a0)))] : List Int)) (Int.tmod a1 900) 0).bind fun bt1444 => (if t1438 = 0 then (if bt1439.2 = 0 then (if bt1444.2.1 = 0 then (if bt1444.2.2 = 0 then (if bt1439.1 = bt1444.1 then (some true) else (some (a0 == 0))) else (some false)) else (some false)) else (some false)) else (some false)))) = some r := H
      have A6 := Aside0.mk A60
      clear A60
      replace H := Option.bind_eq_some_iff.mp H
      obtain ⟨⟨t1439, t1440⟩, A70, H⟩ := H
      replace H : ((fconv_FromDyadic.f k true (([IntKind.u64.wrap (-(IntKind.u64.wrap (a0)))] : List Int)) (Int.tmod a1 900) 0).bind fun bt1444 => (if t1438 = 0 then (if t1440 = 0 then (if bt1444.2.1 = 0 then (if bt1444.2.2 = 0 then (if t1439 = bt1444.1 then (some true) else (some (a0 == 0))) else (some false)) else (some false)) else (some false)) else (some false))) = some r := H
      have A7 := Aside0.mk A70
      clear A70
      obtain ⟨y1441, hy1441⟩ : ∃ y_ : List Int, y_ = (([IntKind.u64.wrap (-(IntKind.u64.wrap (a0)))] : List Int)) := ⟨_, rfl⟩
      replace H : ((fconv_FromDyadic.f k true y1441 (Int.tmod a1 900) 0).bind fun bt1444 => (if t1438 = 0 then (if t1440 = 0 then (if bt1444.2.1 = 0 then (if bt1444.2.2 = 0 then (if t1439 = bt1444.1 then (some true) else (some (a0 == 0))) else (some false)) else (some false)) else (some false)) else (some false))) = some r := by first | (rw [hy1441]; with_reducible exact H) | (have H2_ := (Option.bind_some _ _).symm.trans H; rw [hy1441]; with_reducible exact H2_) | (have H2_ := (Option.bind_some _ _).symm.trans H; with_reducible exact H2_) | with_reducible exact H | (rw [hy1441]; exact H) | exact H
      have Ny1441 := Aside0.mk hy1441
      clear hy1441
      replace H := Option.bind_eq_some_iff.mp H
      obtain ⟨⟨t1444, t1445, t1446⟩, A80, H⟩ := H
      replace H : (if t1438 = 0 then (if t1440 = 0 then (if t1445 = 0 then (if t1446 = 0 then (if t1439 = t1444 then (some true) else (some (a0 == 0))) else (some false)) else (some false)) else (some false)) else (some false)) = some r := H
      have A8 := Aside0.mk A80
      clear A80
      by_cases c9 : t1438 = 0
      · rw [if_pos c9] at H
        have c9b0 : (t1438 == 0) = true := beq_iff_eq.mpr c9
        have c9b1 : (t1438 != 0) = false := bne_eq_false_iff_eq.mpr c9
        clear c9
        by_cases c10 : t1440 = 0
        · rw [if_pos c10] at H
          have c10b0 : (t1440 == 0) = true := beq_iff_eq.mpr c10
          have c10b1 : (t1440 != 0) = false := bne_eq_false_iff_eq.mpr c10
          clear c10
          by_cases c11 : t1445 = 0
          · rw [if_pos c11] at H
            have c11b0 : (t1445 == 0) = true := beq_iff_eq.mpr c11
            have c11b1 : (t1445 != 0) = false := bne_eq_false_iff_eq.mpr c11
            clear c11
            by_cases c12 : t1446 = 0
            · rw [if_pos c12] at H
              have c12b0 : (t1446 == 0) = true := beq_iff_eq.mpr c12
              have c12b1 : (t1446 != 0) = false := bne_eq_false_iff_eq.mpr c12
              clear c12
              by_cases c13 : t1439 = t1444
              · rw [if_pos c13] at H
                have c13b0 : (t1439 == t1444) = true := beq_iff_eq.mpr c13
                have c13b1 : (t1439 != t1444) = false := bne_eq_false_iff_eq.mpr c13
                clear c13
                obtain rfl := Option.some.inj H
                go_enter Tryd.func13, Tryd.ntmps13
                go_wp2_with (first | ((with_reducible refine gate_callee (f := 51) rfl ?_); refine goesL_ (some 13) rfl rfl Tryd.func51 (by kernel_rfl) rfl #[] rfl (by (try simp only [List.map_toArray, List.map_cons, List.map_nil]); first | done | rfl | (simp only [List.length_drop, List.length_take]; rfl)) ?_; (with_reducible refine (vernierlaw13_alive.calls k  true _ A3.out).mono ?_); rintro e w14 ⟨rfl, hb⟩; refine ⟨_, rfl, ?_⟩; have n0_ := Aside0.mk (below_step (by repeat (first | (with_reducible first | exact HB.out | apply below_alloc | apply pw_below_drewN | apply below_drew1) | exact HB.out)) hb); clear HB; have HB := n0_; clear n0_; (try clear hb); (try clear hb2); (try clear hk); (try clear hi)) | ((with_reducible refine gate_callee (f := 52) rfl ?_); refine goesL_ (some 26) rfl rfl Tryd.func52 (by kernel_rfl) rfl #[.int .i64 (wrap64 (a0)), .int .i64 0] rfl (by (try simp only [List.map_toArray, List.map_cons, List.map_nil]); first | done | rfl | (simp only [List.length_drop, List.length_take]; rfl)) ?_; (with_reducible refine (fconv_FromInt.calls k (wrap64 (a0)) 0 t1437 t1438 _ A6.out).mono ?_); rintro e w15 ⟨rfl, hb⟩; refine ⟨_, rfl, ?_⟩; have n0_ := Aside0.mk (below_step (by repeat (first | (with_reducible first | exact HB.out | apply below_alloc | apply pw_below_drewN | apply below_drew1) | exact HB.out)) hb); clear HB; have HB := n0_; clear n0_; (try clear hb); (try clear hb2); (try clear hk); (try clear hi)) | ((with_reducible refine gate_callee (f := 57) rfl ?_); refine goesL_ (some 32) rfl rfl Tryd.func57 (by kernel_rfl) rfl #[.int .u64 t1437, .int .i64 (Int.tmod a1 900), .int .i64 0] rfl (by (try simp only [List.map_toArray, List.map_cons, List.map_nil]); first | done | rfl | (simp only [List.length_drop, List.length_take]; rfl)) ?_; (with_reducible refine (fmul_Scale.calls k t1437 (Int.tmod a1 900) 0 t1439 t1440 _ A7.out).mono ?_); rintro e w16 ⟨rfl, hb⟩; refine ⟨_, rfl, ?_⟩; have n0_ := Aside0.mk (below_step (by repeat (first | (with_reducible first | exact HB.out | apply below_alloc | apply pw_below_drewN | apply below_drew1) | exact HB.out)) hb); clear HB; have HB := n0_; clear n0_; (try clear hb); (try clear hb2); (try clear hk); (try clear hi)) | ((with_reducible refine gate_dst (N := 39) rfl ?_); refine Kd.R_lit (Kd.int .u64) _ 34 ?hg (N := 39) ?hd (xs := ([IntKind.u64.wrap (-(IntKind.u64.wrap (a0)))] : List Int)) (inner := [.int .u64 (IntKind.u64.wrap (-(IntKind.u64.wrap (a0))))]) (ok := fun _ => True) (okp := fun _ => True) ?hr ?hp (fun _ hk => hk) trivial (Below.refl _ _) (Nat.le_refl _) (by simp) ?_; (case hd => rfl); (case hg => rfl); (case hr => first | (go_simp; done) | (go_simp; rfl)); (case hp => exact (Reps.one (show Kd.M (Kd.int .u64) _ _ _ (IntKind.u64.wrap (-(IntKind.u64.wrap (a0)))) [.int .u64 (IntKind.u64.wrap (-(IntKind.u64.wrap (a0))))] from rfl) (Reps.none _ _))); intro v1442 w17 ho18 hb hg_ hnew_; clear hg_ hnew_; (first | rw [← Ny1441.out] at ho18 | (simp only [Int.reduceToNat] at ho18; rw [← Ny1441.out] at ho18)); have n0_ := Aside0.mk (Kd.R_lower ho18 (below_size (by repeat (first | (with_reducible first | exact HB.out | apply below_alloc | apply pw_below_drewN | apply below_drew1) | exact HB.out)))); have n1_ := Aside0.mk (below_step (by repeat (first | (with_reducible first | exact HB.out | apply below_alloc | apply pw_below_drewN | apply below_drew1) | exact HB.out)) hb); clear HB; have HO1443 := n0_; have HB := n1_; clear n0_ n1_; clear hb ho18; obtain ⟨Ao19, co19, eo19⟩ := Kd.R_slice HO1443.out; subst eo19) | ((with_reducible refine gate_callee (f := 54) rfl ?_); refine goesL_ (some 42) rfl rfl Tryd.func54 (by kernel_rfl) rfl #[.agg #[.bool true, .slice Ao19 y1441.length co19, .int .i64 (Int.tmod a1 900)], .int .i64 0] rfl (by (try simp only [List.map_toArray, List.map_cons, List.map_nil]); first | done | rfl | (simp only [List.length_drop, List.length_take]; rfl)) ?_; (with_reducible refine (fconv_FromDyadic.calls k true _ _ y1441 (Int.tmod a1 900) 0 t1444 t1445 t1446 _ ?side1 ?side2 ?sidet A8.out).mono ?_); (case sidet => exact tz_ HT HB); (case side1 => repeat (first | exact (Kd.R_reads' HO1443.out).2.2 | (with_reducible refine Kd.C_alloc ?_ _) | (with_reducible refine Kd.C_drewN ?_ _) | (with_reducible refine Kd.C_drew ?_))); (case side2 => exact (Kd.R_reads' HO1443.out).2.1); rintro e w20 ⟨rfl, hb⟩; refine ⟨_, rfl, ?_⟩; have n0_ := Aside0.mk (Kd.R_below (by (with_reducible repeat (first | apply Kd.R_alloc | apply Kd.R_drewN | apply Kd.R_drew)); exact HO1443.out) hb); have n1_ := Aside0.mk (below_step (by repeat (first | (with_reducible first | exact HB.out | apply below_alloc | apply pw_below_drewN | apply below_drew1) | exact HB.out)) hb); clear HO1443; clear HB; have HO1443 := n0_; have HB := n1_; clear n0_ n1_; (try clear hb); (try clear hb2); (try clear hk); (try clear hi)))
                go_ret
                exact ⟨by first | rfl | (simp [errW_none, errW_some] <;> rfl) | (simp [*, errW_none, errW_some] <;> rfl), by repeat (first | (with_reducible first | exact HB.out | apply below_alloc | apply pw_below_drewN | apply below_drew1) | exact HB.out)⟩
              · rw [if_neg c13] at H
                have c13b0 : (t1439 == t1444) = false := beq_eq_false_iff_ne.mpr c13
                have c13b1 : (t1439 != t1444) = true := bne_iff_ne.mpr c13
                obtain rfl := Option.some.inj H
                go_enter Tryd.func13, Tryd.ntmps13
                go_wp2_with (first | ((with_reducible refine gate_callee (f := 51) rfl ?_); refine goesL_ (some 13) rfl rfl Tryd.func51 (by kernel_rfl) rfl #[] rfl (by (try simp only [List.map_toArray, List.map_cons, List.map_nil]); first | done | rfl | (simp only [List.length_drop, List.length_take]; rfl)) ?_; (with_reducible refine (vernierlaw13_alive.calls k  true _ A3.out).mono ?_); rintro e w21 ⟨rfl, hb⟩; refine ⟨_, rfl, ?_⟩; have n0_ := Aside0.mk (below_step (by repeat (first | (with_reducible first | exact HB.out | apply below_alloc | apply pw_below_drewN | apply below_drew1) | exact HB.out)) hb); clear HB; have HB := n0_; clear n0_; (try clear hb); (try clear hb2); (try clear hk); (try clear hi)) | ((with_reducible refine gate_callee (f := 52) rfl ?_); refine goesL_ (some 26) rfl rfl Tryd.func52 (by kernel_rfl) rfl #[.int .i64 (wrap64 (a0)), .int .i64 0] rfl (by (try simp only [List.map_toArray, List.map_cons, List.map_nil]); first | done | rfl | (simp only [List.length_drop, List.length_take]; rfl)) ?_; (with_reducible refine (fconv_FromInt.calls k (wrap64 (a0)) 0 t1437 t1438 _ A6.out).mono ?_); rintro e w22 ⟨rfl, hb⟩; refine ⟨_, rfl, ?_⟩; have n0_ := Aside0.mk (below_step (by repeat (first | (with_reducible first | exact HB.out | apply below_alloc | apply pw_below_drewN | apply below_drew1) | exact HB.out)) hb); clear HB; have HB := n0_; clear n0_; (try clear hb); (try clear hb2); (try clear hk); (try clear hi)) | ((with_reducible refine gate_callee (f := 57) rfl ?_); refine goesL_ (some 32) rfl rfl Tryd.func57 (by kernel_rfl) rfl #[.int .u64 t1437, .int .i64 (Int.tmod a1 900), .int .i64 0] rfl (by (try simp only [List.map_toArray, List.map_cons, List.map_nil]); first | done | rfl | (simp only [List.length_drop, List.length_take]; rfl)) ?_; (with_reducible refine (fmul_Scale.calls k t1437 (Int.tmod a1 900) 0 t1439 t1440 _ A7.out).mono ?_); rintro e w23 ⟨rfl, hb⟩; refine ⟨_, rfl, ?_⟩; have n0_ := Aside0.mk (below_step (by repeat (first | (with_reducible first | exact HB.out | apply below_alloc | apply pw_below_drewN | apply below_drew1) | exact HB.out)) hb); clear HB; have HB := n0_; clear n0_; (try clear hb); (try clear hb2); (try clear hk); (try clear hi)) | ((with_reducible refine gate_dst (N := 39) rfl ?_); refine Kd.R_lit (Kd.int .u64) _ 34 ?hg (N := 39) ?hd (xs := ([IntKind.u64.wrap (-(IntKind.u64.wrap (a0)))] : List Int)) (inner := [.int .u64 (IntKind.u64.wrap (-(IntKind.u64.wrap (a0))))]) (ok := fun _ => True) (okp := fun _ => True) ?hr ?hp (fun _ hk => hk) trivial (Below.refl _ _) (Nat.le_refl _) (by simp) ?_; (case hd => rfl); (case hg => rfl); (case hr => first | (go_simp; done) | (go_simp; rfl)); (case hp => exact (Reps.one (show Kd.M (Kd.int .u64) _ _ _ (IntKind.u64.wrap (-(IntKind.u64.wrap (a0)))) [.int .u64 (IntKind.u64.wrap (-(IntKind.u64.wrap (a0))))] from rfl) (Reps.none _ _))); intro v1442 w24 ho25 hb hg_ hnew_; clear hg_ hnew_; (first | rw [← Ny1441.out] at ho25 | (simp only [Int.reduceToNat] at ho25; rw [← Ny1441.out] at ho25)); have n0_ := Aside0.mk (Kd.R_lower ho25 (below_size (by repeat (first | (with_reducible first | exact HB.out | apply below_alloc | apply pw_below_drewN | apply below_drew1) | exact HB.out)))); have n1_ := Aside0.mk (below_step (by repeat (first | (with_reducible first | exact HB.out | apply below_alloc | apply pw_below_drewN | apply below_drew1) | exact HB.out)) hb); clear HB; have HO1443 := n0_; have HB := n1_; clear n0_ n1_; clear hb ho25; obtain ⟨Ao26, co26, eo26⟩ := Kd.R_slice HO1443.out; subst eo26) | ((with_reducible refine gate_callee (f := 54) rfl ?_); refine goesL_ (some 42) rfl rfl Tryd.func54 (by kernel_rfl) rfl #[.agg #[.bool true, .slice Ao26 y1441.length co26, .int .i64 (Int.tmod a1 900)], .int .i64 0] rfl (by (try simp only [List.map_toArray, List.map_cons, List.map_nil]); first | done | rfl | (simp only [List.length_drop, List.length_take]; rfl)) ?_; (with_reducible refine (fconv_FromDyadic.calls k true _ _ y1441 (Int.tmod a1 900) 0 t1444 t1445 t1446 _ ?side1 ?side2 ?sidet A8.out).mono ?_); (case sidet => exact tz_ HT HB); (case side1 => repeat (first | exact (Kd.R_reads' HO1443.out).2.2 | (with_reducible refine Kd.C_alloc ?_ _) | (with_reducible refine Kd.C_drewN ?_ _) | (with_reducible refine Kd.C_drew ?_))); (case side2 => exact (Kd.R_reads' HO1443.out).2.1); rintro e w27 ⟨rfl, hb⟩; refine ⟨_, rfl, ?_⟩; have n0_ := Aside0.mk (Kd.R_below (by (with_reducible repeat (first | apply Kd.R_alloc | apply Kd.R_drewN | apply Kd.R_drew)); exact HO1443.out) hb); have n1_ := Aside0.mk (below_step (by repeat (first | (with_reducible first | exact HB.out | apply below_alloc | apply pw_below_drewN | apply below_drew1) | exact HB.out)) hb); clear HO1443; clear HB; have HO1443 := n0_; have HB := n1_; clear n0_ n1_; (try clear hb); (try clear hb2); (try clear hk); (try clear hi)))
                go_ret
                exact ⟨by first | rfl | (simp [errW_none, errW_some] <;> rfl) | (simp [*, errW_none, errW_some] <;> rfl), by repeat (first | (with_reducible first | exact HB.out | apply below_alloc | apply pw_below_drewN | apply below_drew1) | exact HB.out)⟩
            · rw [if_neg c12] at H
              have c12b0 : (t1446 == 0) = false := beq_eq_false_iff_ne.mpr c12
              have c12b1 : (t1446 != 0) = true := bne_iff_ne.mpr c12
              exact absurd (Option.some.inj H) (by subst hT; decide)
          · rw [if_neg c11] at H
            have c11b0 : (t1445 == 0) = false := beq_eq_false_iff_ne.mpr c11
            have c11b1 : (t1445 != 0) = true := bne_iff_ne.mpr c11
            exact absurd (Option.some.inj H) (by subst hT; decide)
        · rw [if_neg c10] at H
          have c10b0 : (t1440 == 0) = false := beq_eq_false_iff_ne.mpr c10
          have c10b1 : (t1440 != 0) = true := bne_iff_ne.mpr c10
          exact absurd (Option.some.inj H) (by subst hT; decide)
      · rw [if_neg c9] at H
        have c9b0 : (t1438 == 0) = false := beq_eq_false_iff_ne.mpr c9
        have c9b1 : (t1438 != 0) = true := bne_iff_ne.mpr c9
        exact absurd (Option.some.inj H) (by subst hT; decide)
    · rw [if_neg c5] at H
      have c5b0 : decide (a0 < 0) = false := decide_eq_false c5
      (try rw [c5b0] at H)
      clear c5
      replace H := Option.bind_eq_some_iff.mp H
      obtain ⟨⟨t1447, t1448⟩, A280, H⟩ := H
      replace H : ((fmul_Scale.f k t1447 (Int.tmod a1 900) 0).bind fun bt1449 => ((fconv_FromDyadic.f k false (([IntKind.u64.wrap (a0)] : List Int)) (Int.tmod a1 900) 0).bind fun bt1454 => (if t1448 = 0 then (if bt1449.2 = 0 then (if bt1454.2.1 = 0 then (if bt1454.2.2 = 0 then (if bt1449.1 = bt1454.1 then (some true) else (some (a0 == 0))) else (some false)) else (some false)) else (some false)) else (some false)))) = some r := H
      have A28 := Aside0.mk A280
      clear A280
      replace H := Option.bind_eq_some_iff.mp H
      obtain ⟨⟨t1449, t1450⟩, A290, H⟩ := H
      replace H : ((fconv_FromDyadic.f k false (([IntKind.u64.wrap (a0)] : List Int)) (Int.tmod a1 900) 0).bind fun bt1454 => (if t1448 = 0 then (if t1450 = 0 then (if bt1454.2.1 = 0 then (if bt1454.2.2 = 0 then (if t1449 = bt1454.1 then (some true) else (some (a0 == 0))) else (some false)) else (some false)) else (some false)) else (some false))) = some r := H
      have A29 := Aside0.mk A290
      clear A290
      obtain ⟨y1451, hy1451⟩ : ∃ y_ : List Int, y_ = (([IntKind.u64.wrap (a0)] : List Int)) := ⟨_, rfl⟩
      replace H : ((fconv_FromDyadic.f k false y1451 (Int.tmod a1 900) 0).bind fun bt1454 => (if t1448 = 0 then (if t1450 = 0 then (if bt1454.2.1 = 0 then (if bt1454.2.2 = 0 then (if t1449 = bt1454.1 then (some true) else (some (a0 == 0))) else (some false)) else (some false)) else (some false)) else (some false))) = some r := by first | (rw [hy1451]; with_reducible exact H) | (have H2_ := (Option.bind_some _ _).symm.trans H; rw [hy1451]; with_reducible exact H2_) | (have H2_ := (Option.bind_some _ _).symm.trans H; with_reducible exact H2_) | with_reducible exact H | (rw [hy1451]; exact H) | exact H
      have Ny1451 := Aside0.mk hy1451
      clear hy1451
      replace H := Option.bind_eq_some_iff.mp H
      obtain ⟨⟨t1454, t1455, t1456⟩, A300, H⟩ := H
      replace H : (if t1448 = 0 then (if t1450 = 0 then (if t1455 = 0 then (if t1456 = 0 then (if t1449 = t1454 then (some true) else (some (a0 == 0))) else (some false)) else (some false)) else (some false)) else (some false)) = some r := H
      have A30 := Aside0.mk A300
      clear A300
      by_cases c31 : t1448 = 0
      · rw [if_pos c31] at H
        have c31b0 : (t1448 == 0) = true := beq_iff_eq.mpr c31
        have c31b1 : (t1448 != 0) = false := bne_eq_false_iff_eq.mpr c31
        clear c31
        by_cases c32 : t1450 = 0
        · rw [if_pos c32] at H
          have c32b0 : (t1450 == 0) = true := beq_iff_eq.mpr c32
          have c32b1 : (t1450 != 0) = false := bne_eq_false_iff_eq.mpr c32
          clear c32
          by_cases c33 : t1455 = 0
          · rw [if_pos c33] at H
            have c33b0 : (t1455 == 0) = true := beq_iff_eq.mpr c33
            have c33b1 : (t1455 != 0) = false := bne_eq_false_iff_eq.mpr c33
            clear c33
            by_cases c34 : t1456 = 0
            · rw [if_pos c34] at H
              have c34b0 : (t1456 == 0) = true := beq_iff_eq.mpr c34
              have c34b1 : (t1456 != 0) = false := bne_eq_false_iff_eq.mpr c34
              clear c34
              by_cases c35 : t1449 = t1454
              · rw [if_pos c35] at H
                have c35b0 : (t1449 == t1454) = true := beq_iff_eq.mpr c35
                have c35b1 : (t1449 != t1454) = false := bne_eq_false_iff_eq.mpr c35
                clear c35
                obtain rfl := Option.some.inj H
                go_enter Tryd.func13, Tryd.ntmps13
                go_wp2_with (first | ((with_reducible refine gate_callee (f := 51) rfl ?_); refine goesL_ (some 13) rfl rfl Tryd.func51 (by kernel_rfl) rfl #[] rfl (by (try simp only [List.map_toArray, List.map_cons, List.map_nil]); first | done | rfl | (simp only [List.length_drop, List.length_take]; rfl)) ?_; (with_reducible refine (vernierlaw13_alive.calls k  true _ A3.out).mono ?_); rintro e w36 ⟨rfl, hb⟩; refine ⟨_, rfl, ?_⟩; have n0_ := Aside0.mk (below_step (by repeat (first | (with_reducible first | exact HB.out | apply below_alloc | apply pw_below_drewN | apply below_drew1) | exact HB.out)) hb); clear HB; have HB := n0_; clear n0_; (try clear hb); (try clear hb2); (try clear hk); (try clear hi)) | ((with_reducible refine gate_callee (f := 52) rfl ?_); refine goesL_ (some 26) rfl rfl Tryd.func52 (by kernel_rfl) rfl #[.int .i64 (wrap64 (a0)), .int .i64 0] rfl (by (try simp only [List.map_toArray, List.map_cons, List.map_nil]); first | done | rfl | (simp only [List.length_drop, List.length_take]; rfl)) ?_; (with_reducible refine (fconv_FromInt.calls k (wrap64 (a0)) 0 t1447 t1448 _ A28.out).mono ?_); rintro e w37 ⟨rfl, hb⟩; refine ⟨_, rfl, ?_⟩; have n0_ := Aside0.mk (below_step (by repeat (first | (with_reducible first | exact HB.out | apply below_alloc | apply pw_below_drewN | apply below_drew1) | exact HB.out)) hb); clear HB; have HB := n0_; clear n0_; (try clear hb); (try clear hb2); (try clear hk); (try clear hi)) | ((with_reducible refine gate_callee (f := 57) rfl ?_); refine goesL_ (some 32) rfl rfl Tryd.func57 (by kernel_rfl) rfl #[.int .u64 t1447, .int .i64 (Int.tmod a1 900), .int .i64 0] rfl (by (try simp only [List.map_toArray, List.map_cons, List.map_nil]); first | done | rfl | (simp only [List.length_drop, List.length_take]; rfl)) ?_; (with_reducible refine (fmul_Scale.calls k t1447 (Int.tmod a1 900) 0 t1449 t1450 _ A29.out).mono ?_); rintro e w38 ⟨rfl, hb⟩; refine ⟨_, rfl, ?_⟩; have n0_ := Aside0.mk (below_step (by repeat (first | (with_reducible first | exact HB.out | apply below_alloc | apply pw_below_drewN | apply below_drew1) | exact HB.out)) hb); clear HB; have HB := n0_; clear n0_; (try clear hb); (try clear hb2); (try clear hk); (try clear hi)) | ((with_reducible refine gate_dst (N := 39) rfl ?_); refine Kd.R_lit (Kd.int .u64) _ 34 ?hg (N := 39) ?hd (xs := ([IntKind.u64.wrap (a0)] : List Int)) (inner := [.int .u64 (IntKind.u64.wrap (a0))]) (ok := fun _ => True) (okp := fun _ => True) ?hr ?hp (fun _ hk => hk) trivial (Below.refl _ _) (Nat.le_refl _) (by simp) ?_; (case hd => rfl); (case hg => rfl); (case hr => first | (go_simp; done) | (go_simp; rfl)); (case hp => exact (Reps.one (show Kd.M (Kd.int .u64) _ _ _ (IntKind.u64.wrap (a0)) [.int .u64 (IntKind.u64.wrap (a0))] from rfl) (Reps.none _ _))); intro v1452 w39 ho40 hb hg_ hnew_; clear hg_ hnew_; (first | rw [← Ny1451.out] at ho40 | (simp only [Int.reduceToNat] at ho40; rw [← Ny1451.out] at ho40)); have n0_ := Aside0.mk (Kd.R_lower ho40 (below_size (by repeat (first | (with_reducible first | exact HB.out | apply below_alloc | apply pw_below_drewN | apply below_drew1) | exact HB.out)))); have n1_ := Aside0.mk (below_step (by repeat (first | (with_reducible first | exact HB.out | apply below_alloc | apply pw_below_drewN | apply below_drew1) | exact HB.out)) hb); clear HB; have HO1453 := n0_; have HB := n1_; clear n0_ n1_; clear hb ho40; obtain ⟨Ao41, co41, eo41⟩ := Kd.R_slice HO1453.out; subst eo41) | ((with_reducible refine gate_callee (f := 54) rfl ?_); refine goesL_ (some 42) rfl rfl Tryd.func54 (by kernel_rfl) rfl #[.agg #[.bool false, .slice Ao41 y1451.length co41, .int .i64 (Int.tmod a1 900)], .int .i64 0] rfl (by (try simp only [List.map_toArray, List.map_cons, List.map_nil]); first | done | rfl | (simp only [List.length_drop, List.length_take]; rfl)) ?_; (with_reducible refine (fconv_FromDyadic.calls k false _ _ y1451 (Int.tmod a1 900) 0 t1454 t1455 t1456 _ ?side1 ?side2 ?sidet A30.out).mono ?_); (case sidet => exact tz_ HT HB); (case side1 => repeat (first | exact (Kd.R_reads' HO1453.out).2.2 | (with_reducible refine Kd.C_alloc ?_ _) | (with_reducible refine Kd.C_drewN ?_ _) | (with_reducible refine Kd.C_drew ?_))); (case side2 => exact (Kd.R_reads' HO1453.out).2.1); rintro e w42 ⟨rfl, hb⟩; refine ⟨_, rfl, ?_⟩; have n0_ := Aside0.mk (Kd.R_below (by (with_reducible repeat (first | apply Kd.R_alloc | apply Kd.R_drewN | apply Kd.R_drew)); exact HO1453.out) hb); have n1_ := Aside0.mk (below_step (by repeat (first | (with_reducible first | exact HB.out | apply below_alloc | apply pw_below_drewN | apply below_drew1) | exact HB.out)) hb); clear HO1453; clear HB; have HO1453 := n0_; have HB := n1_; clear n0_ n1_; (try clear hb); (try clear hb2); (try clear hk); (try clear hi)))
                go_ret
                exact ⟨by first | rfl | (simp [errW_none, errW_some] <;> rfl) | (simp [*, errW_none, errW_some] <;> rfl), by repeat (first | (with_reducible first | exact HB.out | apply below_alloc | apply pw_below_drewN | apply below_drew1) | exact HB.out)⟩
              · rw [if_neg c35] at H
                have c35b0 : (t1449 == t1454) = false := beq_eq_false_iff_ne.mpr c35
                have c35b1 : (t1449 != t1454) = true := bne_iff_ne.mpr c35
                obtain rfl := Option.some.inj H
                go_enter Tryd.func13, Tryd.ntmps13
                go_wp2_with (first | ((with_reducible refine gate_callee (f := 51) rfl ?_); refine goesL_ (some 13) rfl rfl Tryd.func51 (by kernel_rfl) rfl #[] rfl (by (try simp only [List.map_toArray, List.map_cons, List.map_nil]); first | done | rfl | (simp only [List.length_drop, List.length_take]; rfl)) ?_; (with_reducible refine (vernierlaw13_alive.calls k  true _ A3.out).mono ?_); rintro e w43 ⟨rfl, hb⟩; refine ⟨_, rfl, ?_⟩; have n0_ := Aside0.mk (below_step (by repeat (first | (with_reducible first | exact HB.out | apply below_alloc | apply pw_below_drewN | apply below_drew1) | exact HB.out)) hb); clear HB; have HB := n0_; clear n0_; (try clear hb); (try clear hb2); (try clear hk); (try clear hi)) | ((with_reducible refine gate_callee (f := 52) rfl ?_); refine goesL_ (some 26) rfl rfl Tryd.func52 (by kernel_rfl) rfl #[.int .i64 (wrap64 (a0)), .int .i64 0] rfl (by (try simp only [List.map_toArray, List.map_cons, List.map_nil]); first | done | rfl | (simp only [List.length_drop, List.length_take]; rfl)) ?_; (with_reducible refine (fconv_FromInt.calls k (wrap64 (a0)) 0 t1447 t1448 _ A28.out).mono ?_); rintro e w44 ⟨rfl, hb⟩; refine ⟨_, rfl, ?_⟩; have n0_ := Aside0.mk (below_step (by repeat (first | (with_reducible first | exact HB.out | apply below_alloc | apply pw_below_drewN | apply below_drew1) | exact HB.out)) hb); clear HB; have HB := n0_; clear n0_; (try clear hb); (try clear hb2); (try clear hk); (try clear hi)) | ((with_reducible refine gate_callee (f := 57) rfl ?_); refine goesL_ (some 32) rfl rfl Tryd.func57 (by kernel_rfl) rfl #[.int .u64 t1447, .int .i64 (Int.tmod a1 900), .int .i64 0] rfl (by (try simp only [List.map_toArray, List.map_cons, List.map_nil]); first | done | rfl | (simp only [List.length_drop, List.length_take]; rfl)) ?_; (with_reducible refine (fmul_Scale.calls k t1447 (Int.tmod a1 900) 0 t1449 t1450 _ A29.out).mono ?_); rintro e w45 ⟨rfl, hb⟩; refine ⟨_, rfl, ?_⟩; have n0_ := Aside0.mk (below_step (by repeat (first | (with_reducible first | exact HB.out | apply below_alloc | apply pw_below_drewN | apply below_drew1) | exact HB.out)) hb); clear HB; have HB := n0_; clear n0_; (try clear hb); (try clear hb2); (try clear hk); (try clear hi)) | ((with_reducible refine gate_dst (N := 39) rfl ?_); refine Kd.R_lit (Kd.int .u64) _ 34 ?hg (N := 39) ?hd (xs := ([IntKind.u64.wrap (a0)] : List Int)) (inner := [.int .u64 (IntKind.u64.wrap (a0))]) (ok := fun _ => True) (okp := fun _ => True) ?hr ?hp (fun _ hk => hk) trivial (Below.refl _ _) (Nat.le_refl _) (by simp) ?_; (case hd => rfl); (case hg => rfl); (case hr => first | (go_simp; done) | (go_simp; rfl)); (case hp => exact (Reps.one (show Kd.M (Kd.int .u64) _ _ _ (IntKind.u64.wrap (a0)) [.int .u64 (IntKind.u64.wrap (a0))] from rfl) (Reps.none _ _))); intro v1452 w46 ho47 hb hg_ hnew_; clear hg_ hnew_; (first | rw [← Ny1451.out] at ho47 | (simp only [Int.reduceToNat] at ho47; rw [← Ny1451.out] at ho47)); have n0_ := Aside0.mk (Kd.R_lower ho47 (below_size (by repeat (first | (with_reducible first | exact HB.out | apply below_alloc | apply pw_below_drewN | apply below_drew1) | exact HB.out)))); have n1_ := Aside0.mk (below_step (by repeat (first | (with_reducible first | exact HB.out | apply below_alloc | apply pw_below_drewN | apply below_drew1) | exact HB.out)) hb); clear HB; have HO1453 := n0_; have HB := n1_; clear n0_ n1_; clear hb ho47; obtain ⟨Ao48, co48, eo48⟩ := Kd.R_slice HO1453.out; subst eo48) | ((with_reducible refine gate_callee (f := 54) rfl ?_); refine goesL_ (some 42) rfl rfl Tryd.func54 (by kernel_rfl) rfl #[.agg #[.bool false, .slice Ao48 y1451.length co48, .int .i64 (Int.tmod a1 900)], .int .i64 0] rfl (by (try simp only [List.map_toArray, List.map_cons, List.map_nil]); first | done | rfl | (simp only [List.length_drop, List.length_take]; rfl)) ?_; (with_reducible refine (fconv_FromDyadic.calls k false _ _ y1451 (Int.tmod a1 900) 0 t1454 t1455 t1456 _ ?side1 ?side2 ?sidet A30.out).mono ?_); (case sidet => exact tz_ HT HB); (case side1 => repeat (first | exact (Kd.R_reads' HO1453.out).2.2 | (with_reducible refine Kd.C_alloc ?_ _) | (with_reducible refine Kd.C_drewN ?_ _) | (with_reducible refine Kd.C_drew ?_))); (case side2 => exact (Kd.R_reads' HO1453.out).2.1); rintro e w49 ⟨rfl, hb⟩; refine ⟨_, rfl, ?_⟩; have n0_ := Aside0.mk (Kd.R_below (by (with_reducible repeat (first | apply Kd.R_alloc | apply Kd.R_drewN | apply Kd.R_drew)); exact HO1453.out) hb); have n1_ := Aside0.mk (below_step (by repeat (first | (with_reducible first | exact HB.out | apply below_alloc | apply pw_below_drewN | apply below_drew1) | exact HB.out)) hb); clear HO1453; clear HB; have HO1453 := n0_; have HB := n1_; clear n0_ n1_; (try clear hb); (try clear hb2); (try clear hk); (try clear hi)))
                go_ret
                exact ⟨by first | rfl | (simp [errW_none, errW_some] <;> rfl) | (simp [*, errW_none, errW_some] <;> rfl), by repeat (first | (with_reducible first | exact HB.out | apply below_alloc | apply pw_below_drewN | apply below_drew1) | exact HB.out)⟩
            · rw [if_neg c34] at H
              have c34b0 : (t1456 == 0) = false := beq_eq_false_iff_ne.mpr c34
              have c34b1 : (t1456 != 0) = true := bne_iff_ne.mpr c34
              exact absurd (Option.some.inj H) (by subst hT; decide)
          · rw [if_neg c33] at H
            have c33b0 : (t1455 == 0) = false := beq_eq_false_iff_ne.mpr c33
            have c33b1 : (t1455 != 0) = true := bne_iff_ne.mpr c33
            exact absurd (Option.some.inj H) (by subst hT; decide)
        · rw [if_neg c32] at H
          have c32b0 : (t1450 == 0) = false := beq_eq_false_iff_ne.mpr c32
          have c32b1 : (t1450 != 0) = true := bne_iff_ne.mpr c32
          exact absurd (Option.some.inj H) (by subst hT; decide)
      · rw [if_neg c31] at H
        have c31b0 : (t1448 == 0) = false := beq_eq_false_iff_ne.mpr c31
        have c31b1 : (t1448 != 0) = true := bne_iff_ne.mpr c31
        exact absurd (Option.some.inj H) (by subst hT; decide)
  · replace c4 := Bool.eq_false_iff.mpr c4
    subst c4
    have H1 : (some false) = some r := by rw [if_neg (show ¬ (false = true) by decide)] at H; exact H
    clear H
    have H := H1
    clear H1
    exact absurd (Option.some.inj H) (by subst hT; decide)
end Go.Proofs.YtjgdpjbkmcjbcaaDoor.PG
