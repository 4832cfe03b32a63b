/- Parts of a proof. -/
import Derived.Test.YtjgdpjbkmcjbcaaDoorZFconvFrom29
import Derived.Test.YtjgdpjbkmcjbcaaDoorZFconvFrom32
import Derived.Lib.Mul64
import Derived.Laws.Bits64b
import Derived.Lib.Hide
section
namespace Go.Proofs.YtjgdpjbkmcjbcaaDoor.PG
open Go.RowKit Go.Proofs.YtjgdpjbkmcjbcaaDoorW.PrintWords Go.Proofs.YtjgdpjbkmcjbcaaDoorW.PrintLast Go.Proofs.YtjgdpjbkmcjbcaaDoorW.PrintMore
attribute [local go_sem] max2_int min2_int max_two min_two max_three min_three max_four min_four
set_option linter.unusedVariables false
set_option linter.unusedSimpArgs false
attribute [local go_sem] fld139_1
mutual
def vernierref01_Shr.l0 : Nat → List Int → Int → Int → Int → Option (List Int)
 | 0, _, _, _, _ => none
 | k + 1, x0, x1, x5, x6 => if x6 < (Int.tmod x1 16) then (vernierref01_Shr.l0 k x0 x1 (wrap64 (2 * x5)) (wrap64 (x6 + 1))) else (if 0 ≤ (wrap64 (Int.tdiv x1 16)) then (if (wrap64 (Int.tdiv x1 16)) ≤ (x0.length : Int) then (if 0 ≤ ((x0.drop ((wrap64 (Int.tdiv x1 16)) : Int).toNat).length : Int) then (if (((x0.drop ((wrap64 (Int.tdiv x1 16)) : Int).toNat).length : Int) : Int).toNat ≤ 35184372088832 then (vernierref01_Shr.l1 k (x0.drop ((wrap64 (Int.tdiv x1 16)) : Int).toNat) x5 (List.replicate (((x0.drop ((wrap64 (Int.tdiv x1 16)) : Int).toNat).length : Int) : Int).toNat 0) 0 (wrap64 (((x0.drop ((wrap64 (Int.tdiv x1 16)) : Int).toNat).length : Int) - 1))) else (none)) else (none)) else (none)) else (none))
def vernierref01_Shr.l1 : Nat → List Int → Int → List Int → Int → Int → Option (List Int)
 | 0, _, _, _, _, _ => none
 | k + 1, x0, x5, x7, x8, x9 => if x9 ≥ 0 then (if 0 ≤ x9 then (if x9 < (x0.length : Int) then (if x5 = 0 then (none) else (if x9 < (x7.length : Int) then (vernierref01_Shr.l1 k x0 x5 (x7.set (x9 : Int).toNat (wrap64 (Int.tdiv (wrap64 ((wrap64 (x8 * 65536)) + (rd x0 x9))) x5))) (Int.tmod (wrap64 ((wrap64 (x8 * 65536)) + (rd x0 x9))) x5) (wrap64 (x9 - 1))) else (none))) else (none)) else (none)) else ((vernierref01_cut.f k x7).bind fun t405 => (some t405))
end
def vernierref01_Shr.f (k : Nat) (l0 : List Int) (a1 : Int) : Option (List Int) := if (wrap64 (Int.tdiv a1 16)) ≥ (l0.length : Int) then (some ([] : List Int)) else (vernierref01_Shr.l0 k l0 a1 1 0)
end Go.Proofs.YtjgdpjbkmcjbcaaDoor.PG
end
section
namespace Go.Proofs.YtjgdpjbkmcjbcaaDoor.PG
open Go.RowKit Go.Proofs.YtjgdpjbkmcjbcaaDoorW.PrintWords Go.Proofs.YtjgdpjbkmcjbcaaDoorW.PrintLast Go.Proofs.YtjgdpjbkmcjbcaaDoorW.PrintMore
attribute [local go_sem] max2_int min2_int max_two min_two max_three min_three max_four min_four
set_option linter.unusedVariables false
set_option linter.unusedSimpArgs false
attribute [local go_sem] fld139_1
def vernierref01_Bits.l0 : Nat → Int → Int → Option (Int)
 | 0, _, _ => none
 | k + 1, x3, x4 => if x4 > 0 then (vernierref01_Bits.l0 k (wrap64 (x3 + 1)) (wrap64 (Int.tdiv x4 2))) else (some x3)
def vernierref01_Bits.f (k : Nat) (l0 : List Int) : Option (Int) := if (l0.length : Int) = 0 then (some 0) else (if 0 ≤ (wrap64 ((l0.length : Int) - 1)) then (if (wrap64 ((l0.length : Int) - 1)) < (l0.length : Int) then (vernierref01_Bits.l0 k (wrap64 (16 * (wrap64 ((l0.length : Int) - 1)))) (rd l0 (wrap64 ((l0.length : Int) - 1)))) else (none)) else (none))
set_option maxHeartbeats 8000000 in
set_option maxRecDepth 100000 in
theorem vernierref01_Bits.calls (k : Nat) (A0 : Option Addr) (c0 : Nat) (l0 : List Int) (r : Int) (w : World) (hr0 : Kd.C (Kd.int .i64) w A0 l0.length l0) (hc0 : l0.length ≤ c0) (h : vernierref01_Bits.f k l0 = some r) :
  Calls Tryd.prog 38 #[.slice A0 l0.length c0] w fun e w' => e = .returned (.int .i64 r) ∧ Drawn0 w w' := by
 have R0 := Aside0.mk hr0; have C0 := Aside0.mk hc0; clear hr0 hc0; have H := h; rw [vernierref01_Bits.f] at H; clear h; by_cases c2 : (l0.length : Int) = 0
 ·
  rw [if_pos c2] at H; obtain ⟨c2b0, c2b1⟩ := q1_ c2; clear c2; obtain rfl := Option.some.inj H; go_enter Tryd.func38, Tryd.ntmps38; go_wp2; go_ret; exact ⟨rf_, dr_⟩
 rw [if_neg c2] at H; obtain ⟨c2b0, c2b1⟩ := q0_ c2; (have c2b2 : ¬ (l0 = []) := fun h_ => c2 (by rw [h_]; rfl)); obtain ⟨ji3, j0⟩ : ∃ j_ : Int, (wrap64 ((l0.length : Int) - 1)) = j_ := ⟨_, rfl⟩; (replace H : (if 0 ≤ (ji3) then (if (ji3) < (l0.length : Int) then (vernierref01_Bits.l0 k (wrap64 (16 * (ji3))) (rd l0 (ji3))) else (none)) else (none)) = some r := by first | (rw [j0] at H; exact H) | (simp only [j0] at H ⊢; exact H)); have hji3w : (IntKind.i64.wrap ((l0.length : Int) - 1)) = ji3 := (i64_w _).trans j0; by_cases c4 : 0 ≤ (ji3)
 ·
  rw [if_pos c4] at H; have c4b0 := decide_eq_true c4; clear c4; by_cases c5 : (ji3) < (l0.length : Int)
  ·
   rw [if_pos c5] at H; have c5b0 := decide_eq_true c5; clear c5; have H' := Aside0.mk H; clear H; have p550 : 0 ≤ ((ji3) : Int) := od_; have q550 : (ji3) < (l0.length : Int) := od_; obtain ⟨ad550, e550, hx550_0⟩ := Kd.at_int R0.out (ji3) p550 q550; cases e550
   replace p550 := eq_true p550; replace q550 := eq_true q550; go_enter Tryd.func38, Tryd.ntmps38; go_wp2; go_loopg [3, 4] k (fun kq v3 v4 w' => ∃ (x3_1 : Int) (x4_1 : Int), v3 = .int .i64 x3_1 ∧ v4 = .int .i64 x4_1 ∧ Aside0 (vernierref01_Bits.l0 kq x3_1 x4_1 = some r) ∧ Aside0 (kq ≤ k) ∧ Drawn0 w w'); case atStart => exact ⟨(wrap64 (16 * (ji3))), (rd l0 (ji3)), (by first | rfl | (simp; done) | (simp only [← j0] <;> (first | rfl | simp)) | (simp [*]; done)), (by first | rfl | (simp; done) | (simp only [← j0] <;> (first | rfl | simp)) | (simp [*]; done)), H', ⟨Nat.le_refl _⟩, dr_⟩
   case round =>
    clear H'; (try clear c2); (try clear c2b0); (try clear c2b1); (try clear c2b2); (try clear c4); (try clear c4b0); (try clear c5); (try clear c5b0); (try clear hx550_0); (try clear p550); (try clear q550); obtain ⟨x3_1, x4_1, rfl, rfl, HA, HK1, ⟨m1, rfl⟩⟩ := hrel; cases gk with
    | zero => exact absurd HA.out (by simp [vernierref01_Bits.l0])
    | succ k1 =>
     have H := HA.out; clear HA; simp only [vernierref01_Bits.l0] at H; by_cases c6 : x4_1 > 0
     ·
      rw [if_pos c6] at H; have c6b0 : decide (0 < x4_1) = true := decide_eq_true c6; clear c6; have H' := Aside0.mk H; clear H; go_wp2; go_roundg k1; case measure => have := HK1.out; omega
      case rel => exact ⟨(wrap64 (x3_1 + 1)), (wrap64 (Int.tdiv x4_1 2)), rf_, rf_, H', ⟨by have := HK1.out; omega⟩, dr_⟩
     rw [if_neg c6] at H; have c6b0 : decide (0 < x4_1) = false := decide_eq_false c6; clear c6; obtain rfl := Option.some.inj H; go_wp2; go_ret; exact ⟨by first | rfl | (simp; done) | (simp only [← j0] <;> (first | rfl | simp)) | (simp [*]; done), dr_⟩
  rw [if_neg c5] at H; exact absurd H (by simp)
 rw [if_neg c4] at H; exact absurd H (by simp)
end Go.Proofs.YtjgdpjbkmcjbcaaDoor.PG
end
section
namespace Go.Proofs.YtjgdpjbkmcjbcaaDoor.PG
open Go.RowKit Go.Proofs.YtjgdpjbkmcjbcaaDoorW.PrintWords Go.Proofs.YtjgdpjbkmcjbcaaDoorW.PrintLast Go.Proofs.YtjgdpjbkmcjbcaaDoorW.PrintMore
attribute [local go_sem] max2_int min2_int max_two min_two max_three min_three max_four min_four
set_option linter.unusedVariables false
set_option linter.unusedSimpArgs false
attribute [local go_sem] fld139_1
mutual
def vernierref01_Add.l0 : Nat → List Int → List Int → List Int → Int → Int → Option (List Int)
 | 0, _, _, _, _, _ => none
 | k + 1, x0, x1, x5, x6, x7 => if x7 < (x0.length : Int) then (vernierref01_Add.j1 k x0 x1 x5 x6 x7 true) else (if x7 < (x1.length : Int) then (vernierref01_Add.j1 k x0 x1 x5 x6 x7 true) else (vernierref01_Add.j1 k x0 x1 x5 x6 x7 (decide (x6 > 0))))
def vernierref01_Add.j1 : Nat → List Int → List Int → List Int → Int → Int → Bool → Option (List Int)
 | 0, _, _, _, _, _, _ => none
 | k + 1, x0, x1, x5, x6, x7, x21 => if x21 = true then (if x7 < (x0.length : Int) then (if 0 ≤ x7 then (if x7 < (x1.length : Int) then (if x5.length < 17592186044416 then (vernierref01_Add.l0 k x0 x1 (x5 ++ [Int.tmod (wrap64 ((wrap64 (x6 + (rd x0 x7))) + (rd x1 x7))) 65536]) (wrap64 (Int.tdiv (wrap64 ((wrap64 (x6 + (rd x0 x7))) + (rd x1 x7))) 65536)) (wrap64 (x7 + 1))) else (none)) else (if x5.length < 17592186044416 then (vernierref01_Add.l0 k x0 x1 (x5 ++ [Int.tmod (wrap64 (x6 + (rd x0 x7))) 65536]) (wrap64 (Int.tdiv (wrap64 (x6 + (rd x0 x7))) 65536)) (wrap64 (x7 + 1))) else (none))) else (none)) else (if x7 < (x1.length : Int) then (if 0 ≤ x7 then (if x5.length < 17592186044416 then (vernierref01_Add.l0 k x0 x1 (x5 ++ [Int.tmod (wrap64 (x6 + (rd x1 x7))) 65536]) (wrap64 (Int.tdiv (wrap64 (x6 + (rd x1 x7))) 65536)) (wrap64 (x7 + 1))) else (none)) else (none)) else (if x5.length < 17592186044416 then (vernierref01_Add.l0 k x0 x1 (x5 ++ [Int.tmod x6 65536]) (wrap64 (Int.tdiv x6 65536)) (wrap64 (x7 + 1))) else (none)))) else ((vernierref01_cut.f k x5).bind fun t581 => (some t581))
end
def vernierref01_Add.f (k : Nat) (l0 : List Int) (l1 : List Int) : Option (List Int) := vernierref01_Add.l0 k l0 l1 ([] : List Int) 0 0
end Go.Proofs.YtjgdpjbkmcjbcaaDoor.PG
end
section
namespace Go.Proofs.YtjgdpjbkmcjbcaaDoor.PG
open Go.RowKit Go.Proofs.YtjgdpjbkmcjbcaaDoorW.PrintWords Go.Proofs.YtjgdpjbkmcjbcaaDoorW.PrintLast Go.Proofs.YtjgdpjbkmcjbcaaDoorW.PrintMore
attribute [local go_sem] max2_int min2_int max_two min_two max_three min_three max_four min_four
set_option linter.unusedVariables false
set_option linter.unusedSimpArgs false
attribute [local go_sem] fld139_1
def api_Whole.f (a0 : Bool) (a1_0 : Bool) (l1_1 : List Int) (a2_0 : Bool) (l2_1 : List Int) : Option (Bool × List Int) := if a0 = true then (some (a1_0, l1_1)) else (some (a2_0, l2_1))
end Go.Proofs.YtjgdpjbkmcjbcaaDoor.PG
end
section
namespace Go.Proofs.YtjgdpjbkmcjbcaaDoor.PG
open Go.RowKit Go.Proofs.YtjgdpjbkmcjbcaaDoorW.PrintWords Go.Proofs.YtjgdpjbkmcjbcaaDoorW.PrintLast Go.Proofs.YtjgdpjbkmcjbcaaDoorW.PrintMore
attribute [local go_sem] max2_int min2_int max_two min_two max_three min_three max_four min_four
set_option linter.unusedVariables false
set_option linter.unusedSimpArgs false
attribute [local go_sem] fld139_1
def whole_Add.f (k : Nat) (a0_0 : Bool) (l0_1 : List Int) (a1_0 : Bool) (l1_1 : List Int) : Option (Bool × List Int) := if (a0_0 == a1_0) = true then ((nat_Add.f k l0_1 l1_1).bind fun t667 => ((whole_made.f k a0_0 t667).bind fun bt670 => (some (bt670.1, bt670.2)))) else ((nat_Cmp.f k l0_1 l1_1).bind fun t674 => ((api_Whole.f (decide (t674 < 0)) a1_0 l1_1 a0_0 l0_1).bind fun bt675 => ((nat_Sub.f k l0_1 l1_1).bind fun t680 => ((whole_made.f k bt675.1 t680).bind fun bt683 => (some (bt683.1, bt683.2))))))
end Go.Proofs.YtjgdpjbkmcjbcaaDoor.PG
end
section
namespace Go.Proofs.YtjgdpjbkmcjbcaaDoor.PG
open Go.RowKit Go.Proofs.YtjgdpjbkmcjbcaaDoorW.PrintWords Go.Proofs.YtjgdpjbkmcjbcaaDoorW.PrintLast Go.Proofs.YtjgdpjbkmcjbcaaDoorW.PrintMore
attribute [local go_sem] max2_int min2_int max_two min_two max_three min_three max_four min_four
set_option linter.unusedVariables false
set_option linter.unusedSimpArgs false
attribute [local go_sem] fld139_1
def whole_Neg.f (k : Nat) (a0_0 : Bool) (l0_1 : List Int) : Option (Bool × List Int) := (whole_made.f k (!a0_0) l0_1).bind fun bt689 => (some (bt689.1, bt689.2))
def whole_Sub.f (k : Nat) (a0_0 : Bool) (l0_1 : List Int) (a1_0 : Bool) (l1_1 : List Int) : Option (Bool × List Int) := (whole_Neg.f k a1_0 l1_1).bind fun bt696 => ((whole_Add.f k a0_0 l0_1 bt696.1 bt696.2).bind fun bt700 => (some (bt700.1, bt700.2)))
def whole_Cmp.f (k : Nat) (a0_0 : Bool) (l0_1 : List Int) (a1_0 : Bool) (l1_1 : List Int) : Option (Int) := (whole_Sub.f k a0_0 l0_1 a1_0 l1_1).bind fun bt706 => ((whole_Sign.f k bt706.1 bt706.2).bind fun t710 => (some t710))
end Go.Proofs.YtjgdpjbkmcjbcaaDoor.PG
end
section
namespace Go.Proofs.YtjgdpjbkmcjbcaaDoor.PG
open Go.RowKit Go.Proofs.YtjgdpjbkmcjbcaaDoorW.PrintWords Go.Proofs.YtjgdpjbkmcjbcaaDoorW.PrintLast Go.Proofs.YtjgdpjbkmcjbcaaDoorW.PrintMore
attribute [local go_sem] max2_int min2_int max_two min_two max_three min_three max_four min_four
set_option linter.unusedVariables false
set_option linter.unusedSimpArgs false
attribute [local go_sem] fld139_1
mutual
def vernierref01_Sub.l0 : Nat → List Int → List Int → List Int → Int → Int → Option (List Int)
 | 0, _, _, _, _, _ => none
 | k + 1, x0, x1, x5, x6, x7 => if x7 < (x0.length : Int) then (if 0 ≤ x7 then (if x7 < (x1.length : Int) then (if x5.length < 17592186044416 then (vernierref01_Sub.l0 k x0 x1 (x5 ++ [Int.tmod (wrap64 ((Int.tmod (wrap64 ((wrap64 (x6 + (rd x0 x7))) - (rd x1 x7))) 65536) + 65536)) 65536]) (wrap64 (Int.tdiv (wrap64 ((wrap64 ((wrap64 (x6 + (rd x0 x7))) - (rd x1 x7))) - (Int.tmod (wrap64 ((Int.tmod (wrap64 ((wrap64 (x6 + (rd x0 x7))) - (rd x1 x7))) 65536) + 65536)) 65536))) 65536)) (wrap64 (x7 + 1))) else (none)) else (if x5.length < 17592186044416 then (vernierref01_Sub.l0 k x0 x1 (x5 ++ [Int.tmod (wrap64 ((Int.tmod (wrap64 (x6 + (rd x0 x7))) 65536) + 65536)) 65536]) (wrap64 (Int.tdiv (wrap64 ((wrap64 (x6 + (rd x0 x7))) - (Int.tmod (wrap64 ((Int.tmod (wrap64 (x6 + (rd x0 x7))) 65536) + 65536)) 65536))) 65536)) (wrap64 (x7 + 1))) else (none))) else (none)) else ((vernierref01_cut.f k x5).bind fun t853 => (some t853))
def vernierref01_Sub.l1 : Nat → List Int → List Int → List Int → Int → Int → Option (List Int)
 | 0, _, _, _, _, _ => none
 | k + 1, x0, x1, x5, x6, x7 => if x7 < (x0.length : Int) then (if 0 ≤ x7 then (if x7 < (x1.length : Int) then (if x5.length < 17592186044416 then (vernierref01_Sub.l1 k x0 x1 (x5 ++ [Int.tmod (wrap64 ((Int.tmod (wrap64 ((wrap64 (x6 + (rd x0 x7))) - (rd x1 x7))) 65536) + 65536)) 65536]) (wrap64 (Int.tdiv (wrap64 ((wrap64 ((wrap64 (x6 + (rd x0 x7))) - (rd x1 x7))) - (Int.tmod (wrap64 ((Int.tmod (wrap64 ((wrap64 (x6 + (rd x0 x7))) - (rd x1 x7))) 65536) + 65536)) 65536))) 65536)) (wrap64 (x7 + 1))) else (none)) else (if x5.length < 17592186044416 then (vernierref01_Sub.l1 k x0 x1 (x5 ++ [Int.tmod (wrap64 ((Int.tmod (wrap64 (x6 + (rd x0 x7))) 65536) + 65536)) 65536]) (wrap64 (Int.tdiv (wrap64 ((wrap64 (x6 + (rd x0 x7))) - (Int.tmod (wrap64 ((Int.tmod (wrap64 (x6 + (rd x0 x7))) 65536) + 65536)) 65536))) 65536)) (wrap64 (x7 + 1))) else (none))) else (none)) else ((vernierref01_cut.f k x5).bind fun t864 => (some t864))
end
def vernierref01_Sub.f (k : Nat) (l0 : List Int) (l1 : List Int) : Option (List Int) := (vernierref01_Cmp.f k l0 l1).bind fun t844 => (if t844 < 0 then (vernierref01_Sub.l0 k l1 l0 ([] : List Int) 0 0) else (vernierref01_Sub.l1 k l0 l1 ([] : List Int) 0 0))
set_option maxHeartbeats 8000000 in
set_option maxRecDepth 100000 in
theorem vernierref01_Sub.calls (k : Nat) (A0 : Option Addr) (c0 : Nat) (l0 : List Int) (A1 : Option Addr) (c1 : Nat) (l1 : List Int) (r : List Int) (w : World) (hr0 : Kd.C (Kd.int .i64) w A0 l0.length l0) (hc0 : l0.length ≤ c0) (hr1 : Kd.C (Kd.int .i64) w A1 l1.length l1) (hc1 : l1.length ≤ c1) (h : vernierref01_Sub.f k l0 l1 = some r) :
  Calls Tryd.prog 85 #[.slice A0 l0.length c0, .slice A1 l1.length c1] w fun e w' => ∃ v0_ : Value, e = .returned (v0_) ∧ Kd.R (Kd.int .i64) 3 w' w.heap.size (fun _ => True) v0_ r ∧ Below w.heap.size w w' := by
 have R0 := Aside0.mk hr0; have C0 := Aside0.mk hc0; clear hr0 hc0; have R1 := Aside0.mk hr1; have C1 := Aside0.mk hc1; clear hr1 hc1; have HB := Aside0.mk (Below.refl w.heap.size w); have H := h; rw [vernierref01_Sub.f] at H; clear h; replace H := bo_ H; obtain ⟨t844, A3, H⟩ := H; (try dsimp only at H); by_cases c4 : t844 < 0
 ·
  rw [if_pos c4] at H; have c4b0 := decide_eq_true c4; clear c4; have H' := Aside0.mk H; clear H; go_enter Tryd.func85, Tryd.ntmps85; go_wp2_with (first | ((with_reducible refine gate_callee (f := 78) rfl ?_); refine gl_ (some 11) rfl rfl Tryd.func78 (by kernel_rfl) rfl #[.slice A0 l0.length c0, .slice A1 l1.length c1] rfl ?_; (with_reducible refine (vernierref01_Cmp.calls k _ _ l0 _ _ l1 t844 _ ?side1 ?side2 ?side3 ?side4 A3.out).mono ?_); (case side1 => exact cl_ R0.out); (case side2 => exact C0.out); (case side3 => exact cl_ R1.out); (case side4 => exact C1.out); rintro e w' ⟨rfl, ⟨nd, rfl⟩⟩; refine ⟨_, rfl, ?_⟩)); go_loopg [5, 6, 7] k (fun kq v5 v6 v7 w' => ∃ (x5_1 : List Int) (x6_1 : Int) (x7_1 : Int), v6 = .int .i64 x6_1 ∧ v7 = .int .i64 x7_1 ∧ Aside0 (vernierref01_Sub.l0 kq l1 l0 x5_1 x6_1 x7_1 = some r) ∧ Aside0 (kq ≤ k) ∧ Aside0 (Kd.R (Kd.int .i64) 3 w' w.heap.size (fun _ => True) v5 x5_1) ∧ Aside0 (Below w.heap.size w w')); case atStart => exact ⟨(([] : List Int)), (0), (0), rf_, rf_, H', ⟨Nat.le_refl _⟩, ⟨by first | exact Kd.R_nil _ _ _ _ _ | exact Kd.N_nil _ _ _ _ _ | exact Kd.V_nil _ _ _ _ _ | exact Kd.Q_nil _ _ _ _ _ | exact (by first | exact Kd.S_nil _ _ _ _ _ | exact Kd.R_nil _ _ _ _ _)⟩, ⟨bw_ HB⟩⟩
  case round =>
   clear H'; (try clear c1); (try clear c4); (try clear c4b0); obtain ⟨x5_1, x6_1, x7_1, rfl, rfl, HA, HK1, Q0, HB⟩ := hrel; cases gk with
   | zero => exact absurd HA.out (by simp [vernierref01_Sub.l0])
   | succ k1 =>
    have H := HA.out; clear HA; simp only [vernierref01_Sub.l0] at H; by_cases c5 : x7_1 < (l1.length : Int)
    ·
     rw [if_pos c5] at H; have c5b0 := decide_eq_true c5; clear c5; by_cases c6 : 0 ≤ x7_1
     ·
      rw [if_pos c6] at H; have c6b0 := decide_eq_true c6; clear c6; by_cases c7 : x7_1 < (l0.length : Int)
      ·
       rw [if_pos c7] at H; have c7b0 := decide_eq_true c7; clear c7; by_cases c8 : x5_1.length < 17592186044416
       ·
        rw [if_pos c8] at H; have LMc8 := Aside0.mk c8; clear c8; obtain ⟨y847, hy847⟩ : ∃ y_ : List Int, y_ = (x5_1 ++ [Int.tmod (wrap64 ((Int.tmod (wrap64 ((wrap64 (x6_1 + (rd l1 x7_1))) - (rd l0 x7_1))) 65536) + 65536)) 65536]) := ⟨_, rfl⟩; (replace H : (vernierref01_Sub.l0 k1 l1 l0 y847 (wrap64 (Int.tdiv (wrap64 ((wrap64 ((wrap64 (x6_1 + (rd l1 x7_1))) - (rd l0 x7_1))) - (Int.tmod (wrap64 ((Int.tmod (wrap64 ((wrap64 (x6_1 + (rd l1 x7_1))) - (rd l0 x7_1))) 65536) + 65536)) 65536))) 65536)) (wrap64 (x7_1 + 1))) = some r := by first | (rw [hy847]; with_reducible exact H) | (have H2_ := (Option.bind_some _ _).symm.trans H; rw [hy847]; with_reducible exact H2_) | (have H2_ := (Option.bind_some _ _).symm.trans H; with_reducible exact H2_) | with_reducible exact H | (rw [hy847]; exact H) | exact H); have Ny847 := Aside0.mk hy847; clear hy847; have H' := Aside0.mk H; clear H; have p845 : 0 ≤ (x7_1 : Int) := od_; have q845 : x7_1 < (l1.length : Int) := od_; obtain ⟨ad845, e845, hx845_0⟩ := Kd.at_int R1.out x7_1 p845 q845; cases e845
        replace hx845_0 := (HB.out.cell (World.block_lt_of_cell? w _ hx845_0)).trans hx845_0; replace p845 := eq_true p845; replace q845 := eq_true q845; have p846 : 0 ≤ (x7_1 : Int) := od_; have q846 : x7_1 < (l0.length : Int) := od_; obtain ⟨ad846, e846, hx846_0⟩ := Kd.at_int R0.out x7_1 p846 q846; cases e846
        replace hx846_0 := (HB.out.cell (World.block_lt_of_cell? w _ hx846_0)).trans hx846_0; replace p846 := eq_true p846; replace q846 := eq_true q846; go_wp2_with (first | ((with_reducible refine gate_builtin (b := .append) (xs := #[.tmp 41, .tmp 43]) rfl ?_); at_builtin; refine Kd.R_append (Kd.int .i64) (w0 := w) w.heap.size rfl (.tmp 41) (.tmp 43) 43 3 (.int .i64 0) 8 rfl Tryd.underlying43 info3 rfl (by decide) (by omega) u5 x5_1 (Int.tmod (wrap64 ((Int.tmod (wrap64 ((wrap64 (x6_1 + (rd l1 x7_1))) - (rd l0 x7_1))) 65536) + 65536)) 65536) [.int .i64 (Int.tmod (wrap64 ((Int.tmod (wrap64 ((wrap64 (x6_1 + (rd l1 x7_1))) - (rd l0 x7_1))) 65536) + 65536)) 65536)] (fun _ => True) (fun _ => False) rfl rfl ?aP (fun _ hk => hk.elim) ?aF ?aO ?aB ?aS ?aL ?_; (case aP => exact rfl); (case aB => exact (bw_ HB)); (case aF => exact (fun _ _ => trivial)); (case aO => exact (rl_ Q0)); (case aS => exact (below_size (bw_ HB))); (case aL => have := LMc8.out; omega); intro v848 w9 ho hb hg hat; rw [← Ny847.out] at ho; replace HB := Aside0.mk (hb); have O0 := Aside0.mk (ho); clear Q0; clear ho hb hg hat)); go_roundg k1; case measure => have := HK1.out; omega
        case rel => exact ⟨(y847), (wrap64 (Int.tdiv (wrap64 ((wrap64 ((wrap64 (x6_1 + (rd l1 x7_1))) - (rd l0 x7_1))) - (Int.tmod (wrap64 ((Int.tmod (wrap64 ((wrap64 (x6_1 + (rd l1 x7_1))) - (rd l0 x7_1))) 65536) + 65536)) 65536))) 65536)), (wrap64 (x7_1 + 1)), rf_, rf_, H', ⟨by have := HK1.out; omega⟩, ⟨rl_ O0⟩, ⟨bw_ HB⟩⟩
       rw [if_neg c8] at H; exact absurd H (by simp)
      rw [if_neg c7] at H; have c7b0 := decide_eq_false c7; clear c7; by_cases c10 : x5_1.length < 17592186044416
      ·
       rw [if_pos c10] at H; have LMc10 := Aside0.mk c10; clear c10; obtain ⟨y850, hy850⟩ : ∃ y_ : List Int, y_ = (x5_1 ++ [Int.tmod (wrap64 ((Int.tmod (wrap64 (x6_1 + (rd l1 x7_1))) 65536) + 65536)) 65536]) := ⟨_, rfl⟩; (replace H : (vernierref01_Sub.l0 k1 l1 l0 y850 (wrap64 (Int.tdiv (wrap64 ((wrap64 (x6_1 + (rd l1 x7_1))) - (Int.tmod (wrap64 ((Int.tmod (wrap64 (x6_1 + (rd l1 x7_1))) 65536) + 65536)) 65536))) 65536)) (wrap64 (x7_1 + 1))) = some r := by first | (rw [hy850]; with_reducible exact H) | (have H2_ := (Option.bind_some _ _).symm.trans H; rw [hy850]; with_reducible exact H2_) | (have H2_ := (Option.bind_some _ _).symm.trans H; with_reducible exact H2_) | with_reducible exact H | (rw [hy850]; exact H) | exact H); have Ny850 := Aside0.mk hy850; clear hy850; have H' := Aside0.mk H; clear H; have p845 : 0 ≤ (x7_1 : Int) := od_; have q845 : x7_1 < (l1.length : Int) := od_; obtain ⟨ad845, e845, hx845_0⟩ := Kd.at_int R1.out x7_1 p845 q845; cases e845
       replace hx845_0 := (HB.out.cell (World.block_lt_of_cell? w _ hx845_0)).trans hx845_0; replace p845 := eq_true p845; replace q845 := eq_true q845; go_wp2_with (first | ((with_reducible refine gate_builtin (b := .append) (xs := #[.tmp 41, .tmp 43]) rfl ?_); at_builtin; refine Kd.R_append (Kd.int .i64) (w0 := w) w.heap.size rfl (.tmp 41) (.tmp 43) 43 3 (.int .i64 0) 8 rfl Tryd.underlying43 info3 rfl (by decide) (by omega) u5 x5_1 (Int.tmod (wrap64 ((Int.tmod (wrap64 (x6_1 + (rd l1 x7_1))) 65536) + 65536)) 65536) [.int .i64 (Int.tmod (wrap64 ((Int.tmod (wrap64 (x6_1 + (rd l1 x7_1))) 65536) + 65536)) 65536)] (fun _ => True) (fun _ => False) rfl rfl ?aP (fun _ hk => hk.elim) ?aF ?aO ?aB ?aS ?aL ?_; (case aP => exact rfl); (case aB => exact (bw_ HB)); (case aF => exact (fun _ _ => trivial)); (case aO => exact (rl_ Q0)); (case aS => exact (below_size (bw_ HB))); (case aL => have := LMc10.out; omega); intro v851 w11 ho hb hg hat; rw [← Ny850.out] at ho; replace HB := Aside0.mk (hb); have O1 := Aside0.mk (ho); clear Q0; clear ho hb hg hat)); go_roundg k1; case measure => have := HK1.out; omega
       case rel => exact ⟨(y850), (wrap64 (Int.tdiv (wrap64 ((wrap64 (x6_1 + (rd l1 x7_1))) - (Int.tmod (wrap64 ((Int.tmod (wrap64 (x6_1 + (rd l1 x7_1))) 65536) + 65536)) 65536))) 65536)), (wrap64 (x7_1 + 1)), rf_, rf_, H', ⟨by have := HK1.out; omega⟩, ⟨rl_ O1⟩, ⟨bw_ HB⟩⟩
      rw [if_neg c10] at H; exact absurd H (by simp)
     rw [if_neg c6] at H; exact absurd H (by simp)
    rw [if_neg c5] at H; have c5b0 := decide_eq_false c5; clear c5; replace H := bo_ H; obtain ⟨t853, A12, H⟩ := H; replace H : (some t853) = some r := H; obtain rfl := Option.some.inj H; obtain ⟨a0, c2, e0⟩ := Kd.R_slice Q0.out; subst e0; go_wp2_with (first | ((with_reducible refine gate_callee (f := 75) rfl ?_); refine gl_ (some 50) rfl rfl Tryd.func75 (by kernel_rfl) rfl #[.slice a0 x5_1.length c2] rfl ?_; (with_reducible refine (vernierref01_cut.calls k1 (fun k_ => some k_ = (.slice a0 x5_1.length c2 : Value).ownBlock) (.slice a0 x5_1.length c2) x5_1 t853 w _ ?side1 ?side2 A12.out).mono ?_); (case side1 => repeat (first | (with_reducible first | exact HB.out | apply below_alloc | apply pw_below_drewN | apply below_drew1) | exact HB.out)); (case side2 => exact Kd.R_tight rfl Q0.out); rintro e w14 ⟨v854, rfl, ho0, hb, hkp⟩; refine ⟨_, rfl, ?_⟩; have O2 := Aside0.mk (Kd.R_mono (ok' := fun k_ => True) ho0 (fun k_ hk_ => trivial)); replace HB := Aside0.mk (hb); clear Q0; (try clear hb hkp ho0))); go_ret; exact ⟨_, er_, rl_ O2, bw_ HB⟩
 rw [if_neg c4] at H; have c4b0 := decide_eq_false c4; clear c4; have H' := Aside0.mk H; clear H; go_enter Tryd.func85, Tryd.ntmps85; go_wp2_with (first | ((with_reducible refine gate_callee (f := 78) rfl ?_); refine gl_ (some 11) rfl rfl Tryd.func78 (by kernel_rfl) rfl #[.slice A0 l0.length c0, .slice A1 l1.length c1] rfl ?_; (with_reducible refine (vernierref01_Cmp.calls k _ _ l0 _ _ l1 t844 _ ?side1 ?side2 ?side3 ?side4 A3.out).mono ?_); (case side1 => exact cl_ R0.out); (case side2 => exact C0.out); (case side3 => exact cl_ R1.out); (case side4 => exact C1.out); rintro e w' ⟨rfl, ⟨nd, rfl⟩⟩; refine ⟨_, rfl, ?_⟩)); go_loopg [5, 6, 7] k (fun kq v5 v6 v7 w' => ∃ (x5_1 : List Int) (x6_1 : Int) (x7_1 : Int), v6 = .int .i64 x6_1 ∧ v7 = .int .i64 x7_1 ∧ Aside0 (vernierref01_Sub.l1 kq l0 l1 x5_1 x6_1 x7_1 = some r) ∧ Aside0 (kq ≤ k) ∧ Aside0 (Kd.R (Kd.int .i64) 3 w' w.heap.size (fun _ => True) v5 x5_1) ∧ Aside0 (Below w.heap.size w w')); case atStart => exact ⟨(([] : List Int)), (0), (0), rf_, rf_, H', ⟨Nat.le_refl _⟩, ⟨by first | exact Kd.R_nil _ _ _ _ _ | exact Kd.N_nil _ _ _ _ _ | exact Kd.V_nil _ _ _ _ _ | exact Kd.Q_nil _ _ _ _ _ | exact (by first | exact Kd.S_nil _ _ _ _ _ | exact Kd.R_nil _ _ _ _ _)⟩, ⟨bw_ HB⟩⟩
 case round =>
  clear H'; (try clear c1); (try clear c4); (try clear c4b0); obtain ⟨x5_1, x6_1, x7_1, rfl, rfl, HA, HK1, Q0, HB⟩ := hrel; cases gk with
  | zero => exact absurd HA.out (by simp [vernierref01_Sub.l1])
  | succ k1 =>
   have H := HA.out; clear HA; simp only [vernierref01_Sub.l1] at H; by_cases c15 : x7_1 < (l0.length : Int)
   ·
    rw [if_pos c15] at H; have c15b0 := decide_eq_true c15; clear c15; by_cases c16 : 0 ≤ x7_1
    ·
     rw [if_pos c16] at H; have c16b0 := decide_eq_true c16; clear c16; by_cases c17 : x7_1 < (l1.length : Int)
     ·
      rw [if_pos c17] at H; have c17b0 := decide_eq_true c17; clear c17; by_cases c18 : x5_1.length < 17592186044416
      ·
       rw [if_pos c18] at H; have LMc18 := Aside0.mk c18; clear c18; obtain ⟨y858, hy858⟩ : ∃ y_ : List Int, y_ = (x5_1 ++ [Int.tmod (wrap64 ((Int.tmod (wrap64 ((wrap64 (x6_1 + (rd l0 x7_1))) - (rd l1 x7_1))) 65536) + 65536)) 65536]) := ⟨_, rfl⟩; (replace H : (vernierref01_Sub.l1 k1 l0 l1 y858 (wrap64 (Int.tdiv (wrap64 ((wrap64 ((wrap64 (x6_1 + (rd l0 x7_1))) - (rd l1 x7_1))) - (Int.tmod (wrap64 ((Int.tmod (wrap64 ((wrap64 (x6_1 + (rd l0 x7_1))) - (rd l1 x7_1))) 65536) + 65536)) 65536))) 65536)) (wrap64 (x7_1 + 1))) = some r := by first | (rw [hy858]; with_reducible exact H) | (have H2_ := (Option.bind_some _ _).symm.trans H; rw [hy858]; with_reducible exact H2_) | (have H2_ := (Option.bind_some _ _).symm.trans H; with_reducible exact H2_) | with_reducible exact H | (rw [hy858]; exact H) | exact H); have Ny858 := Aside0.mk hy858; clear hy858; have H' := Aside0.mk H; clear H; have p856 : 0 ≤ (x7_1 : Int) := od_; have q856 : x7_1 < (l0.length : Int) := od_; obtain ⟨ad856, e856, hx856_0⟩ := Kd.at_int R0.out x7_1 p856 q856; cases e856
       replace hx856_0 := (HB.out.cell (World.block_lt_of_cell? w _ hx856_0)).trans hx856_0; replace p856 := eq_true p856; replace q856 := eq_true q856; have p857 : 0 ≤ (x7_1 : Int) := od_; have q857 : x7_1 < (l1.length : Int) := od_; obtain ⟨ad857, e857, hx857_0⟩ := Kd.at_int R1.out x7_1 p857 q857; cases e857
       replace hx857_0 := (HB.out.cell (World.block_lt_of_cell? w _ hx857_0)).trans hx857_0; replace p857 := eq_true p857; replace q857 := eq_true q857; go_wp2_with (first | ((with_reducible refine gate_builtin (b := .append) (xs := #[.tmp 41, .tmp 43]) rfl ?_); at_builtin; refine Kd.R_append (Kd.int .i64) (w0 := w) w.heap.size rfl (.tmp 41) (.tmp 43) 43 3 (.int .i64 0) 8 rfl Tryd.underlying43 info3 rfl (by decide) (by omega) u5 x5_1 (Int.tmod (wrap64 ((Int.tmod (wrap64 ((wrap64 (x6_1 + (rd l0 x7_1))) - (rd l1 x7_1))) 65536) + 65536)) 65536) [.int .i64 (Int.tmod (wrap64 ((Int.tmod (wrap64 ((wrap64 (x6_1 + (rd l0 x7_1))) - (rd l1 x7_1))) 65536) + 65536)) 65536)] (fun _ => True) (fun _ => False) rfl rfl ?aP (fun _ hk => hk.elim) ?aF ?aO ?aB ?aS ?aL ?_; (case aP => exact rfl); (case aB => exact (bw_ HB)); (case aF => exact (fun _ _ => trivial)); (case aO => exact (rl_ Q0)); (case aS => exact (below_size (bw_ HB))); (case aL => have := LMc18.out; omega); intro v859 w19 ho hb hg hat; rw [← Ny858.out] at ho; replace HB := Aside0.mk (hb); have O3 := Aside0.mk (ho); clear Q0; clear ho hb hg hat)); go_roundg k1; case measure => have := HK1.out; omega
       case rel => exact ⟨(y858), (wrap64 (Int.tdiv (wrap64 ((wrap64 ((wrap64 (x6_1 + (rd l0 x7_1))) - (rd l1 x7_1))) - (Int.tmod (wrap64 ((Int.tmod (wrap64 ((wrap64 (x6_1 + (rd l0 x7_1))) - (rd l1 x7_1))) 65536) + 65536)) 65536))) 65536)), (wrap64 (x7_1 + 1)), rf_, rf_, H', ⟨by have := HK1.out; omega⟩, ⟨rl_ O3⟩, ⟨bw_ HB⟩⟩
      rw [if_neg c18] at H; exact absurd H (by simp)
     rw [if_neg c17] at H; have c17b0 := decide_eq_false c17; clear c17; by_cases c20 : x5_1.length < 17592186044416
     ·
      rw [if_pos c20] at H; have LMc20 := Aside0.mk c20; clear c20; obtain ⟨y861, hy861⟩ : ∃ y_ : List Int, y_ = (x5_1 ++ [Int.tmod (wrap64 ((Int.tmod (wrap64 (x6_1 + (rd l0 x7_1))) 65536) + 65536)) 65536]) := ⟨_, rfl⟩; (replace H : (vernierref01_Sub.l1 k1 l0 l1 y861 (wrap64 (Int.tdiv (wrap64 ((wrap64 (x6_1 + (rd l0 x7_1))) - (Int.tmod (wrap64 ((Int.tmod (wrap64 (x6_1 + (rd l0 x7_1))) 65536) + 65536)) 65536))) 65536)) (wrap64 (x7_1 + 1))) = some r := by first | (rw [hy861]; with_reducible exact H) | (have H2_ := (Option.bind_some _ _).symm.trans H; rw [hy861]; with_reducible exact H2_) | (have H2_ := (Option.bind_some _ _).symm.trans H; with_reducible exact H2_) | with_reducible exact H | (rw [hy861]; exact H) | exact H); have Ny861 := Aside0.mk hy861; clear hy861; have H' := Aside0.mk H; clear H; have p856 : 0 ≤ (x7_1 : Int) := od_; have q856 : x7_1 < (l0.length : Int) := od_; obtain ⟨ad856, e856, hx856_0⟩ := Kd.at_int R0.out x7_1 p856 q856; cases e856
      replace hx856_0 := (HB.out.cell (World.block_lt_of_cell? w _ hx856_0)).trans hx856_0; replace p856 := eq_true p856; replace q856 := eq_true q856; go_wp2_with (first | ((with_reducible refine gate_builtin (b := .append) (xs := #[.tmp 41, .tmp 43]) rfl ?_); at_builtin; refine Kd.R_append (Kd.int .i64) (w0 := w) w.heap.size rfl (.tmp 41) (.tmp 43) 43 3 (.int .i64 0) 8 rfl Tryd.underlying43 info3 rfl (by decide) (by omega) u5 x5_1 (Int.tmod (wrap64 ((Int.tmod (wrap64 (x6_1 + (rd l0 x7_1))) 65536) + 65536)) 65536) [.int .i64 (Int.tmod (wrap64 ((Int.tmod (wrap64 (x6_1 + (rd l0 x7_1))) 65536) + 65536)) 65536)] (fun _ => True) (fun _ => False) rfl rfl ?aP (fun _ hk => hk.elim) ?aF ?aO ?aB ?aS ?aL ?_; (case aP => exact rfl); (case aB => exact (bw_ HB)); (case aF => exact (fun _ _ => trivial)); (case aO => exact (rl_ Q0)); (case aS => exact (below_size (bw_ HB))); (case aL => have := LMc20.out; omega); intro v862 w21 ho hb hg hat; rw [← Ny861.out] at ho; replace HB := Aside0.mk (hb); have O4 := Aside0.mk (ho); clear Q0; clear ho hb hg hat)); go_roundg k1; case measure => have := HK1.out; omega
      case rel => exact ⟨(y861), (wrap64 (Int.tdiv (wrap64 ((wrap64 (x6_1 + (rd l0 x7_1))) - (Int.tmod (wrap64 ((Int.tmod (wrap64 (x6_1 + (rd l0 x7_1))) 65536) + 65536)) 65536))) 65536)), (wrap64 (x7_1 + 1)), rf_, rf_, H', ⟨by have := HK1.out; omega⟩, ⟨rl_ O4⟩, ⟨bw_ HB⟩⟩
     rw [if_neg c20] at H; exact absurd H (by simp)
    rw [if_neg c16] at H; exact absurd H (by simp)
   rw [if_neg c15] at H; have c15b0 := decide_eq_false c15; clear c15; replace H := bo_ H; obtain ⟨t864, A22, H⟩ := H; replace H : (some t864) = some r := H; obtain rfl := Option.some.inj H; obtain ⟨a1, c3, e1⟩ := Kd.R_slice Q0.out; subst e1; go_wp2_with (first | ((with_reducible refine gate_callee (f := 75) rfl ?_); refine gl_ (some 50) rfl rfl Tryd.func75 (by kernel_rfl) rfl #[.slice a1 x5_1.length c3] rfl ?_; (with_reducible refine (vernierref01_cut.calls k1 (fun k_ => some k_ = (.slice a1 x5_1.length c3 : Value).ownBlock) (.slice a1 x5_1.length c3) x5_1 t864 w _ ?side1 ?side2 A22.out).mono ?_); (case side1 => repeat (first | (with_reducible first | exact HB.out | apply below_alloc | apply pw_below_drewN | apply below_drew1) | exact HB.out)); (case side2 => exact Kd.R_tight rfl Q0.out); rintro e w24 ⟨v865, rfl, ho0, hb, hkp⟩; refine ⟨_, rfl, ?_⟩; have O5 := Aside0.mk (Kd.R_mono (ok' := fun k_ => True) ho0 (fun k_ hk_ => trivial)); replace HB := Aside0.mk (hb); clear Q0; (try clear hb hkp ho0))); go_ret; exact ⟨_, er_, rl_ O5, bw_ HB⟩
end Go.Proofs.YtjgdpjbkmcjbcaaDoor.PG
end
