/- Parts of a proof. -/
import Derived.Test.YtjgdpjbkmcjbcaaDoorZDyadicTells28
import Derived.Test.YtjgdpjbkmcjbcaaDoorZDyadicTells29
import Derived.RangeFuncNested
import Derived.RangeFuncBound
import Derived.RangeFuncCalls
import Derived.RangeFuncLeaves
import Derived.Shelf.Abstract
import Derived.Shelf.RegionOpen
import Derived.OwnWalkIn
import Derived.TacticsInMore
import Derived.LoopNIn
import Derived.LoopIn
import Derived.Lib.Hide
import Derived.Outline
section
namespace Go.Proofs.YtjgdpjbkmcjbcaaDoor.PG
open Go.RowKit Go.Proofs.YtjgdpjbkmcjbcaaDoorW.PrintWords Go.Proofs.YtjgdpjbkmcjbcaaDoorW.PrintLast Go.Proofs.YtjgdpjbkmcjbcaaDoorW.PrintMore
attribute [local go_sem] max2_int min2_int max_two min_two max_three min_three max_four min_four
set_option linter.unusedVariables false
set_option linter.unusedSimpArgs false
attribute [local go_sem] fld139_1
def natdiv_Zeros.l0 : Nat → List Int → Int → Int → Option (Int)
 | 0, _, _, _ => none
 | k + 1, x5, x6, x7 => if x7 < x6 then (if 0 ≤ x7 then (if x7 < (x5.length : Int) then (if (rd x5 x7) = 0 then (natdiv_Zeros.l0 k x5 x6 (wrap64 (x7 + 1))) else ((bits_TrailingZeros64.f (rd x5 x7)).bind fun t258 => (some (wrap64 ((wrap64 (64 * x7)) + t258))))) else (none)) else (none)) else (some 0)
def natdiv_Zeros.f (k : Nat) (l0 : List Int) : Option (Int) := natdiv_Zeros.l0 k l0 (l0.length : Int) 0
set_option maxHeartbeats 8000000 in
set_option maxRecDepth 100000 in
theorem natdiv_Zeros.calls (k : Nat) (A0 : Option Addr) (c0 : Nat) (l0 : List Int) (r : Int) (w : World) (hr0 : Kd.C (Kd.int .u64) w A0 l0.length l0) (hc0 : l0.length ≤ c0) (ht_ : Tz w) (h : natdiv_Zeros.f k l0 = some r) :
  Calls Tryd.prog 17 #[.slice A0 l0.length c0] w fun e w' => e = .returned (.int .i64 r) ∧ Drawn0 w w' := by
 have HT := Aside0.mk ht_; clear ht_; have R0 := Aside0.mk hr0; have C0 := Aside0.mk hc0; clear hr0 hc0; have H : (natdiv_Zeros.l0 k l0 (l0.length : Int) 0) = some r := h; clear h; have H' := Aside0.mk H; clear H; go_enter Tryd.func17, Tryd.ntmps17; go_wp2; go_loopg [7] k (fun kq v7 w' => ∃ (x7_1 : Int), v7 = .int .i64 x7_1 ∧ Aside0 (natdiv_Zeros.l0 kq l0 (l0.length : Int) x7_1 = some r) ∧ Aside0 (kq ≤ k) ∧ Drawn0 w w'); case atStart => exact ⟨(0), rf_, H', ⟨Nat.le_refl _⟩, dr_⟩
 case round =>
  clear H'; obtain ⟨x7_1, rfl, HA, HK1, ⟨m1, rfl⟩⟩ := hrel; cases gk with
  | zero => exact absurd HA.out (by simp [natdiv_Zeros.l0])
  | succ k1 =>
   have H := HA.out; clear HA; simp only [natdiv_Zeros.l0] at H; by_cases c2 : x7_1 < (l0.length : Int)
   ·
    rw [if_pos c2] at H; have c2b0 := decide_eq_true c2; clear c2; by_cases c3 : 0 ≤ x7_1
    ·
     rw [if_pos c3] at H; have c3b0 := decide_eq_true c3; clear c3; by_cases c4 : x7_1 < (l0.length : Int)
     ·
      rw [if_pos c4] at H; have c4b0 := decide_eq_true c4; clear c4; by_cases c5 : (rd l0 x7_1) = 0
      ·
       rw [if_pos c5] at H; obtain ⟨c5b0, c5b1⟩ := q1_ c5; clear c5; have H' := Aside0.mk H; clear H; have p257 : 0 ≤ (x7_1 : Int) := od_; have q257 : x7_1 < (l0.length : Int) := od_; obtain ⟨ad257, e257, hx257_0⟩ := Kd.at_int R0.out x7_1 p257 q257; cases e257
       replace p257 := eq_true p257; replace q257 := eq_true q257; go_wp2; go_roundg k1; case measure => have := HK1.out; omega
       case rel => exact ⟨(wrap64 (x7_1 + 1)), rf_, H', ⟨by have := HK1.out; omega⟩, dr_⟩
      rw [if_neg c5] at H; obtain ⟨c5b0, c5b1⟩ := q0_ c5; replace H := bo_ H; obtain ⟨t258, A6, H⟩ := H; (try dsimp only at H); obtain rfl := Option.some.inj H; have p257 : 0 ≤ (x7_1 : Int) := od_; have q257 : x7_1 < (l0.length : Int) := od_; obtain ⟨ad257, e257, hx257_0⟩ := Kd.at_int R0.out x7_1 p257 q257; cases e257
      replace p257 := eq_true p257; replace q257 := eq_true q257; go_wp2_with (first | ((with_reducible refine gate_callee (f := 61) rfl ?_); refine gl_ (some 17) rfl rfl Tryd.func61 (by kernel_rfl) rfl #[.int .u64 (rd l0 x7_1)] rfl ?_; (with_reducible refine (bits_TrailingZeros64.calls (rd l0 x7_1) t258 _ ?sidet A6.out).mono ?_); (case sidet => exact tz0_ HT); rintro e w' ⟨rfl, ⟨nd, rfl⟩⟩; refine ⟨_, rfl, ?_⟩)); go_ret; exact ⟨rf_, dr_⟩
     rw [if_neg c4] at H; exact absurd H (by simp)
    rw [if_neg c3] at H; exact absurd H (by simp)
   rw [if_neg c2] at H; have c2b0 := decide_eq_false c2; clear c2; obtain rfl := Option.some.inj H; go_wp2; go_ret; exact ⟨rf_, dr_⟩
def natdiv_odd.f (a0 : Int) : Option (Bool) := if a0 < 0 then (some true) else (some (decide (a0 > 65536)))
set_option maxHeartbeats 8000000 in
set_option maxRecDepth 100000 in
theorem natdiv_odd.calls (a0 : Int) (r : Bool) (w : World) (h : natdiv_odd.f a0 = some r) :
  Calls Tryd.prog 67 #[.int .i64 a0] w fun e w' => e = .returned (.bool r) ∧ Drawn0 w w' := by
 have H := h; rw [natdiv_odd.f] at H; clear h; by_cases c2 : a0 < 0
 ·
  rw [if_pos c2] at H; have c2b0 := decide_eq_true c2; clear c2; obtain rfl := Option.some.inj H; go_enter Tryd.func67, Tryd.ntmps67; go_wp2; go_ret; exact ⟨rf_, dr_⟩
 rw [if_neg c2] at H; have c2b0 := decide_eq_false c2; clear c2; obtain rfl := Option.some.inj H; go_enter Tryd.func67, Tryd.ntmps67; go_wp2; go_ret; exact ⟨rf_, dr_⟩
def natdiv_Shr.f (k : Nat) (l0 : List Int) (a1 : Int) : Option (List Int × Int) := (natdiv_odd.f a1).bind fun t259 => (if t259 = true then (some (([] : List Int), 4)) else ((natdiv_shr.f k l0 a1).bind fun t260 => (some (t260, 0))))
set_option maxHeartbeats 8000000 in
set_option maxRecDepth 100000 in
theorem natdiv_Shr.calls (k : Nat) (A0 : Option Addr) (c0 : Nat) (l0 : List Int) (a1 : Int) (r1 : List Int) (r2 : Int) (w : World) (hr0 : Kd.C (Kd.int .u64) w A0 l0.length l0) (hc0 : l0.length ≤ c0) (h : natdiv_Shr.f k l0 a1 = some (r1, r2)) :
  Calls Tryd.prog 19 #[.slice A0 l0.length c0, .int .i64 a1] w fun e w' => ∃ v0_ : Value, e = .returned (.tuple #[v0_, .int .i64 r2]) ∧ Kd.R (Kd.int .u64) 34 w' w.heap.size (fun _ => True) v0_ r1 ∧ Below w.heap.size w w' := by
 have R0 := Aside0.mk hr0; have C0 := Aside0.mk hc0; clear hr0 hc0; have HB := Aside0.mk (Below.refl w.heap.size w); have H := h; rw [natdiv_Shr.f] at H; clear h; replace H := bo_ H; obtain ⟨t259, A3, H⟩ := H; (try dsimp only at H); by_cases c4 : t259 = true
 ·
  subst c4; rw [if_pos rfl] at H; simp only [Option.some.injEq, Prod.mk.injEq] at H; obtain ⟨rfl, rfl⟩ := H; go_enter Tryd.func19, Tryd.ntmps19; go_wp2_with (first | ((with_reducible refine gate_callee (f := 67) rfl ?_); refine gl_ (some 7) rfl rfl Tryd.func67 (by kernel_rfl) rfl #[.int .i64 a1] rfl ?_; (with_reducible refine (natdiv_odd.calls a1 true _ A3.out).mono ?_); rintro e w' ⟨rfl, ⟨nd, rfl⟩⟩; refine ⟨_, rfl, ?_⟩)); go_ret2; exact ⟨_, er_, by first | exact Kd.R_nil _ _ _ _ _ | exact Kd.N_nil _ _ _ _ _ | exact Kd.V_nil _ _ _ _ _ | exact Kd.Q_nil _ _ _ _ _ | exact (by first | exact Kd.S_nil _ _ _ _ _ | exact Kd.R_nil _ _ _ _ _), bw_ HB⟩
 replace c4 := Bool.eq_false_iff.mpr c4; subst c4; rw [if_neg nt_] at H; replace H := bo_ H; obtain ⟨t260, A5, H⟩ := H; replace H : (some (t260, 0)) = some (r1, r2) := H; simp only [Option.some.injEq, Prod.mk.injEq] at H; obtain ⟨rfl, rfl⟩ := H; go_enter Tryd.func19, Tryd.ntmps19; go_wp2_with (first | ((with_reducible refine gate_callee (f := 67) rfl ?_); refine gl_ (some 7) rfl rfl Tryd.func67 (by kernel_rfl) rfl #[.int .i64 a1] rfl ?_; (with_reducible refine (natdiv_odd.calls a1 false _ A3.out).mono ?_); rintro e w' ⟨rfl, ⟨nd, rfl⟩⟩; refine ⟨_, rfl, ?_⟩) | ((with_reducible refine gate_callee (f := 66) rfl ?_); refine gl_ (some 10) rfl rfl Tryd.func66 (by kernel_rfl) rfl #[.slice A0 l0.length c0, .int .i64 a1] rfl ?_; (with_reducible refine (natdiv_shr.calls k _ _ l0 a1 t260 _ ?side1 ?side2 A5.out).mono ?_); (case side1 => exact cl_ R0.out); (case side2 => exact C0.out); rintro e w6 ⟨v261, rfl, ho0, hb⟩; refine ⟨_, rfl, ?_⟩; have O0 := Aside0.mk (Kd.R_lower ho0 (below_size (bw_ HB))); replace HB := bs_ HB hb; (try clear hb ho0))); go_ret2; exact ⟨_, er_, rl_ O0, bw_ HB⟩
def natdiv_Shl.f (k : Nat) (l0 : List Int) (a1 : Int) : Option (List Int × Int) := (natdiv_odd.f a1).bind fun t263 => (if t263 = true then (some (([] : List Int), 4)) else ((natdiv_shl.f k l0 a1).bind fun t264 => (some (t264, 0))))
set_option maxHeartbeats 8000000 in
set_option maxRecDepth 100000 in
theorem natdiv_Shl.calls (k : Nat) (A0 : Option Addr) (c0 : Nat) (l0 : List Int) (a1 : Int) (r1 : List Int) (r2 : Int) (w : World) (hr0 : Kd.C (Kd.int .u64) w A0 l0.length l0) (hc0 : l0.length ≤ c0) (h : natdiv_Shl.f k l0 a1 = some (r1, r2)) :
  Calls Tryd.prog 20 #[.slice A0 l0.length c0, .int .i64 a1] w fun e w' => ∃ v0_ : Value, e = .returned (.tuple #[v0_, .int .i64 r2]) ∧ Kd.R (Kd.int .u64) 34 w' w.heap.size (fun _ => True) v0_ r1 ∧ Below w.heap.size w w' := by
 have R0 := Aside0.mk hr0; have C0 := Aside0.mk hc0; clear hr0 hc0; have HB := Aside0.mk (Below.refl w.heap.size w); have H := h; rw [natdiv_Shl.f] at H; clear h; replace H := bo_ H; obtain ⟨t263, A3, H⟩ := H; (try dsimp only at H); by_cases c4 : t263 = true
 ·
  subst c4; rw [if_pos rfl] at H; simp only [Option.some.injEq, Prod.mk.injEq] at H; obtain ⟨rfl, rfl⟩ := H; go_enter Tryd.func20, Tryd.ntmps20; go_wp2_with (first | ((with_reducible refine gate_callee (f := 67) rfl ?_); refine gl_ (some 7) rfl rfl Tryd.func67 (by kernel_rfl) rfl #[.int .i64 a1] rfl ?_; (with_reducible refine (natdiv_odd.calls a1 true _ A3.out).mono ?_); rintro e w' ⟨rfl, ⟨nd, rfl⟩⟩; refine ⟨_, rfl, ?_⟩)); go_ret2; exact ⟨_, er_, by first | exact Kd.R_nil _ _ _ _ _ | exact Kd.N_nil _ _ _ _ _ | exact Kd.V_nil _ _ _ _ _ | exact Kd.Q_nil _ _ _ _ _ | exact (by first | exact Kd.S_nil _ _ _ _ _ | exact Kd.R_nil _ _ _ _ _), bw_ HB⟩
 replace c4 := Bool.eq_false_iff.mpr c4; subst c4; rw [if_neg nt_] at H; replace H := bo_ H; obtain ⟨t264, A5, H⟩ := H; replace H : (some (t264, 0)) = some (r1, r2) := H; simp only [Option.some.injEq, Prod.mk.injEq] at H; obtain ⟨rfl, rfl⟩ := H; go_enter Tryd.func20, Tryd.ntmps20; go_wp2_with (first | ((with_reducible refine gate_callee (f := 67) rfl ?_); refine gl_ (some 7) rfl rfl Tryd.func67 (by kernel_rfl) rfl #[.int .i64 a1] rfl ?_; (with_reducible refine (natdiv_odd.calls a1 false _ A3.out).mono ?_); rintro e w' ⟨rfl, ⟨nd, rfl⟩⟩; refine ⟨_, rfl, ?_⟩) | ((with_reducible refine gate_callee (f := 63) rfl ?_); refine gl_ (some 10) rfl rfl Tryd.func63 (by kernel_rfl) rfl #[.slice A0 l0.length c0, .int .i64 a1] rfl ?_; (with_reducible refine (natdiv_shl.calls k _ _ l0 a1 t264 _ ?side1 ?side2 A5.out).mono ?_); (case side1 => exact cl_ R0.out); (case side2 => exact C0.out); rintro e w6 ⟨v265, rfl, ho0, hb⟩; refine ⟨_, rfl, ?_⟩; have O0 := Aside0.mk (Kd.R_lower ho0 (below_size (bw_ HB))); replace HB := bs_ HB hb; (try clear hb ho0))); go_ret2; exact ⟨_, er_, rl_ O0, bw_ HB⟩
def vernierref01_Same.l0 : Nat → List Int → List Int → Int → Option (Bool)
 | 0, _, _, _ => none
 | k + 1, x0, x1, x5 => if x5 < (x0.length : Int) then (if 0 ≤ x5 then (if x5 < (x1.length : Int) then (if (rd x0 x5) = (rd x1 x5) then (vernierref01_Same.l0 k x0 x1 (wrap64 (x5 + 1))) else (some false)) else (none)) else (none)) else (some true)
def vernierref01_Same.f (k : Nat) (l0 : List Int) (l1 : List Int) : Option (Bool) := if (l0.length : Int) = (l1.length : Int) then (vernierref01_Same.l0 k l0 l1 0) else (some false)
set_option maxHeartbeats 8000000 in
set_option maxRecDepth 100000 in
theorem vernierref01_Same.calls (k : Nat) (A0 : Option Addr) (c0 : Nat) (l0 : List Int) (A1 : Option Addr) (c1 : Nat) (l1 : List Int) (r : Bool) (w : World) (hr0 : Kd.C (Kd.int .u64) w A0 l0.length l0) (hc0 : l0.length ≤ c0) (hr1 : Kd.C (Kd.int .u64) w A1 l1.length l1) (hc1 : l1.length ≤ c1) (h : vernierref01_Same.f k l0 l1 = some r) :
  Calls Tryd.prog 21 #[.slice A0 l0.length c0, .slice A1 l1.length c1] w fun e w' => e = .returned (.bool r) ∧ Drawn0 w w' := by
 have R0 := Aside0.mk hr0; have C0 := Aside0.mk hc0; clear hr0 hc0; have R1 := Aside0.mk hr1; have C1 := Aside0.mk hc1; clear hr1 hc1; have H := h; rw [vernierref01_Same.f] at H; clear h; by_cases c3 : (l0.length : Int) = (l1.length : Int)
 ·
  rw [if_pos c3] at H; obtain ⟨c3b0, c3b1⟩ := q1_ c3; (have c3b2 : (l0.length == l1.length) = true := by first | simpa using c3 | (simp at c3 ⊢; omega)); clear c3; have H' := Aside0.mk H; clear H; go_enter Tryd.func21, Tryd.ntmps21; go_wp2; (repeat (go_quiet (fail); try go_wp2)); go_loopg [5] k (fun kq v5 w' => ∃ (x5_1 : Int), v5 = .int .i64 x5_1 ∧ Aside0 (vernierref01_Same.l0 kq l0 l1 x5_1 = some r) ∧ Aside0 (kq ≤ k) ∧ Drawn0 w w'); case atStart => exact ⟨(0), rf_, H', ⟨Nat.le_refl _⟩, dr_⟩
  case round =>
   clear H'; (try clear c1); (try clear c3); (try clear c3b0); (try clear c3b1); (try clear c3b2); obtain ⟨x5_1, rfl, HA, HK1, ⟨m1, rfl⟩⟩ := hrel; cases gk with
   | zero => exact absurd HA.out (by simp [vernierref01_Same.l0])
   | succ k1 =>
    have H := HA.out; clear HA; simp only [vernierref01_Same.l0] at H; by_cases c4 : x5_1 < (l0.length : Int)
    ·
     rw [if_pos c4] at H; have c4b0 := decide_eq_true c4; clear c4; by_cases c5 : 0 ≤ x5_1
     ·
      rw [if_pos c5] at H; have c5b0 := decide_eq_true c5; clear c5; by_cases c6 : x5_1 < (l1.length : Int)
      ·
       rw [if_pos c6] at H; have c6b0 := decide_eq_true c6; clear c6; by_cases c7 : (rd l0 x5_1) = (rd l1 x5_1)
       ·
        rw [if_pos c7] at H; obtain ⟨c7b0, c7b1⟩ := q1_ c7; clear c7; have H' := Aside0.mk H; clear H; have p267 : 0 ≤ (x5_1 : Int) := od_; have q267 : x5_1 < (l0.length : Int) := od_; obtain ⟨ad267, e267, hx267_0⟩ := Kd.at_int R0.out x5_1 p267 q267; cases e267
        replace p267 := eq_true p267; replace q267 := eq_true q267; have p268 : 0 ≤ (x5_1 : Int) := od_; have q268 : x5_1 < (l1.length : Int) := od_; obtain ⟨ad268, e268, hx268_0⟩ := Kd.at_int R1.out x5_1 p268 q268; cases e268
        replace p268 := eq_true p268; replace q268 := eq_true q268; go_wp2; (repeat (go_quiet (fail); try go_wp2)); go_roundg k1; case measure => have := HK1.out; omega
        case rel => exact ⟨(wrap64 (x5_1 + 1)), rf_, H', ⟨by have := HK1.out; omega⟩, dr_⟩
       rw [if_neg c7] at H; obtain ⟨c7b0, c7b1⟩ := q0_ c7; obtain rfl := Option.some.inj H; have p267 : 0 ≤ (x5_1 : Int) := od_; have q267 : x5_1 < (l0.length : Int) := od_; obtain ⟨ad267, e267, hx267_0⟩ := Kd.at_int R0.out x5_1 p267 q267; cases e267
       replace p267 := eq_true p267; replace q267 := eq_true q267; have p268 : 0 ≤ (x5_1 : Int) := od_; have q268 : x5_1 < (l1.length : Int) := od_; obtain ⟨ad268, e268, hx268_0⟩ := Kd.at_int R1.out x5_1 p268 q268; cases e268
       replace p268 := eq_true p268; replace q268 := eq_true q268; go_wp2; (repeat (go_quiet (fail); try go_wp2)); go_ret; exact ⟨rf_, dr_⟩
      rw [if_neg c6] at H; exact absurd H (by simp)
     rw [if_neg c5] at H; exact absurd H (by simp)
    rw [if_neg c4] at H; have c4b0 := decide_eq_false c4; clear c4; obtain rfl := Option.some.inj H; go_wp2; (repeat (go_quiet (fail); try go_wp2)); go_ret; exact ⟨rf_, dr_⟩
 rw [if_neg c3] at H; obtain ⟨c3b0, c3b1⟩ := q0_ c3; (have c3b2 : (l0.length == l1.length) = false := by first | simpa using c3 | (simp at c3 ⊢; omega)); obtain rfl := Option.some.inj H; go_enter Tryd.func21, Tryd.ntmps21; go_wp2; (repeat (go_quiet (fail); try go_wp2)); go_ret; exact ⟨rf_, dr_⟩
end Go.Proofs.YtjgdpjbkmcjbcaaDoor.PG
end
section
namespace Go.Proofs.YtjgdpjbkmcjbcaaDoor.PG
open Go.RowKit Go.Proofs.YtjgdpjbkmcjbcaaDoorW.PrintWords Go.Proofs.YtjgdpjbkmcjbcaaDoorW.PrintLast Go.Proofs.YtjgdpjbkmcjbcaaDoorW.PrintMore
attribute [local go_sem] max2_int min2_int max_two min_two max_three min_three max_four min_four
set_option linter.unusedVariables false
set_option linter.unusedSimpArgs false
attribute [local go_sem] fld139_1
def dyadic_Check.f (a0_0 : Bool) (l0_1 : List Int) (a0_2 : Int) : Option (Int) := if a0_2 < (-16384) then (some 9) else (if a0_2 > 16384 then (some 9) else (if (l0_1.length : Int) > 1024 then (some 9) else (some 0)))
set_option maxHeartbeats 8000000 in
set_option maxRecDepth 100000 in
theorem dyadic_Check.calls (a0_0 : Bool) (A0_1 : Option Addr) (c0_1 : Nat) (l0_1 : List Int) (a0_2 : Int) (r : Int) (w : World) (hr0_1 : Kd.C (Kd.int .u64) w A0_1 l0_1.length l0_1) (hc0_1 : l0_1.length ≤ c0_1) (h : dyadic_Check.f a0_0 l0_1 a0_2 = some r) :
  Calls Tryd.prog 32 #[.agg #[.bool a0_0, .slice A0_1 l0_1.length c0_1, .int .i64 a0_2]] w fun e w' => e = .returned (.int .i64 r) ∧ Below w.heap.size w w' := by
 have hu36 := Tryd.underlying36; have R0 := Aside0.mk hr0_1; have C0 := Aside0.mk hc0_1; clear hr0_1 hc0_1; have HB := Aside0.mk (Below.refl w.heap.size w); have H := h; rw [dyadic_Check.f] at H; clear h; by_cases c2 : a0_2 < (-16384)
 ·
  rw [if_pos c2] at H; have c2b0 := decide_eq_true c2; clear c2; obtain rfl := Option.some.inj H; go_enter Tryd.func32, Tryd.ntmps32; go_wp2_with (first | ((with_reducible refine gate_dst (N := 1) rfl ?_); (try (refine gate_guard (by rfl) ?_; dsimp only)); refine box_event ?hg (N := 1) ?hd (cs := #[.bool a0_0, .slice A0_1 l0_1.length c0_1, .int .i64 a0_2]) (t := 36) ?hr ?_; (case hd => rfl); (case hg => rfl); (case hr => first | (go_simp; done) | (go_simp; rfl)); intro g0 hg w3 hbox hb; have K0 := Aside0.mk (hbox); have G0 := gw_ hg HB; have E0 := gw_ hg HB; replace HB := bs_ HB hb; clear hb hbox hg; obtain ⟨z0, z1, z2, f0, f1, f2⟩ := c3_ K0)); go_ret; exact ⟨er_, bw_ HB⟩
 rw [if_neg c2] at H; have c2b0 := decide_eq_false c2; clear c2; by_cases c5 : a0_2 > 16384
 ·
  rw [if_pos c5] at H; have c5b0 : decide (16384 < a0_2) = true := decide_eq_true c5; clear c5; obtain rfl := Option.some.inj H; go_enter Tryd.func32, Tryd.ntmps32; go_wp2_with (first | ((with_reducible refine gate_dst (N := 1) rfl ?_); (try (refine gate_guard (by rfl) ?_; dsimp only)); refine box_event ?hg (N := 1) ?hd (cs := #[.bool a0_0, .slice A0_1 l0_1.length c0_1, .int .i64 a0_2]) (t := 36) ?hr ?_; (case hd => rfl); (case hg => rfl); (case hr => first | (go_simp; done) | (go_simp; rfl)); intro g0 hg w6 hbox hb; have K0 := Aside0.mk (hbox); have G0 := gw_ hg HB; have E0 := gw_ hg HB; replace HB := bs_ HB hb; clear hb hbox hg; obtain ⟨z3, z4, z5, f3, f4, f5⟩ := c3_ K0)); go_ret; exact ⟨er_, bw_ HB⟩
 rw [if_neg c5] at H; have c5b0 : decide (16384 < a0_2) = false := decide_eq_false c5; clear c5; by_cases c8 : (l0_1.length : Int) > 1024
 ·
  rw [if_pos c8] at H; have c8b0 : decide (1024 < (l0_1.length : Int)) = true := decide_eq_true c8; have c8b1 : decide (1024 < l0_1.length) = true := decide_eq_true (by omega); clear c8; obtain rfl := Option.some.inj H; go_enter Tryd.func32, Tryd.ntmps32; go_wp2_with (first | ((with_reducible refine gate_dst (N := 1) rfl ?_); (try (refine gate_guard (by rfl) ?_; dsimp only)); refine box_event ?hg (N := 1) ?hd (cs := #[.bool a0_0, .slice A0_1 l0_1.length c0_1, .int .i64 a0_2]) (t := 36) ?hr ?_; (case hd => rfl); (case hg => rfl); (case hr => first | (go_simp; done) | (go_simp; rfl)); intro g0 hg w9 hbox hb; have K0 := Aside0.mk (hbox); have G0 := gw_ hg HB; have E0 := gw_ hg HB; replace HB := bs_ HB hb; clear hb hbox hg; obtain ⟨z6, z7, z8, f6, f7, f8⟩ := c3_ K0)); go_ret; exact ⟨er_, bw_ HB⟩
 rw [if_neg c8] at H; have c8b0 : decide (1024 < (l0_1.length : Int)) = false := decide_eq_false c8; have c8b1 : decide (1024 < l0_1.length) = false := decide_eq_false (by omega); clear c8; obtain rfl := Option.some.inj H; go_enter Tryd.func32, Tryd.ntmps32; go_wp2_with (first | ((with_reducible refine gate_dst (N := 1) rfl ?_); (try (refine gate_guard (by rfl) ?_; dsimp only)); refine box_event ?hg (N := 1) ?hd (cs := #[.bool a0_0, .slice A0_1 l0_1.length c0_1, .int .i64 a0_2]) (t := 36) ?hr ?_; (case hd => rfl); (case hg => rfl); (case hr => first | (go_simp; done) | (go_simp; rfl)); intro g0 hg w11 hbox hb; have K0 := Aside0.mk (hbox); have G0 := gw_ hg HB; have E0 := gw_ hg HB; replace HB := bs_ HB hb; clear hb hbox hg; obtain ⟨z9, za, zb, f9, fa, fb⟩ := c3_ K0)); go_ret; exact ⟨er_, bw_ HB⟩
def whole_Sign.f (k : Nat) (a0_0 : Bool) (l0_1 : List Int) : Option (Int) := (nat_Bits.f k l0_1).bind fun t316 => (if t316 = 0 then (some 0) else (if a0_0 = true then (some (-1)) else (some 1)))
set_option maxHeartbeats 8000000 in
set_option maxRecDepth 100000 in
theorem whole_Sign.calls (k : Nat) (a0_0 : Bool) (A0_1 : Option Addr) (c0_1 : Nat) (l0_1 : List Int) (r : Int) (w : World) (hr0_1 : Kd.C (Kd.int .u64) w A0_1 l0_1.length l0_1) (hc0_1 : l0_1.length ≤ c0_1) (h : whole_Sign.f k a0_0 l0_1 = some r) :
  Calls Tryd.prog 107 #[.agg #[.bool a0_0, .slice A0_1 l0_1.length c0_1]] w fun e w' => e = .returned (.int .i64 r) ∧ Below w.heap.size w w' := by
 have hu92 := Tryd.underlying92; have R0 := Aside0.mk hr0_1; have C0 := Aside0.mk hc0_1; clear hr0_1 hc0_1; have HB := Aside0.mk (Below.refl w.heap.size w); have H := h; rw [whole_Sign.f] at H; clear h; replace H := bo_ H; obtain ⟨t316, A2, H⟩ := H; (try dsimp only at H); by_cases c3 : t316 = 0
 ·
  rw [if_pos c3] at H; obtain ⟨c3b0, c3b1⟩ := q1_ c3; clear c3; obtain rfl := Option.some.inj H; go_enter Tryd.func107, Tryd.ntmps107; go_wp2_with (first | ((with_reducible refine gate_dst (N := 1) rfl ?_); refine box_event ?hg (N := 1) ?hd (cs := #[.bool a0_0, .slice A0_1 l0_1.length c0_1]) (t := 92) ?hr ?_; (case hd => rfl); (case hg => rfl); (case hr => first | (go_simp; done) | (go_simp; rfl)); intro g0 hg w4 hbox hb; have K0 := Aside0.mk (hbox); have G0 := gw_ hg HB; have E0 := gw_ hg HB; replace HB := bs_ HB hb; clear hb hbox hg; obtain ⟨z0, z1, f0, f1⟩ := c2_ K0) | ((with_reducible refine gate_callee (f := 16) rfl ?_); refine gl_ (some 6) rfl rfl Tryd.func16 (by kernel_rfl) rfl #[.slice A0_1 l0_1.length c0_1] rfl ?_; (with_reducible refine (nat_Bits.calls k _ _ l0_1 t316 _ ?side1 ?side2 A2.out).mono ?_); (case side1 => exact cl_ (Kd.C_below R0.out HB.out)); (case side2 => exact C0.out); rintro e w' ⟨rfl, ⟨nd, rfl⟩⟩; refine ⟨_, rfl, ?_⟩)); go_ret; exact ⟨er_, bw_ HB⟩
 rw [if_neg c3] at H; obtain ⟨c3b0, c3b1⟩ := q0_ c3; by_cases c6 : a0_0 = true
 ·
  subst c6; rw [if_pos rfl] at H; obtain rfl := Option.some.inj H; go_enter Tryd.func107, Tryd.ntmps107; go_wp2_with (first | ((with_reducible refine gate_dst (N := 1) rfl ?_); refine box_event ?hg (N := 1) ?hd (cs := #[.bool true, .slice A0_1 l0_1.length c0_1]) (t := 92) ?hr ?_; (case hd => rfl); (case hg => rfl); (case hr => first | (go_simp; done) | (go_simp; rfl)); intro g0 hg w7 hbox hb; have K0 := Aside0.mk (hbox); have G0 := gw_ hg HB; have E0 := gw_ hg HB; replace HB := bs_ HB hb; clear hb hbox hg; obtain ⟨z2, z3, f2, f3⟩ := c2_ K0) | ((with_reducible refine gate_callee (f := 16) rfl ?_); refine gl_ (some 6) rfl rfl Tryd.func16 (by kernel_rfl) rfl #[.slice A0_1 l0_1.length c0_1] rfl ?_; (with_reducible refine (nat_Bits.calls k _ _ l0_1 t316 _ ?side1 ?side2 A2.out).mono ?_); (case side1 => exact cl_ (Kd.C_below R0.out HB.out)); (case side2 => exact C0.out); rintro e w' ⟨rfl, ⟨nd, rfl⟩⟩; refine ⟨_, rfl, ?_⟩)); go_ret; exact ⟨er_, bw_ HB⟩
 replace c6 := Bool.eq_false_iff.mpr c6; subst c6; rw [if_neg nt_] at H; obtain rfl := Option.some.inj H; go_enter Tryd.func107, Tryd.ntmps107; go_wp2_with (first | ((with_reducible refine gate_dst (N := 1) rfl ?_); refine box_event ?hg (N := 1) ?hd (cs := #[.bool false, .slice A0_1 l0_1.length c0_1]) (t := 92) ?hr ?_; (case hd => rfl); (case hg => rfl); (case hr => first | (go_simp; done) | (go_simp; rfl)); intro g0 hg w9 hbox hb; have K0 := Aside0.mk (hbox); have G0 := gw_ hg HB; have E0 := gw_ hg HB; replace HB := bs_ HB hb; clear hb hbox hg; obtain ⟨z4, z5, f4, f5⟩ := c2_ K0) | ((with_reducible refine gate_callee (f := 16) rfl ?_); refine gl_ (some 6) rfl rfl Tryd.func16 (by kernel_rfl) rfl #[.slice A0_1 l0_1.length c0_1] rfl ?_; (with_reducible refine (nat_Bits.calls k _ _ l0_1 t316 _ ?side1 ?side2 A2.out).mono ?_); (case side1 => exact cl_ (Kd.C_below R0.out HB.out)); (case side2 => exact C0.out); rintro e w' ⟨rfl, ⟨nd, rfl⟩⟩; refine ⟨_, rfl, ?_⟩)); go_ret; exact ⟨er_, bw_ HB⟩
end Go.Proofs.YtjgdpjbkmcjbcaaDoor.PG
end
