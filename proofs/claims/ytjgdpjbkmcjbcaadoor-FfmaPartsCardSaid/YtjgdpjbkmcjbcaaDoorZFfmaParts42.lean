/- A part of a proof. -/
import Derived.Test.YtjgdpjbkmcjbcaaDoorZFfmaParts39
namespace Go.Proofs.YtjgdpjbkmcjbcaaDoor.PG
open Go.RowKit Go.Proofs.YtjgdpjbkmcjbcaaDoorW.PrintWords Go.Proofs.YtjgdpjbkmcjbcaaDoorW.PrintLast Go.Proofs.YtjgdpjbkmcjbcaaDoorW.PrintMore
attribute [local go_sem] max2_int min2_int max_two min_two max_three min_three max_four min_four
set_option linter.unusedVariables false
set_option linter.unusedSimpArgs false
attribute [local go_sem] fld139_1
def vernierref06_Class.j0 : Nat → Int → Int → Bool → Option (Int)
 | 0, _, _, _ => none
 | k + 1, x3, x4, x10 => if x10 = true then (some 3) else (if x3 = 2047 then (some 2) else (if x3 = 0 then (if x4 = 0 then (some 0) else (some 1)) else (some 1)))
def vernierref06_Class.f (k : Nat) (a0 : Int) : Option (Int) := if (Int.tmod (IntKind.u64.wrap (Int.tdiv a0 4503599627370496)) 2048) = 2047 then (vernierref06_Class.j0 k (Int.tmod (IntKind.u64.wrap (Int.tdiv a0 4503599627370496)) 2048) (Int.tmod a0 4503599627370496) (decide ((Int.tmod a0 4503599627370496) > 0))) else (vernierref06_Class.j0 k (Int.tmod (IntKind.u64.wrap (Int.tdiv a0 4503599627370496)) 2048) (Int.tmod a0 4503599627370496) false)
set_option maxHeartbeats 8000000 in
set_option maxRecDepth 100000 in
theorem vernierref06_Class.calls (k : Nat) (a0 : Int) (r : Int) (w : World) (h : vernierref06_Class.f k a0 = some r) :
  Calls Tryd.prog 56 #[.int .u64 a0] w fun e w' => e = .returned (.int .i64 r) ∧ Drawn0 w w' := by
 have H := h; rw [vernierref06_Class.f] at H; clear h; have C0 := Aside0.mk H; clear H; go_enter Tryd.func56, Tryd.ntmps56; go_upto_region 2 with (fail); go_cut [10] (fun v10 wc => ∃ (kq : Nat) (x10_1 : Bool), v10 = .bool x10_1 ∧ Aside0 (vernierref06_Class.j0 kq (Int.tmod (IntKind.u64.wrap (Int.tdiv a0 4503599627370496)) 2048) (Int.tmod a0 4503599627370496) x10_1 = some r) ∧ Aside0 (kq ≤ k) ∧ Drawn0 w wc)
 case first =>
  have H := C0.out; clear C0; by_cases c3 : (Int.tmod (IntKind.u64.wrap (Int.tdiv a0 4503599627370496)) 2048) = 2047
  ·
   rw [if_pos c3] at H; obtain ⟨c3b0, c3b1⟩ := q1_ c3; clear c3; (first | rw [c3b0] | (simp only [i64_w, i32_w]; rw [c3b0]) | skip); have H' := Aside0.mk H; clear H; go_wp2; go_meet; case rel => exact ⟨_, (decide ((Int.tmod a0 4503599627370496) > 0)), rf_, H', ⟨ol_⟩, dr_⟩
  rw [if_neg c3] at H; obtain ⟨c3b0, c3b1⟩ := q0_ c3; (first | rw [c3b0] | (simp only [i64_w, i32_w]; rw [c3b0]) | skip); have H' := Aside0.mk H; clear H; go_wp2; go_meet; case rel => exact ⟨_, (false), rf_, H', ⟨ol_⟩, dr_⟩
 case rest =>
  clear C0; obtain ⟨kq, x10_1, rfl, HA, HJ1, ⟨mc1, rfl⟩⟩ := hcut; cases kq with
  | zero => exact absurd HA.out (by simp [vernierref06_Class.j0])
  | succ kj1 =>
   have H := HA.out; clear HA; simp only [vernierref06_Class.j0] at H; by_cases c4 : x10_1 = true
   ·
    subst c4; rw [if_pos rfl] at H; obtain rfl := Option.some.inj H; go_wp2; go_ret; exact ⟨rf_, dr_⟩
   replace c4 := Bool.eq_false_iff.mpr c4; subst c4; rw [if_neg nt_] at H; by_cases c5 : (Int.tmod (IntKind.u64.wrap (Int.tdiv a0 4503599627370496)) 2048) = 2047
   ·
    rw [if_pos c5] at H; obtain ⟨c5b0, c5b1⟩ := q1_ c5; clear c5; obtain rfl := Option.some.inj H; go_wp2; go_ret; exact ⟨rf_, dr_⟩
   rw [if_neg c5] at H; obtain ⟨c5b0, c5b1⟩ := q0_ c5; by_cases c6 : (Int.tmod (IntKind.u64.wrap (Int.tdiv a0 4503599627370496)) 2048) = 0
   ·
    rw [if_pos c6] at H; obtain ⟨c6b0, c6b1⟩ := q1_ c6; clear c6; by_cases c7 : (Int.tmod a0 4503599627370496) = 0
    ·
     rw [if_pos c7] at H; obtain ⟨c7b0, c7b1⟩ := q1_ c7; clear c7; obtain rfl := Option.some.inj H; go_wp2; go_ret; exact ⟨rf_, dr_⟩
    rw [if_neg c7] at H; obtain ⟨c7b0, c7b1⟩ := q0_ c7; obtain rfl := Option.some.inj H; go_wp2; go_ret; exact ⟨rf_, dr_⟩
   rw [if_neg c6] at H; obtain ⟨c6b0, c6b1⟩ := q0_ c6; obtain rfl := Option.some.inj H; go_wp2; go_ret; exact ⟨rf_, dr_⟩
def vernierref06_Zero.f (a0 : Bool) : Option (Int) := if a0 = true then (some 9223372036854775808) else (some 0)
set_option maxHeartbeats 8000000 in
set_option maxRecDepth 100000 in
theorem vernierref06_Zero.calls (a0 : Bool) (r : Int) (w : World) (h : vernierref06_Zero.f a0 = some r) :
  Calls Tryd.prog 93 #[.bool a0] w fun e w' => e = .returned (.int .u64 r) ∧ Drawn0 w w' := by
 have H := h; rw [vernierref06_Zero.f] at H; clear h; by_cases c2 : a0 = true
 ·
  subst c2; rw [if_pos rfl] at H; obtain rfl := Option.some.inj H; go_enter Tryd.func93, Tryd.ntmps93; go_wp2; go_ret; exact ⟨rf_, dr_⟩
 replace c2 := Bool.eq_false_iff.mpr c2; subst c2; rw [if_neg nt_] at H; obtain rfl := Option.some.inj H; go_enter Tryd.func93, Tryd.ntmps93; go_wp2; go_ret; exact ⟨rf_, dr_⟩
def vernierref06_Inf.f (a0 : Bool) : Option (Int) := (vernierref06_Zero.f a0).bind fun t1107 => (some (IntKind.u64.wrap (t1107 + 9218868437227405312)))
set_option maxHeartbeats 8000000 in
set_option maxRecDepth 100000 in
theorem vernierref06_Inf.calls (a0 : Bool) (r : Int) (w : World) (h : vernierref06_Inf.f a0 = some r) :
  Calls Tryd.prog 90 #[.bool a0] w fun e w' => e = .returned (.int .u64 r) ∧ Drawn0 w w' := by
 have H := h; rw [vernierref06_Inf.f] at H; clear h; replace H := bo_ H; obtain ⟨t1107, A2, H⟩ := H; (try dsimp only at H); obtain rfl := Option.some.inj H; go_enter Tryd.func90, Tryd.ntmps90; go_wp2_with (first | ((with_reducible refine gate_callee (f := 93) rfl ?_); refine gl_ (some 4) rfl rfl Tryd.func93 (by kernel_rfl) rfl #[.bool a0] rfl ?_; (with_reducible refine (vernierref06_Zero.calls a0 t1107 _ A2.out).mono ?_); rintro e w' ⟨rfl, ⟨nd, rfl⟩⟩; refine ⟨_, rfl, ?_⟩)); go_ret; exact ⟨rf_, dr_⟩
def vernierref06_Split.f (a0 : Int) : Option (Bool × Int × Int) := if (wrap64 (Int.tmod (IntKind.u64.wrap (Int.tdiv a0 4503599627370496)) 2048)) = 0 then (some (decide (a0 ≥ 9223372036854775808), Int.tmod a0 4503599627370496, (-1074))) else (some (decide (a0 ≥ 9223372036854775808), IntKind.u64.wrap ((Int.tmod a0 4503599627370496) + 4503599627370496), wrap64 ((wrap64 (Int.tmod (IntKind.u64.wrap (Int.tdiv a0 4503599627370496)) 2048)) - 1075)))
set_option maxHeartbeats 8000000 in
set_option maxRecDepth 100000 in
theorem vernierref06_Split.calls (a0 : Int) (r1 : Bool) (r2 : Int) (r3 : Int) (w : World) (h : vernierref06_Split.f a0 = some (r1, r2, r3)) :
  Calls Tryd.prog 91 #[.int .u64 a0] w fun e w' => e = .returned (.tuple #[.bool r1, .int .u64 r2, .int .i64 r3]) ∧ Drawn0 w w' := by
 have H := h; rw [vernierref06_Split.f] at H; clear h; by_cases c2 : (wrap64 (Int.tmod (IntKind.u64.wrap (Int.tdiv a0 4503599627370496)) 2048)) = 0
 ·
  rw [if_pos c2] at H; obtain ⟨c2b0, c2b1⟩ := q1_ c2; clear c2; simp only [Option.some.injEq, Prod.mk.injEq] at H; obtain ⟨rfl, rfl, rfl⟩ := H; go_enter Tryd.func91, Tryd.ntmps91; go_wp2; go_ret3; exact ⟨rf_, dr_⟩
 rw [if_neg c2] at H; obtain ⟨c2b0, c2b1⟩ := q0_ c2; simp only [Option.some.injEq, Prod.mk.injEq] at H; obtain ⟨rfl, rfl, rfl⟩ := H; go_enter Tryd.func91, Tryd.ntmps91; go_wp2; go_ret3; exact ⟨rf_, dr_⟩
def vernierref06_big.j0 : Nat → Bool → Bool → Option (Int × Int)
 | 0, _, _ => none
 | k + 1, x0, x22 => if x22 = true then ((vernierref06_Inf.f x0).bind fun t1108 => (some (IntKind.u64.wrap (t1108 - 1), 20))) else ((vernierref06_Inf.f x0).bind fun t1109 => (some (t1109, 20)))
def vernierref06_big.f (k : Nat) (a0 : Bool) (a1 : Int) : Option (Int × Int) := if a1 = 2 then (vernierref06_big.j0 k a0 true) else (if a1 = 3 then (if a0 = true then (vernierref06_big.j0 k a0 true) else (if a1 = 4 then (vernierref06_big.j0 k a0 (!a0)) else (vernierref06_big.j0 k a0 false))) else (if a1 = 4 then (vernierref06_big.j0 k a0 (!a0)) else (vernierref06_big.j0 k a0 false)))
set_option maxHeartbeats 8000000 in
set_option maxRecDepth 100000 in
theorem vernierref06_big.calls (k : Nat) (a0 : Bool) (a1 : Int) (r1 : Int) (r2 : Int) (w : World) (h : vernierref06_big.f k a0 a1 = some (r1, r2)) :
  Calls Tryd.prog 97 #[.bool a0, .int .i64 a1] w fun e w' => e = .returned (.tuple #[.int .u64 r1, .int .i64 r2]) ∧ Below w.heap.size w w' := by
 have HB := Aside0.mk (Below.refl w.heap.size w); have H := h; rw [vernierref06_big.f] at H; clear h; have C0 := Aside0.mk H; clear H; go_enter Tryd.func97, Tryd.ntmps97; go_upto_region 1 with (fail); go_cut [22] (fun v22 wc => ∃ (kq : Nat) (x22_2 : Bool), v22 = .bool x22_2 ∧ Aside0 (vernierref06_big.j0 kq a0 x22_2 = some (r1, r2)) ∧ Aside0 (kq ≤ k) ∧ Aside0 (Below w.heap.size w wc))
 case first =>
  have H := C0.out; clear C0; by_cases c4 : a1 = 2
  ·
   rw [if_pos c4] at H; obtain ⟨c4b0, c4b1⟩ := q1_ c4; clear c4; (first | rw [c4b0] | (simp only [i64_w, i32_w]; rw [c4b0]) | skip); have H' := Aside0.mk H; clear H; go_wp2; go_meet; case rel => exact ⟨_, (true), rf_, H', ⟨ol_⟩, ⟨bw_ HB⟩⟩
  rw [if_neg c4] at H; obtain ⟨c4b0, c4b1⟩ := q0_ c4; (first | rw [c4b0] | (simp only [i64_w, i32_w]; rw [c4b0]) | skip); by_cases c5 : a1 = 3
  ·
   rw [if_pos c5] at H; obtain ⟨c5b0, c5b1⟩ := q1_ c5; clear c5; by_cases c6 : a0 = true
   ·
    subst c6; rw [if_pos rfl] at H; have H' := Aside0.mk H; clear H; go_wp2; go_meet; case rel => exact ⟨_, (true), rf_, H', ⟨ol_⟩, ⟨bw_ HB⟩⟩
   replace c6 := Bool.eq_false_iff.mpr c6; subst c6; rw [if_neg nt_] at H; by_cases c7 : a1 = 4
   ·
    rw [if_pos c7] at H; obtain ⟨c7b0, c7b1⟩ := q1_ c7; clear c7; have H' := Aside0.mk H; clear H; go_wp2; go_meet; case rel => exact ⟨_, (!false), rf_, H', ⟨ol_⟩, ⟨bw_ HB⟩⟩
   rw [if_neg c7] at H; obtain ⟨c7b0, c7b1⟩ := q0_ c7; have H' := Aside0.mk H; clear H; go_wp2; go_meet; case rel => exact ⟨_, (false), rf_, H', ⟨ol_⟩, ⟨bw_ HB⟩⟩
  rw [if_neg c5] at H; obtain ⟨c5b0, c5b1⟩ := q0_ c5; by_cases c8 : a1 = 4
  ·
   rw [if_pos c8] at H; obtain ⟨c8b0, c8b1⟩ := q1_ c8; clear c8; have H' := Aside0.mk H; clear H; go_wp2; go_meet; case rel => exact ⟨_, (!a0), rf_, H', ⟨ol_⟩, ⟨bw_ HB⟩⟩
  rw [if_neg c8] at H; obtain ⟨c8b0, c8b1⟩ := q0_ c8; have H' := Aside0.mk H; clear H; go_wp2; go_meet; case rel => exact ⟨_, (false), rf_, H', ⟨ol_⟩, ⟨bw_ HB⟩⟩
 case rest =>
  clear C0; obtain ⟨kq, x22_2, rfl, HA, HJ2, HB⟩ := hcut; cases kq with
  | zero => exact absurd HA.out (by simp [vernierref06_big.j0])
  | succ kj2 =>
   have H := HA.out; clear HA; simp only [vernierref06_big.j0] at H; by_cases c9 : x22_2 = true
   ·
    subst c9; rw [if_pos rfl] at H; replace H := bo_ H; obtain ⟨t1108, A10, H⟩ := H; replace H : (some (IntKind.u64.wrap (t1108 - 1), 20)) = some (r1, r2) := H; simp only [Option.some.injEq, Prod.mk.injEq] at H; obtain ⟨rfl, rfl⟩ := H; go_wp2_with (first | ((with_reducible refine gate_callee (f := 90) rfl ?_); refine gl_ (some 24) rfl rfl Tryd.func90 (by kernel_rfl) rfl #[.bool a0] rfl ?_; (with_reducible refine (vernierref06_Inf.calls a0 t1108 _ A10.out).mono ?_); rintro e w' ⟨rfl, ⟨nd, rfl⟩⟩; refine ⟨_, rfl, ?_⟩)); go_ret2; exact ⟨er_, bw_ HB⟩
   replace c9 := Bool.eq_false_iff.mpr c9; subst c9; rw [if_neg nt_] at H; replace H := bo_ H; obtain ⟨t1109, A11, H⟩ := H; replace H : (some (t1109, 20)) = some (r1, r2) := H; simp only [Option.some.injEq, Prod.mk.injEq] at H; obtain ⟨rfl, rfl⟩ := H; go_wp2_with (first | ((with_reducible refine gate_callee (f := 90) rfl ?_); refine gl_ (some 27) rfl rfl Tryd.func90 (by kernel_rfl) rfl #[.bool a0] rfl ?_; (with_reducible refine (vernierref06_Inf.calls a0 t1109 _ A11.out).mono ?_); rintro e w' ⟨rfl, ⟨nd, rfl⟩⟩; refine ⟨_, rfl, ?_⟩)); go_ret2; exact ⟨er_, bw_ HB⟩
def vernierref06_shift.f (k : Nat) (l0 : List Int) (l1 : List Int) (a2 : Int) : Option (List Int × List Int) := if a2 ≥ 0 then ((vernierref01_Shl.f k l0 a2).bind fun t1110 => (some (t1110, l1))) else ((vernierref01_Shl.f k l1 (wrap64 (-a2))).bind fun t1113 => (some (l0, t1113)))
set_option maxHeartbeats 8000000 in
set_option maxRecDepth 100000 in
theorem vernierref06_shift.calls (k : Nat) (P0_ : Nat → Prop) (A0 : Option Addr) (c0 : Nat) (l0 : List Int) (P1_ : Nat → Prop) (A1 : Option Addr) (c1 : Nat) (l1 : List Int) (a2 : Int) (r1 : List Int) (r2 : List Int) (w : World) (hs0 : Kd.V (Kd.int .i64) 3 w w.heap.size (fun k_ => P0_ k_) (.slice A0 l0.length c0) l0) (hs1 : Kd.V (Kd.int .i64) 3 w w.heap.size (fun k_ => P1_ k_) (.slice A1 l1.length c1) l1) (h : vernierref06_shift.f k l0 l1 a2 = some (r1, r2)) :
  Calls Tryd.prog 98 #[.slice A0 l0.length c0, .slice A1 l1.length c1, .int .i64 a2] w fun e w' => ∃ v0_ v1_ : Value, e = .returned (.tuple #[v0_, v1_]) ∧ Kd.V (Kd.int .i64) 3 w' w.heap.size (fun k_ => ((P0_ k_ ∨ P1_ k_) ∨ w.heap.size ≤ k_)) v0_ r1 ∧ Kd.V (Kd.int .i64) 3 w' w.heap.size (fun k_ => ((P0_ k_ ∨ P1_ k_) ∨ w.heap.size ≤ k_)) v1_ r2 ∧ Below w.heap.size w w' := by
 have O0 := Aside0.mk (show Kd.V (Kd.int .i64) 3 w w.heap.size (fun k_ => ((P0_ k_ ∨ P1_ k_) ∨ w.heap.size ≤ k_)) (.slice A0 l0.length c0) l0 from Kd.V_mono hs0 (fun k_ hk => .inl (.inl hk))); have O1 := Aside0.mk (show Kd.V (Kd.int .i64) 3 w w.heap.size (fun k_ => ((P0_ k_ ∨ P1_ k_) ∨ w.heap.size ≤ k_)) (.slice A1 l1.length c1) l1 from Kd.V_mono hs1 (fun k_ hk => .inl (.inr hk))); have HB := Aside0.mk (Below.refl w.heap.size w); have H := h; rw [vernierref06_shift.f] at H; clear h; by_cases c4 : a2 ≥ 0
 ·
  rw [if_pos c4] at H; have c4b0 : decide (0 ≤ a2) = true := decide_eq_true c4; clear c4; replace H := bo_ H; obtain ⟨t1110, A5, H⟩ := H; replace H : (some (t1110, l1)) = some (r1, r2) := H; simp only [Option.some.injEq, Prod.mk.injEq] at H; obtain ⟨rfl, rfl⟩ := H; go_enter Tryd.func98, Tryd.ntmps98; go_wp2_with (first | ((with_reducible refine gate_callee (f := 42) rfl ?_); refine gl_ (some 12) rfl rfl Tryd.func42 (by kernel_rfl) rfl #[.slice A0 l0.length c0, .int .i64 a2] rfl ?_; (with_reducible refine (vernierref01_Shl.calls k _ _ l0 a2 t1110 _ ?side1 ?side2 A5.out).mono ?_); (case side1 => repeat (first | exact (Kd.V_reads' O0.out).2.2 | (with_reducible refine Kd.C_alloc ?_ _) | (with_reducible refine Kd.C_drewN ?_ _) | (with_reducible refine Kd.C_drew ?_))); (case side2 => exact (Kd.V_reads' O0.out).2.1); rintro e w6 ⟨v1111, rfl, ho0, hb⟩; refine ⟨_, rfl, ?_⟩; replace O0 := Aside0.mk (Kd.V_elder' (by (with_reducible repeat (first | apply Kd.V_alloc | apply Kd.V_drewN | apply Kd.V_drew)); exact O0.out) (Kd.R_base ho0) hb); replace O1 := Aside0.mk (Kd.V_elder' (by (with_reducible repeat (first | apply Kd.V_alloc | apply Kd.V_drewN | apply Kd.V_drew)); exact O1.out) (Kd.R_base ho0) hb); have O2 := Aside0.mk (Kd.R_lower (Kd.R_newM (M := fun k_ => (w.heap.size ≤ k_)) ho0 (below_size (bw_ HB)) (fun k_ h_ => h_)) (below_size (bw_ HB))); replace HB := bs_ HB hb; (try clear hb ho0))); go_ret2; exact ⟨_, _, er_, Kd.V_mono (Kd.R_V (by (with_reducible repeat (first | apply Kd.R_alloc | apply Kd.R_drewN | apply Kd.R_drew)); exact Kd.R_mono O2.out (fun _ hk => hk.1))) (fun k_ hk => by first | exact ⟨(.inr (hk.1)), hk.2⟩ | exact (.inr (hk))), by refine vz_ ?_; exact Kd.V_mono O1.out (fun _ hk => hk.1), bw_ HB⟩
 rw [if_neg c4] at H; have c4b0 : decide (0 ≤ a2) = false := decide_eq_false c4; clear c4; replace H := bo_ H; obtain ⟨t1113, A7, H⟩ := H; replace H : (some (l0, t1113)) = some (r1, r2) := H; simp only [Option.some.injEq, Prod.mk.injEq] at H; obtain ⟨rfl, rfl⟩ := H; go_enter Tryd.func98, Tryd.ntmps98; go_wp2_with (first | ((with_reducible refine gate_callee (f := 42) rfl ?_); refine gl_ (some 18) rfl rfl Tryd.func42 (by kernel_rfl) rfl #[.slice A1 l1.length c1, .int .i64 (wrap64 (-a2))] rfl ?_; (with_reducible refine (vernierref01_Shl.calls k _ _ l1 (wrap64 (-a2)) t1113 _ ?side1 ?side2 A7.out).mono ?_); (case side1 => repeat (first | exact (Kd.V_reads' O1.out).2.2 | (with_reducible refine Kd.C_alloc ?_ _) | (with_reducible refine Kd.C_drewN ?_ _) | (with_reducible refine Kd.C_drew ?_))); (case side2 => exact (Kd.V_reads' O1.out).2.1); rintro e w8 ⟨v1114, rfl, ho0, hb⟩; refine ⟨_, rfl, ?_⟩; replace O0 := Aside0.mk (Kd.V_elder' (by (with_reducible repeat (first | apply Kd.V_alloc | apply Kd.V_drewN | apply Kd.V_drew)); exact O0.out) (Kd.R_base ho0) hb); replace O1 := Aside0.mk (Kd.V_elder' (by (with_reducible repeat (first | apply Kd.V_alloc | apply Kd.V_drewN | apply Kd.V_drew)); exact O1.out) (Kd.R_base ho0) hb); have O3 := Aside0.mk (Kd.R_lower (Kd.R_newM (M := fun k_ => (w.heap.size ≤ k_)) ho0 (below_size (bw_ HB)) (fun k_ h_ => h_)) (below_size (bw_ HB))); replace HB := bs_ HB hb; (try clear hb ho0))); go_ret2; exact ⟨_, _, er_, by refine vz_ ?_; exact Kd.V_mono O0.out (fun _ hk => hk.1), Kd.V_mono (Kd.R_V (by (with_reducible repeat (first | apply Kd.R_alloc | apply Kd.R_drewN | apply Kd.R_drew)); exact Kd.R_mono O3.out (fun _ hk => hk.1))) (fun k_ hk => by first | exact ⟨(.inr (hk.1)), hk.2⟩ | exact (.inr (hk))), bw_ HB⟩
def vernierref01_Few.l0 : Nat → List Int → List Int → Int → Int → Option (Int × List Int)
 | 0, _, _, _, _ => none
 | k + 1, x0, x1, x6, x7 => if x7 ≥ 0 then ((vernierref01_Shl.f k x1 x7).bind fun t1116 => ((vernierref01_Cmp.f k x0 t1116).bind fun t1119 => (if t1119 ≥ 0 then ((vernierref01_Sub.f k x0 t1116).bind fun t1120 => (vernierref01_Few.l0 k t1120 x1 (IntKind.u64.wrap ((IntKind.u64.wrap (2 * x6)) + 1)) (wrap64 (x7 - 1)))) else (vernierref01_Few.l0 k x0 x1 (IntKind.u64.wrap (2 * x6)) (wrap64 (x7 - 1)))))) else (some (x6, x0))
def vernierref01_Few.f (k : Nat) (l0 : List Int) (l1 : List Int) : Option (Int × List Int) := vernierref01_Few.l0 k l0 l1 0 59
set_option maxHeartbeats 8000000 in
set_option maxRecDepth 100000 in
theorem vernierref01_Few.calls (k : Nat) (P0_ : Nat → Prop) (A0 : Option Addr) (c0 : Nat) (l0 : List Int) (A1 : Option Addr) (c1 : Nat) (l1 : List Int) (r1 : Int) (r2 : List Int) (w : World) (hs0 : Kd.V (Kd.int .i64) 3 w w.heap.size (fun k_ => P0_ k_) (.slice A0 l0.length c0) l0) (hr1 : Kd.C (Kd.int .i64) w A1 l1.length l1) (hc1 : l1.length ≤ c1) (h : vernierref01_Few.f k l0 l1 = some (r1, r2)) :
  Calls Tryd.prog 99 #[.slice A0 l0.length c0, .slice A1 l1.length c1] w fun e w' => ∃ v1_ : Value, e = .returned (.tuple #[.int .u64 r1, v1_]) ∧ Kd.V (Kd.int .i64) 3 w' w.heap.size (fun k_ => (P0_ k_ ∨ w.heap.size ≤ k_)) v1_ r2 ∧ Below w.heap.size w w' := by
 have O1 := Aside0.mk (show Kd.V (Kd.int .i64) 3 w w.heap.size (fun k_ => (P0_ k_ ∨ w.heap.size ≤ k_)) (.slice A0 l0.length c0) l0 from Kd.V_mono hs0 (fun k_ hk => .inl hk)); have R0 := Aside0.mk hr1; have C0 := Aside0.mk hc1; clear hr1 hc1; have HB := Aside0.mk (Below.refl w.heap.size w); have H : (vernierref01_Few.l0 k l0 l1 0 59) = some (r1, r2) := h; clear h; have H' := Aside0.mk H; clear H; go_enter Tryd.func99, Tryd.ntmps99; go_wp2; go_loopg [0, 6, 7] k (fun kq v0 v6 v7 w' => ∃ (x0_1 : List Int) (x6_1 : Int) (x7_1 : Int), v6 = .int .u64 x6_1 ∧ v7 = .int .i64 x7_1 ∧ Aside0 (vernierref01_Few.l0 kq x0_1 l1 x6_1 x7_1 = some (r1, r2)) ∧ Aside0 (kq ≤ k) ∧ Aside0 (Kd.V (Kd.int .i64) 3 w' w.heap.size (fun k_ => (P0_ k_ ∨ w.heap.size ≤ k_)) v0 x0_1) ∧ Aside0 (Below w.heap.size w w')); case atStart => exact ⟨(l0), (0), (59), rf_, rf_, H', ⟨Nat.le_refl _⟩, ⟨vz_ O1.out⟩, ⟨bw_ HB⟩⟩
 case round =>
  clear H'; (try clear c1); obtain ⟨x0_1, x6_1, x7_1, rfl, rfl, HA, HK1, Q0, HB⟩ := hrel; cases gk with
  | zero => exact absurd HA.out (by simp [vernierref01_Few.l0])
  | succ k1 =>
   have H := HA.out; clear HA; simp only [vernierref01_Few.l0] at H; by_cases c3 : x7_1 ≥ 0
   ·
    rw [if_pos c3] at H; have c3b0 : decide (0 ≤ x7_1) = true := decide_eq_true c3; clear c3; replace H := bo_ H; obtain ⟨t1116, A4, H⟩ := H; (try dsimp only at H); replace H := bo_ H; obtain ⟨t1119, A5, H⟩ := H; (try dsimp only at H); by_cases c6 : t1119 ≥ 0
    ·
     rw [if_pos c6] at H; have c6b0 : decide (0 ≤ t1119) = true := decide_eq_true c6; clear c6; replace H := bo_ H; obtain ⟨t1120, A7, H⟩ := H; (try dsimp only at H); have H' := Aside0.mk H; clear H; go_wp2_with (first | ((with_reducible refine gate_callee (f := 42) rfl ?_); refine gl_ (some 15) rfl rfl Tryd.func42 (by kernel_rfl) rfl #[.slice A1 l1.length c1, .int .i64 x7_1] rfl ?_; (with_reducible refine (vernierref01_Shl.calls k1 _ _ l1 x7_1 t1116 _ ?side1 ?side2 A4.out).mono ?_); (case side1 => exact cl_ (Kd.C_below R0.out HB.out)); (case side2 => exact C0.out); rintro e w8 ⟨v1117, rfl, ho0, hb⟩; refine ⟨_, rfl, ?_⟩; replace Q0 := Aside0.mk (Kd.V_elder' (by (with_reducible repeat (first | apply Kd.V_alloc | apply Kd.V_drewN | apply Kd.V_drew)); exact Q0.out) (Kd.R_base ho0) hb); have O0 := Aside0.mk (Kd.R_lower (Kd.R_newM (M := fun k_ => (w.heap.size ≤ k_)) ho0 (below_size (bw_ HB)) (fun k_ h_ => h_)) (below_size (bw_ HB))); replace HB := bs_ HB hb; (try clear hb ho0); obtain ⟨a0, c2, e0⟩ := Kd.V_slice Q0.out; subst e0; obtain ⟨a1, c4, e1⟩ := Kd.R_slice O0.out; subst e1) | ((with_reducible refine gate_callee (f := 78) rfl ?_); refine gl_ (some 20) rfl rfl Tryd.func78 (by kernel_rfl) rfl #[.slice a0 x0_1.length c2, .slice a1 t1116.length c4] rfl ?_; (with_reducible refine (vernierref01_Cmp.calls k1 _ _ x0_1 _ _ t1116 t1119 _ ?side1 ?side2 ?side3 ?side4 A5.out).mono ?_); (case side1 => repeat (first | exact (Kd.V_reads' Q0.out).2.2 | (with_reducible refine Kd.C_alloc ?_ _) | (with_reducible refine Kd.C_drewN ?_ _) | (with_reducible refine Kd.C_drew ?_))); (case side2 => exact (Kd.V_reads' Q0.out).2.1); (case side3 => repeat (first | exact (Kd.R_reads' O0.out).2.2 | (with_reducible refine Kd.C_alloc ?_ _) | (with_reducible refine Kd.C_drewN ?_ _) | (with_reducible refine Kd.C_drew ?_))); (case side4 => exact (Kd.R_reads' O0.out).2.1); rintro e w' ⟨rfl, ⟨nd, rfl⟩⟩; refine ⟨_, rfl, ?_⟩) | ((with_reducible refine gate_callee (f := 85) rfl ?_); refine gl_ (some 24) rfl rfl Tryd.func85 (by kernel_rfl) rfl #[.slice a0 x0_1.length c2, .slice a1 t1116.length c4] rfl ?_; (with_reducible refine (vernierref01_Sub.calls k1 _ _ x0_1 _ _ t1116 t1120 _ ?side1 ?side2 ?side3 ?side4 A7.out).mono ?_); (case side1 => repeat (first | exact (Kd.V_reads' Q0.out).2.2 | (with_reducible refine Kd.C_alloc ?_ _) | (with_reducible refine Kd.C_drewN ?_ _) | (with_reducible refine Kd.C_drew ?_))); (case side2 => exact (Kd.V_reads' Q0.out).2.1); (case side3 => repeat (first | exact (Kd.R_reads' O0.out).2.2 | (with_reducible refine Kd.C_alloc ?_ _) | (with_reducible refine Kd.C_drewN ?_ _) | (with_reducible refine Kd.C_drew ?_))); (case side4 => exact (Kd.R_reads' O0.out).2.1); rintro e w11 ⟨v1121, rfl, ho0, hb⟩; refine ⟨_, rfl, ?_⟩; replace Q0 := Aside0.mk (Kd.V_elder' (by (with_reducible repeat (first | apply Kd.V_alloc | apply Kd.V_drewN | apply Kd.V_drew)); exact Q0.out) (Kd.R_base ho0) hb); have O2 := Aside0.mk (Kd.R_lower (Kd.R_new' (Kd.R_newM (M := fun k_ => (w.heap.size ≤ k_)) ho0 (below_size (bw_ HB)) (fun k_ h_ => h_)) (Kd.R_lt (rl_ O0))) (below_size (bw_ HB))); replace O0 := Aside0.mk (Kd.R_elder' (rl_ O0) (Kd.R_base ho0) hb); replace HB := bs_ HB hb; (try clear hb ho0))); go_roundg k1; case measure => have := HK1.out; omega
     case rel => exact ⟨(t1120), (IntKind.u64.wrap ((IntKind.u64.wrap (2 * x6_1)) + 1)), (wrap64 (x7_1 - 1)), rf_, rf_, H', ⟨by have := HK1.out; omega⟩, ⟨Kd.V_mono (Kd.R_V (by (with_reducible repeat (first | apply Kd.R_alloc | apply Kd.R_drewN | apply Kd.R_drew)); exact Kd.R_mono O2.out (fun _ hk => hk.1.1))) (fun k_ hk => by first | exact ⟨(.inr (hk.1)), hk.2⟩ | exact (.inr (hk)))⟩, ⟨bw_ HB⟩⟩
    rw [if_neg c6] at H; have c6b0 : decide (0 ≤ t1119) = false := decide_eq_false c6; clear c6; have H' := Aside0.mk H; clear H; go_wp2_with (first | ((with_reducible refine gate_callee (f := 42) rfl ?_); refine gl_ (some 15) rfl rfl Tryd.func42 (by kernel_rfl) rfl #[.slice A1 l1.length c1, .int .i64 x7_1] rfl ?_; (with_reducible refine (vernierref01_Shl.calls k1 _ _ l1 x7_1 t1116 _ ?side1 ?side2 A4.out).mono ?_); (case side1 => exact cl_ (Kd.C_below R0.out HB.out)); (case side2 => exact C0.out); rintro e w12 ⟨v1117, rfl, ho0, hb⟩; refine ⟨_, rfl, ?_⟩; replace Q0 := Aside0.mk (Kd.V_elder' (by (with_reducible repeat (first | apply Kd.V_alloc | apply Kd.V_drewN | apply Kd.V_drew)); exact Q0.out) (Kd.R_base ho0) hb); have O0 := Aside0.mk (Kd.R_lower (Kd.R_newM (M := fun k_ => (w.heap.size ≤ k_)) ho0 (below_size (bw_ HB)) (fun k_ h_ => h_)) (below_size (bw_ HB))); replace HB := bs_ HB hb; (try clear hb ho0); obtain ⟨a2, c5, e2⟩ := Kd.V_slice Q0.out; subst e2; obtain ⟨a3, c7, e3⟩ := Kd.R_slice O0.out; subst e3) | ((with_reducible refine gate_callee (f := 78) rfl ?_); refine gl_ (some 20) rfl rfl Tryd.func78 (by kernel_rfl) rfl #[.slice a2 x0_1.length c5, .slice a3 t1116.length c7] rfl ?_; (with_reducible refine (vernierref01_Cmp.calls k1 _ _ x0_1 _ _ t1116 t1119 _ ?side1 ?side2 ?side3 ?side4 A5.out).mono ?_); (case side1 => repeat (first | exact (Kd.V_reads' Q0.out).2.2 | (with_reducible refine Kd.C_alloc ?_ _) | (with_reducible refine Kd.C_drewN ?_ _) | (with_reducible refine Kd.C_drew ?_))); (case side2 => exact (Kd.V_reads' Q0.out).2.1); (case side3 => repeat (first | exact (Kd.R_reads' O0.out).2.2 | (with_reducible refine Kd.C_alloc ?_ _) | (with_reducible refine Kd.C_drewN ?_ _) | (with_reducible refine Kd.C_drew ?_))); (case side4 => exact (Kd.R_reads' O0.out).2.1); rintro e w' ⟨rfl, ⟨nd, rfl⟩⟩; refine ⟨_, rfl, ?_⟩)); go_roundg k1; case measure => have := HK1.out; omega
    case rel => exact ⟨(x0_1), (IntKind.u64.wrap (2 * x6_1)), (wrap64 (x7_1 - 1)), rf_, rf_, H', ⟨by have := HK1.out; omega⟩, ⟨by refine vz_ ?_; exact Kd.V_mono Q0.out (fun _ hk => hk.1)⟩, ⟨bw_ HB⟩⟩
   rw [if_neg c3] at H; have c3b0 : decide (0 ≤ x7_1) = false := decide_eq_false c3; clear c3; simp only [Option.some.injEq, Prod.mk.injEq] at H; obtain ⟨rfl, rfl⟩ := H; go_wp2; go_ret2; exact ⟨_, er_, vz_ Q0.out, bw_ HB⟩
end Go.Proofs.YtjgdpjbkmcjbcaaDoor.PG
