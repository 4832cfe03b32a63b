/- A part of a proof. -/
import Derived.Test.YtjgdpjbkmcjbcaaDoorZFfmaTells14
import Derived.Test.YtjgdpjbkmcjbcaaDoorZFfmaTells22
import Derived.Test.YtjgdpjbkmcjbcaaDoorZFfmaTells16
namespace Go.Proofs.YtjgdpjbkmcjbcaaDoor.PG
open Go.RowKit Go.Proofs.YtjgdpjbkmcjbcaaDoorW.PrintWords Go.Proofs.YtjgdpjbkmcjbcaaDoorW.PrintLast Go.Proofs.YtjgdpjbkmcjbcaaDoorW.PrintMore
attribute [local go_sem] max2_int min2_int max_two min_two max_three min_three max_four min_four
set_option linter.unusedVariables false
set_option linter.unusedSimpArgs false
attribute [local go_sem] fld139_1
def parts_Class.j0 : Nat → Int → Int → Bool → Option (Int)
 | 0, _, _, _ => none
 | k + 1, x3, x4, x10 => if x10 = true then (some 3) else (if x3 = 2047 then (some 2) else (if x3 = 0 then (if x4 = 0 then (some 0) else (some 1)) else (some 1)))
def parts_Class.f (k : Nat) (a0 : Int) : Option (Int) := if (Go.bits .and .u64 (a0 / 4503599627370496) 2047) = 2047 then (parts_Class.j0 k (Go.bits .and .u64 (a0 / 4503599627370496) 2047) (Go.bits .and .u64 a0 4503599627370495) ((Go.bits .and .u64 a0 4503599627370495) != 0)) else (parts_Class.j0 k (Go.bits .and .u64 (a0 / 4503599627370496) 2047) (Go.bits .and .u64 a0 4503599627370495) false)
set_option maxHeartbeats 8000000 in
set_option maxRecDepth 100000 in
theorem parts_Class.calls (k : Nat) (a0 : Int) (r : Int) (w : World) (h : parts_Class.f k a0 = some r) :
  Calls Tryd.prog 101 #[.int .u64 a0] w fun e w' => e = .returned (.int .i64 r) ∧ Drawn0 w w' := by
 have H := h; rw [parts_Class.f] at H; clear h; have C0 := Aside0.mk H; clear H; go_enter Tryd.func101, Tryd.ntmps101; go_upto_region 2 with (fail); go_cut [10] (fun v10 wc => ∃ (kq : Nat) (x10_1 : Bool), v10 = .bool x10_1 ∧ Aside0 (parts_Class.j0 kq (Go.bits .and .u64 (a0 / 4503599627370496) 2047) (Go.bits .and .u64 a0 4503599627370495) x10_1 = some r) ∧ Aside0 (kq ≤ k) ∧ Drawn0 w wc)
 case first =>
  have H := C0.out; clear C0; by_cases c3 : (Go.bits .and .u64 (a0 / 4503599627370496) 2047) = 2047
  ·
   rw [if_pos c3] at H; obtain ⟨c3b0, c3b1⟩ := q1_ c3; clear c3; (first | rw [c3b0] | (simp only [i64_w, i32_w]; rw [c3b0]) | skip); have H' := Aside0.mk H; clear H; go_wp2; go_meet; case rel => exact ⟨_, (((Go.bits .and .u64 a0 4503599627370495) != 0)), rf_, H', ⟨ol_⟩, dr_⟩
  rw [if_neg c3] at H; obtain ⟨c3b0, c3b1⟩ := q0_ c3; (first | rw [c3b0] | (simp only [i64_w, i32_w]; rw [c3b0]) | skip); have H' := Aside0.mk H; clear H; go_wp2; go_meet; case rel => exact ⟨_, (false), rf_, H', ⟨ol_⟩, dr_⟩
 case rest =>
  clear C0; obtain ⟨kq, x10_1, rfl, HA, HJ1, ⟨mc1, rfl⟩⟩ := hcut; cases kq with
  | zero => exact absurd HA.out (by simp [parts_Class.j0])
  | succ kj1 =>
   have H := HA.out; clear HA; simp only [parts_Class.j0] at H; by_cases c4 : x10_1 = true
   ·
    subst c4; rw [if_pos rfl] at H; obtain rfl := Option.some.inj H; go_wp2; go_ret; exact ⟨rf_, dr_⟩
   replace c4 := Bool.eq_false_iff.mpr c4; subst c4; rw [if_neg nt_] at H; by_cases c5 : (Go.bits .and .u64 (a0 / 4503599627370496) 2047) = 2047
   ·
    rw [if_pos c5] at H; obtain ⟨c5b0, c5b1⟩ := q1_ c5; clear c5; obtain rfl := Option.some.inj H; go_wp2; go_ret; exact ⟨rf_, dr_⟩
   rw [if_neg c5] at H; obtain ⟨c5b0, c5b1⟩ := q0_ c5; by_cases c6 : (Go.bits .and .u64 (a0 / 4503599627370496) 2047) = 0
   ·
    rw [if_pos c6] at H; obtain ⟨c6b0, c6b1⟩ := q1_ c6; clear c6; by_cases c7 : (Go.bits .and .u64 a0 4503599627370495) = 0
    ·
     rw [if_pos c7] at H; obtain ⟨c7b0, c7b1⟩ := q1_ c7; clear c7; obtain rfl := Option.some.inj H; go_wp2; go_ret; exact ⟨rf_, dr_⟩
    rw [if_neg c7] at H; obtain ⟨c7b0, c7b1⟩ := q0_ c7; obtain rfl := Option.some.inj H; go_wp2; go_ret; exact ⟨rf_, dr_⟩
   rw [if_neg c6] at H; obtain ⟨c6b0, c6b1⟩ := q0_ c6; obtain rfl := Option.some.inj H; go_wp2; go_ret; exact ⟨rf_, dr_⟩
def parts_Zero.f (a0 : Bool) : Option (Int) := if a0 = true then (some 9223372036854775808) else (some 0)
set_option maxHeartbeats 8000000 in
set_option maxRecDepth 100000 in
theorem parts_Zero.calls (a0 : Bool) (r : Int) (w : World) (h : parts_Zero.f a0 = some r) :
  Calls Tryd.prog 114 #[.bool a0] w fun e w' => e = .returned (.int .u64 r) ∧ Drawn0 w w' := by
 have H := h; rw [parts_Zero.f] at H; clear h; by_cases c2 : a0 = true
 ·
  subst c2; rw [if_pos rfl] at H; obtain rfl := Option.some.inj H; go_enter Tryd.func114, Tryd.ntmps114; go_wp2; go_ret; exact ⟨rf_, dr_⟩
 replace c2 := Bool.eq_false_iff.mpr c2; subst c2; rw [if_neg nt_] at H; obtain rfl := Option.some.inj H; go_enter Tryd.func114, Tryd.ntmps114; go_wp2; go_ret; exact ⟨rf_, dr_⟩
def parts_Inf.f (a0 : Bool) : Option (Int) := (parts_Zero.f a0).bind fun t1018 => (some (Go.bits .or .u64 t1018 9218868437227405312))
set_option maxHeartbeats 8000000 in
set_option maxRecDepth 100000 in
theorem parts_Inf.calls (a0 : Bool) (r : Int) (w : World) (h : parts_Inf.f a0 = some r) :
  Calls Tryd.prog 113 #[.bool a0] w fun e w' => e = .returned (.int .u64 r) ∧ Drawn0 w w' := by
 have H := h; rw [parts_Inf.f] at H; clear h; replace H := bo_ H; obtain ⟨t1018, A2, H⟩ := H; (try dsimp only at H); obtain rfl := Option.some.inj H; go_enter Tryd.func113, Tryd.ntmps113; go_wp2_with (first | ((with_reducible refine gate_callee (f := 114) rfl ?_); refine gl_ (some 4) rfl rfl Tryd.func114 (by kernel_rfl) rfl #[.bool a0] rfl ?_; (with_reducible refine (parts_Zero.calls a0 t1018 _ A2.out).mono ?_); rintro e w' ⟨rfl, ⟨nd, rfl⟩⟩; refine ⟨_, rfl, ?_⟩)); go_ret; exact ⟨rf_, dr_⟩
mutual
def ffma_odd.j0 : Nat → Int → Int → Int → Int → Int → Int → Bool → Option (Int × Int × Bool)
 | 0, _, _, _, _, _, _, _ => none
 | k + 1, x0, x1, x2, x9, x10, x11, x12 => if x9 = 3 then (ffma_odd.j1 k x2 x9 x10 x11 x12 ((Go.bits .and .u64 (Go.bits .xor .u64 x0 x1) 9223372036854775808) != 0) true) else (ffma_odd.j1 k x2 x9 x10 x11 x12 ((Go.bits .and .u64 (Go.bits .xor .u64 x0 x1) 9223372036854775808) != 0) (x10 == 3))
def ffma_odd.j1 : Nat → Int → Int → Int → Int → Bool → Bool → Bool → Option (Int × Int × Bool)
 | 0, _, _, _, _, _, _, _ => none
 | k + 1, x2, x9, x10, x11, x12, x13, x39 => if x39 = true then (some (9221120237041090560, 0, true)) else (if x12 = true then (some (9221120237041090560, 1, true)) else (if x11 = 3 then (some (9221120237041090560, 0, true)) else (if x9 = 2 then (ffma_odd.j2 k x2 x11 x13 true) else (ffma_odd.j2 k x2 x11 x13 (x10 == 2)))))
def ffma_odd.j2 : Nat → Int → Int → Bool → Bool → Option (Int × Int × Bool)
 | 0, _, _, _, _ => none
 | k + 1, x2, x11, x13, x51 => if x51 = true then (if x11 = 2 then ((parts_Inf.f x13).bind fun t1022 => (if x2 = t1022 then ((parts_Inf.f x13).bind fun t1023 => (some (t1023, 0, true))) else (some (9221120237041090560, 1, true)))) else ((parts_Inf.f x13).bind fun t1024 => (some (t1024, 0, true)))) else (if x11 = 2 then (some (x2, 0, true)) else (some (0, 0, false)))
end
def ffma_odd.f (k : Nat) (a0 : Int) (a1 : Int) (a2 : Int) : Option (Int × Int × Bool) := (parts_Class.f k a0).bind fun t1019 => ((parts_Class.f k a1).bind fun t1020 => ((parts_Class.f k a2).bind fun t1021 => (if t1019 = 0 then (if t1020 = 2 then (ffma_odd.j0 k a0 a1 a2 t1019 t1020 t1021 true) else (if t1019 = 2 then (ffma_odd.j0 k a0 a1 a2 t1019 t1020 t1021 (t1020 == 0)) else (ffma_odd.j0 k a0 a1 a2 t1019 t1020 t1021 false))) else (if t1019 = 2 then (ffma_odd.j0 k a0 a1 a2 t1019 t1020 t1021 (t1020 == 0)) else (ffma_odd.j0 k a0 a1 a2 t1019 t1020 t1021 false)))))
set_option maxHeartbeats 8000000 in
set_option maxRecDepth 100000 in
theorem ffma_odd.calls (k : Nat) (a0 : Int) (a1 : Int) (a2 : Int) (r1 : Int) (r2 : Int) (r3 : Bool) (w : World) (h : ffma_odd.f k a0 a1 a2 = some (r1, r2, r3)) :
  Calls Tryd.prog 86 #[.int .u64 a0, .int .u64 a1, .int .u64 a2] w fun e w' => e = .returned (.tuple #[.int .u64 r1, .int .i64 r2, .bool r3]) ∧ Drawn0 w w' := by
 have H := h; rw [ffma_odd.f] at H; clear h; replace H := bo_ H; obtain ⟨t1019, A4, H⟩ := H; (try dsimp only at H); replace H := bo_ H; obtain ⟨t1020, A5, H⟩ := H; (try dsimp only at H); replace H := bo_ H; obtain ⟨t1021, A6, H⟩ := H; (try dsimp only at H); have C0 := Aside0.mk H; clear H; go_enter Tryd.func86, Tryd.ntmps86; go_upto_region 2 with (first | ((with_reducible refine gate_callee (f := 101) rfl ?_); refine gl_ (some 15) rfl rfl Tryd.func101 (by kernel_rfl) rfl #[.int .u64 a0] rfl ?_; (with_reducible refine (parts_Class.calls k a0 t1019 _ A4.out).mono ?_); rintro e w' ⟨rfl, ⟨nd, rfl⟩⟩; refine ⟨_, rfl, ?_⟩) | ((with_reducible refine gate_callee (f := 101) rfl ?_); refine gl_ (some 17) rfl rfl Tryd.func101 (by kernel_rfl) rfl #[.int .u64 a1] rfl ?_; (with_reducible refine (parts_Class.calls k a1 t1020 _ A5.out).mono ?_); rintro e w' ⟨rfl, ⟨nd, rfl⟩⟩; refine ⟨_, rfl, ?_⟩) | ((with_reducible refine gate_callee (f := 101) rfl ?_); refine gl_ (some 19) rfl rfl Tryd.func101 (by kernel_rfl) rfl #[.int .u64 a2] rfl ?_; (with_reducible refine (parts_Class.calls k a2 t1021 _ A6.out).mono ?_); rintro e w' ⟨rfl, ⟨nd, rfl⟩⟩; refine ⟨_, rfl, ?_⟩)); (try simp only [sp_]); go_cut [12] (fun v12 wc => ∃ (kq : Nat) (x12_6 : Bool), v12 = .bool x12_6 ∧ Aside0 (ffma_odd.j0 kq a0 a1 a2 t1019 t1020 t1021 x12_6 = some (r1, r2, r3)) ∧ Aside0 (kq ≤ k) ∧ Drawn0 w wc)
 case first =>
  have H := C0.out; clear C0; by_cases c8 : t1019 = 0
  ·
   rw [if_pos c8] at H; obtain ⟨c8b0, c8b1⟩ := q1_ c8; clear c8; (first | rw [c8b0] | (simp only [i64_w, i32_w]; rw [c8b0]) | skip); by_cases c9 : t1020 = 2
   ·
    rw [if_pos c9] at H; obtain ⟨c9b0, c9b1⟩ := q1_ c9; clear c9; have H' := Aside0.mk H; clear H; go_wp2; go_meet; case rel => exact ⟨_, (true), rf_, H', ⟨ol_⟩, dr_⟩
   rw [if_neg c9] at H; obtain ⟨c9b0, c9b1⟩ := q0_ c9; by_cases c10 : t1019 = 2
   ·
    rw [if_pos c10] at H; obtain ⟨c10b0, c10b1⟩ := q1_ c10; clear c10; have H' := Aside0.mk H; clear H; go_wp2; go_meet; case rel => exact ⟨_, ((t1020 == 0)), rf_, H', ⟨ol_⟩, dr_⟩
   rw [if_neg c10] at H; obtain ⟨c10b0, c10b1⟩ := q0_ c10; have H' := Aside0.mk H; clear H; go_wp2; go_meet; case rel => exact ⟨_, (false), rf_, H', ⟨ol_⟩, dr_⟩
  rw [if_neg c8] at H; obtain ⟨c8b0, c8b1⟩ := q0_ c8; (first | rw [c8b0] | (simp only [i64_w, i32_w]; rw [c8b0]) | skip); by_cases c11 : t1019 = 2
  ·
   rw [if_pos c11] at H; obtain ⟨c11b0, c11b1⟩ := q1_ c11; clear c11; have H' := Aside0.mk H; clear H; go_wp2; go_meet; case rel => exact ⟨_, ((t1020 == 0)), rf_, H', ⟨ol_⟩, dr_⟩
  rw [if_neg c11] at H; obtain ⟨c11b0, c11b1⟩ := q0_ c11; have H' := Aside0.mk H; clear H; go_wp2; go_meet; case rel => exact ⟨_, (false), rf_, H', ⟨ol_⟩, dr_⟩
 case rest =>
  clear C0; obtain ⟨kq, x12_6, rfl, HA, HJ6, ⟨mc6, rfl⟩⟩ := hcut; cases kq with
  | zero => exact absurd HA.out (by simp [ffma_odd.j0])
  | succ kj6 =>
   have H := HA.out; clear HA; simp only [ffma_odd.j0] at H; have C1 := Aside0.mk H; clear H; go_upto_region 4 with (fail); go_cut [39] (fun v39 wc => ∃ (kq : Nat) (x39_11 : Bool), v39 = .bool x39_11 ∧ Aside0 (ffma_odd.j1 kq a2 t1019 t1020 t1021 x12_6 ((Go.bits .and .u64 (Go.bits .xor .u64 a0 a1) 9223372036854775808) != 0) x39_11 = some (r1, r2, r3)) ∧ Aside0 (kq ≤ kj6) ∧ Drawn0 w wc)
   case first =>
    have H := C1.out; clear C1; by_cases c13 : t1019 = 3
    ·
     rw [if_pos c13] at H; obtain ⟨c13b0, c13b1⟩ := q1_ c13; clear c13; (first | rw [c13b0] | (simp only [i64_w, i32_w]; rw [c13b0]) | skip); have H' := Aside0.mk H; clear H; go_wp2; go_meet; case rel => exact ⟨_, (true), rf_, H', ⟨by have := HJ6.out; first | omega | exact Nat.le_refl _⟩, dr_⟩
    rw [if_neg c13] at H; obtain ⟨c13b0, c13b1⟩ := q0_ c13; (first | rw [c13b0] | (simp only [i64_w, i32_w]; rw [c13b0]) | skip); have H' := Aside0.mk H; clear H; go_wp2; go_meet; case rel => exact ⟨_, ((t1020 == 3)), rf_, H', ⟨by have := HJ6.out; first | omega | exact Nat.le_refl _⟩, dr_⟩
   case rest =>
    clear C1; obtain ⟨kq, x39_11, rfl, HA, HJ11, ⟨mc11, rfl⟩⟩ := hcut; cases kq with
    | zero => exact absurd HA.out (by simp [ffma_odd.j1])
    | succ kj11 =>
     have H := HA.out; clear HA; simp only [ffma_odd.j1] at H; by_cases c14 : x39_11 = true
     ·
      subst c14; rw [if_pos rfl] at H; simp only [Option.some.injEq, Prod.mk.injEq] at H; obtain ⟨rfl, rfl, rfl⟩ := H; go_wp2; go_ret3; exact ⟨rf_, dr_⟩
     replace c14 := Bool.eq_false_iff.mpr c14; subst c14; rw [if_neg nt_] at H; by_cases c15 : x12_6 = true
     ·
      subst c15; rw [if_pos rfl] at H; simp only [Option.some.injEq, Prod.mk.injEq] at H; obtain ⟨rfl, rfl, rfl⟩ := H; go_wp2; go_ret3; exact ⟨rf_, dr_⟩
     replace c15 := Bool.eq_false_iff.mpr c15; subst c15; rw [if_neg nt_] at H; by_cases c16 : t1021 = 3
     ·
      rw [if_pos c16] at H; obtain ⟨c16b0, c16b1⟩ := q1_ c16; clear c16; simp only [Option.some.injEq, Prod.mk.injEq] at H; obtain ⟨rfl, rfl, rfl⟩ := H; go_wp2; go_ret3; exact ⟨rf_, dr_⟩
     rw [if_neg c16] at H; obtain ⟨c16b0, c16b1⟩ := q0_ c16; have C2 := Aside0.mk H; clear H; go_upto_region 10 with (fail); go_cut [51] (fun v51 wc => ∃ (kq : Nat) (x51_16 : Bool), v51 = .bool x51_16 ∧ Aside0 (ffma_odd.j2 kq a2 t1021 ((Go.bits .and .u64 (Go.bits .xor .u64 a0 a1) 9223372036854775808) != 0) x51_16 = some (r1, r2, r3)) ∧ Aside0 (kq ≤ kj11) ∧ Drawn0 w wc)
     case first =>
      have H := C2.out; clear C2; by_cases c18 : t1019 = 2
      ·
       rw [if_pos c18] at H; obtain ⟨c18b0, c18b1⟩ := q1_ c18; clear c18; (first | rw [c18b0] | (simp only [i64_w, i32_w]; rw [c18b0]) | skip); have H' := Aside0.mk H; clear H; go_wp2; go_meet; case rel => exact ⟨_, (true), rf_, H', ⟨by have := HJ6.out; have := HJ11.out; first | omega | exact Nat.le_refl _⟩, dr_⟩
      rw [if_neg c18] at H; obtain ⟨c18b0, c18b1⟩ := q0_ c18; (first | rw [c18b0] | (simp only [i64_w, i32_w]; rw [c18b0]) | skip); have H' := Aside0.mk H; clear H; go_wp2; go_meet; case rel => exact ⟨_, ((t1020 == 2)), rf_, H', ⟨by have := HJ6.out; have := HJ11.out; first | omega | exact Nat.le_refl _⟩, dr_⟩
     case rest =>
      clear C2; (try clear c14); (try clear c15); (try clear c16); (try clear c16b0); (try clear c16b1); obtain ⟨kq, x51_16, rfl, HA, HJ16, ⟨mc16, rfl⟩⟩ := hcut; cases kq with
      | zero => exact absurd HA.out (by simp [ffma_odd.j2])
      | succ kj16 =>
       have H := HA.out; clear HA; simp only [ffma_odd.j2] at H; by_cases c19 : x51_16 = true
       ·
        subst c19; rw [if_pos rfl] at H; by_cases c20 : t1021 = 2
        ·
         rw [if_pos c20] at H; obtain ⟨c20b0, c20b1⟩ := q1_ c20; clear c20; replace H := bo_ H; obtain ⟨t1022, A21, H⟩ := H; (try dsimp only at H); by_cases c22 : a2 = t1022
         ·
          rw [if_pos c22] at H; obtain ⟨c22b0, c22b1⟩ := q1_ c22; clear c22; replace H := bo_ H; obtain ⟨t1023, A23, H⟩ := H; replace H : (some (t1023, 0, true)) = some (r1, r2, r3) := H; simp only [Option.some.injEq, Prod.mk.injEq] at H; obtain ⟨rfl, rfl, rfl⟩ := H; go_wp2_with (first | (go_at_call 113; (refine (parts_Inf.calls ((Go.bits .and .u64 (Go.bits .xor .u64 a0 a1) 9223372036854775808) != 0) t1022 _ A21.out).mono ?_); rintro e w' ⟨rfl, ⟨nd, rfl⟩⟩) | ((with_reducible refine gate_callee (f := 113) rfl ?_); refine gl_ (some 67) rfl rfl Tryd.func113 (by kernel_rfl) rfl #[.bool ((Go.bits .and .u64 (Go.bits .xor .u64 a0 a1) 9223372036854775808) != 0)] rfl ?_; (refine (parts_Inf.calls ((Go.bits .and .u64 (Go.bits .xor .u64 a0 a1) 9223372036854775808) != 0) t1023 _ A23.out).mono ?_); rintro e w' ⟨rfl, ⟨nd, rfl⟩⟩; refine ⟨_, rfl, ?_⟩)); go_ret3; exact ⟨rf_, dr_⟩
         rw [if_neg c22] at H; obtain ⟨c22b0, c22b1⟩ := q0_ c22; simp only [Option.some.injEq, Prod.mk.injEq] at H; obtain ⟨rfl, rfl, rfl⟩ := H; go_wp2_with (first | (go_at_call 113; (refine (parts_Inf.calls ((Go.bits .and .u64 (Go.bits .xor .u64 a0 a1) 9223372036854775808) != 0) t1022 _ A21.out).mono ?_); rintro e w' ⟨rfl, ⟨nd, rfl⟩⟩)); go_ret3; exact ⟨rf_, dr_⟩
        rw [if_neg c20] at H; obtain ⟨c20b0, c20b1⟩ := q0_ c20; replace H := bo_ H; obtain ⟨t1024, A24, H⟩ := H; replace H : (some (t1024, 0, true)) = some (r1, r2, r3) := H; simp only [Option.some.injEq, Prod.mk.injEq] at H; obtain ⟨rfl, rfl, rfl⟩ := H; go_wp2_with (first | ((with_reducible refine gate_callee (f := 113) rfl ?_); refine gl_ (some 67) rfl rfl Tryd.func113 (by kernel_rfl) rfl #[.bool ((Go.bits .and .u64 (Go.bits .xor .u64 a0 a1) 9223372036854775808) != 0)] rfl ?_; (refine (parts_Inf.calls ((Go.bits .and .u64 (Go.bits .xor .u64 a0 a1) 9223372036854775808) != 0) t1024 _ A24.out).mono ?_); rintro e w' ⟨rfl, ⟨nd, rfl⟩⟩; refine ⟨_, rfl, ?_⟩)); go_ret3; exact ⟨rf_, dr_⟩
       replace c19 := Bool.eq_false_iff.mpr c19; subst c19; rw [if_neg nt_] at H; by_cases c25 : t1021 = 2
       ·
        rw [if_pos c25] at H; obtain ⟨c25b0, c25b1⟩ := q1_ c25; clear c25; simp only [Option.some.injEq, Prod.mk.injEq] at H; obtain ⟨rfl, rfl, rfl⟩ := H; go_wp2; go_ret3; exact ⟨rf_, dr_⟩
       rw [if_neg c25] at H; obtain ⟨c25b0, c25b1⟩ := q0_ c25; simp only [Option.some.injEq, Prod.mk.injEq] at H; obtain ⟨rfl, rfl, rfl⟩ := H; go_wp2; go_ret3; exact ⟨rf_, dr_⟩
def parts_Split.f (a0 : Int) : Option (Bool × Int × Int × Int) := if (wrap64 (Go.bits .and .u64 (a0 / 4503599627370496) 2047)) = 2047 then (some (false, 0, 0, 23)) else (if (wrap64 (Go.bits .and .u64 (a0 / 4503599627370496) 2047)) = 0 then (some (((Go.bits .and .u64 a0 9223372036854775808) != 0), Go.bits .and .u64 a0 4503599627370495, (-1074), 0)) else (some (((Go.bits .and .u64 a0 9223372036854775808) != 0), Go.bits .or .u64 (Go.bits .and .u64 a0 4503599627370495) 4503599627370496, wrap64 ((wrap64 (Go.bits .and .u64 (a0 / 4503599627370496) 2047)) - 1075), 0)))
set_option maxHeartbeats 8000000 in
set_option maxRecDepth 100000 in
theorem parts_Split.calls (a0 : Int) (r1 : Bool) (r2 : Int) (r3 : Int) (r4 : Int) (w : World) (h : parts_Split.f a0 = some (r1, r2, r3, r4)) :
  Calls Tryd.prog 100 #[.int .u64 a0] w fun e w' => e = .returned (.tuple #[.bool r1, .int .u64 r2, .int .i64 r3, .int .i64 r4]) ∧ Drawn0 w w' := by
 have H := h; rw [parts_Split.f] at H; clear h; by_cases c2 : (wrap64 (Go.bits .and .u64 (a0 / 4503599627370496) 2047)) = 2047
 ·
  rw [if_pos c2] at H; obtain ⟨c2b0, c2b1⟩ := q1_ c2; clear c2; simp only [Option.some.injEq, Prod.mk.injEq] at H; obtain ⟨rfl, rfl, rfl, rfl⟩ := H; go_enter Tryd.func100, Tryd.ntmps100; go_wp2; refine bodyPost_ret (results_list (rs := [.tmp 2, .tmp 3, .tmp 4, .tmp 5]) rfl (by simp) (.tmp (.tmp (.tmp (.tmp .nil))))) rfl ?_; exact ⟨rf_, dr_⟩
 rw [if_neg c2] at H; obtain ⟨c2b0, c2b1⟩ := q0_ c2; by_cases c3 : (wrap64 (Go.bits .and .u64 (a0 / 4503599627370496) 2047)) = 0
 ·
  rw [if_pos c3] at H; obtain ⟨c3b0, c3b1⟩ := q1_ c3; clear c3; simp only [Option.some.injEq, Prod.mk.injEq] at H; obtain ⟨rfl, rfl, rfl, rfl⟩ := H; go_enter Tryd.func100, Tryd.ntmps100; go_wp2; refine bodyPost_ret (results_list (rs := [.tmp 2, .tmp 3, .tmp 4, .tmp 5]) rfl (by simp) (.tmp (.tmp (.tmp (.tmp .nil))))) rfl ?_; exact ⟨rf_, dr_⟩
 rw [if_neg c3] at H; obtain ⟨c3b0, c3b1⟩ := q0_ c3; simp only [Option.some.injEq, Prod.mk.injEq] at H; obtain ⟨rfl, rfl, rfl, rfl⟩ := H; go_enter Tryd.func100, Tryd.ntmps100; go_wp2; refine bodyPost_ret (results_list (rs := [.tmp 2, .tmp 3, .tmp 4, .tmp 5]) rfl (by simp) (.tmp (.tmp (.tmp (.tmp .nil))))) rfl ?_; exact ⟨rf_, dr_⟩
def ffma_exact.f (a0 : Int) : Option (Bool × List Int × Int) := (parts_Split.f a0).bind fun bt1026 => (some (bt1026.1, (([bt1026.2.1] : List Int)), bt1026.2.2.1))
set_option maxHeartbeats 8000000 in
set_option maxRecDepth 100000 in
theorem ffma_exact.calls (a0 : Int) (r1 : Bool) (r2 : List Int) (r3 : Int) (w : World) (h : ffma_exact.f a0 = some (r1, r2, r3)) :
  Calls Tryd.prog 87 #[.int .u64 a0] w fun e w' => ∃ v1_ : Value, e = .returned (.agg #[.bool r1, v1_, .int .i64 r3]) ∧ Kd.R (Kd.int .u64) 34 w' w.heap.size (fun _ => True) v1_ r2 ∧ Below w.heap.size w w' := by
 have hu36 := Tryd.underlying36; have HB := Aside0.mk (Below.refl w.heap.size w); have H := h; rw [ffma_exact.f] at H; clear h; replace H := bo_ H; obtain ⟨⟨t1026, t1027, t1028, t1029⟩, A2, H⟩ := H; (try dsimp only at H); obtain ⟨y1030, hy1030⟩ : ∃ y_ : List Int, y_ = (([t1027] : List Int)) := ⟨_, rfl⟩; replace H : (some (t1026, y1030, t1028)) = some (r1, r2, r3) := by first | (rw [hy1030]; with_reducible exact H) | (have H2_ := (Option.bind_some _ _).symm.trans H; rw [hy1030]; with_reducible exact H2_) | (have H2_ := (Option.bind_some _ _).symm.trans H; with_reducible exact H2_) | with_reducible exact H | (rw [hy1030]; exact H) | exact H
 have Ny1030 := Aside0.mk hy1030; clear hy1030; simp only [Option.some.injEq, Prod.mk.injEq] at H; obtain ⟨rfl, rfl, rfl⟩ := H; go_enter Tryd.func87, Tryd.ntmps87; go_wp2_with (first | ((with_reducible refine gate_dst (N := 2) rfl ?_); refine box_event ?hg (N := 2) ?hd (cs := #[.bool false, .slice none 0 0, .int .i64 0]) (t := 36) ?hr ?_; (case hd => rfl); (case hg => rfl); (case hr => first | (go_simp; done) | (go_simp; rfl)); intro g0 hg w3 hbox hb; have K0 := Aside0.mk (hbox); have G0 := gw_ hg HB; have E0 := gw_ hg HB; replace HB := bs_ HB hb; clear hb hbox hg) | ((with_reducible refine gate_callee (f := 100) rfl ?_); refine gl_ (some 9) rfl rfl Tryd.func100 (by kernel_rfl) rfl #[.int .u64 a0] rfl ?_; (with_reducible refine (parts_Split.calls a0 t1026 t1027 t1028 t1029 _ A2.out).mono ?_); rintro e w' ⟨rfl, ⟨nd, rfl⟩⟩; refine ⟨_, rfl, ?_⟩; (try (rw [drewN_self w3]; generalize hq_ : World.drewN w3 _ = w3; have n0_ : Aside0 (w3.heap[g0]? = some (.cells #[.bool false, .slice none 0 0, .int .i64 0] 36 (0, 0))) := ⟨by rw [← hq_]; exact (bl_ K0)⟩; have n1_ : Aside0 (Below w.heap.size w w3) := ⟨by rw [← hq_]; exact (bw_ HB)⟩; clear K0 HB hq_; have K0 := n0_; have HB := n1_; clear n0_ n1_))) | ((with_reducible refine gate_dst (N := 16) rfl ?_); refine Kd.R_lit (Kd.int .u64) _ 34 ?hg (N := 16) ?hd (xs := ([t1027] : List Int)) (inner := [.int .u64 t1027]) (ok := fun _ => True) (okp := fun _ => True) ?hr ?hp (fun _ hk => hk) trivial (Below.refl _ _) (Nat.le_refl _) (by simp) ?_; (case hd => rfl); (case hg => rfl); (case hr => first | (go_simp; done) | (go_simp; rfl)); (case hp => exact (Reps.one (show Kd.M (Kd.int .u64) _ _ _ t1027 [.int .u64 t1027] from rfl) (Reps.none _ _))); intro v1031 w4 ho5 hb hg_ hnew_; clear hg_ hnew_; (first | rw [← Ny1030.out] at ho5 | (simp only [Int.reduceToNat] at ho5; rw [← Ny1030.out] at ho5)); have O0 := Aside0.mk (Kd.R_lower ho5 (below_size (bw_ HB))); replace K0 := bk_ K0 hb; replace HB := bs_ HB hb; clear hb ho5; obtain ⟨a1, c0, e0⟩ := Kd.R_slice O0.out; subst e0; obtain ⟨z0, z1, z2, f0, f1, f2⟩ := c3_ K0)); refine bodyPost_ret (results_cell_row rfl _ _ g0 36 #[.bool t1026, .slice a1 y1030.length c0, .int .i64 t1028] (0, 0) _ rfl (by (with_reducible repeat (first | refine blk_drewN ?_ _ | refine blk_drew ?_ | refine blk_alloc ?_ _)); refine blk_put (cs := #[.bool t1026, .slice a1 y1030.length c0, .int .i64 0]) ?_ 2 _ rfl; (with_reducible repeat (first | refine blk_drewN ?_ _ | refine blk_drew ?_ | refine blk_alloc ?_ _)); refine blk_put (cs := #[.bool t1026, .slice none 0 0, .int .i64 0]) ?_ 1 _ rfl; (with_reducible repeat (first | refine blk_drewN ?_ _ | refine blk_drew ?_ | refine blk_alloc ?_ _)); refine blk_put (cs := #[.bool false, .slice none 0 0, .int .i64 0]) ?_ 0 _ rfl; (with_reducible repeat (first | refine blk_drewN ?_ _ | refine blk_drew ?_ | refine blk_alloc ?_ _)); exact K0.out) Tryd.underlying36 rfl (by kernel_rfl)) rfl ?_; exact ⟨_, er_, by refine rz_ ?_; exact Kd.R_mono (Kd.R_far (p := ⟨g0, 2, none⟩) (Kd.R_far (p := ⟨g0, 1, none⟩) (Kd.R_far (p := ⟨g0, 0, none⟩) (Kd.R_types O0.out K0.out (by decide)) (fun _ hk => hk.2) (.bool t1026)) (fun _ hk => hk.2) (.slice a1 y1030.length c0)) (fun _ hk => hk.2) (.int .i64 t1028)) (fun _ hk => trivial), bw_ HB⟩
def ffma_nought.f (a0 : Int) (a1 : Int) (a2 : Int) : Option (Int) := if a0 = a1 then (some a0) else ((parts_Zero.f (a2 == 4)).bind fun t1033 => (some t1033))
set_option maxHeartbeats 8000000 in
set_option maxRecDepth 100000 in
theorem ffma_nought.calls (a0 : Int) (a1 : Int) (a2 : Int) (r : Int) (w : World) (h : ffma_nought.f a0 a1 a2 = some r) :
  Calls Tryd.prog 88 #[.int .u64 a0, .int .u64 a1, .int .i64 a2] w fun e w' => e = .returned (.int .u64 r) ∧ Drawn0 w w' := by
 have H := h; rw [ffma_nought.f] at H; clear h; by_cases c4 : a0 = a1
 ·
  rw [if_pos c4] at H; obtain ⟨c4b0, c4b1⟩ := q1_ c4; clear c4; obtain rfl := Option.some.inj H; go_enter Tryd.func88, Tryd.ntmps88; go_wp2; go_ret; exact ⟨rf_, dr_⟩
 rw [if_neg c4] at H; obtain ⟨c4b0, c4b1⟩ := q0_ c4; replace H := bo_ H; obtain ⟨t1033, A5, H⟩ := H; replace H : (some t1033) = some r := H; obtain rfl := Option.some.inj H; go_enter Tryd.func88, Tryd.ntmps88; go_wp2_with (first | ((with_reducible refine gate_callee (f := 114) rfl ?_); refine gl_ (some 13) rfl rfl Tryd.func114 (by kernel_rfl) rfl #[.bool (a2 == 4)] rfl ?_; (with_reducible refine (parts_Zero.calls (a2 == 4) t1033 _ A5.out).mono ?_); rintro e w' ⟨rfl, ⟨nd, rfl⟩⟩; refine ⟨_, rfl, ?_⟩)); go_ret; exact ⟨rf_, dr_⟩
def parts_wide_len.f (a0_0 : Int) (a0_1 : Int) : Option (Int) := if a0_0 = 0 then ((bits_Len64.f a0_1).bind fun t1035 => (some t1035)) else ((bits_Len64.f a0_0).bind fun t1036 => (some (wrap64 (64 + t1036))))
set_option maxHeartbeats 8000000 in
set_option maxRecDepth 100000 in
theorem parts_wide_len.calls (a0_0 : Int) (a0_1 : Int) (r : Int) (w : World) (h : parts_wide_len.f a0_0 a0_1 = some r) :
  Calls Tryd.prog 118 #[.agg #[.int .u64 a0_0, .int .u64 a0_1]] w fun e w' => e = .returned (.int .i64 r) ∧ Below w.heap.size w w' := by
 have hu139 := Tryd.underlying139; have HB := Aside0.mk (Below.refl w.heap.size w); have H := h; rw [parts_wide_len.f] at H; clear h; by_cases c2 : a0_0 = 0
 ·
  rw [if_pos c2] at H; obtain ⟨c2b0, c2b1⟩ := q1_ c2; clear c2; replace H := bo_ H; obtain ⟨t1035, A3, H⟩ := H; replace H : (some t1035) = some r := H; obtain rfl := Option.some.inj H; go_enter Tryd.func118, Tryd.ntmps118; go_wp2_with (first | ((with_reducible refine gate_dst (N := 1) rfl ?_); refine box_event ?hg (N := 1) ?hd (cs := #[.int .u64 a0_0, .int .u64 a0_1]) (t := 139) ?hr ?_; (case hd => rfl); (case hg => rfl); (case hr => first | (go_simp; done) | (go_simp; rfl)); intro g0 hg w4 hbox hb; have K0 := Aside0.mk (hbox); have G0 := gw_ hg HB; have E0 := gw_ hg HB; replace HB := bs_ HB hb; clear hb hbox hg; obtain ⟨z0, z1, f0, f1⟩ := c2_ K0) | ((with_reducible refine gate_callee (f := 60) rfl ?_); refine gl_ (some 12) rfl rfl Tryd.func60 (by kernel_rfl) rfl #[.int .u64 a0_1] rfl ?_; (with_reducible refine (bits_Len64.calls a0_1 t1035 _ A3.out).mono ?_); rintro e w' ⟨rfl, ⟨nd, rfl⟩⟩; refine ⟨_, rfl, ?_⟩)); go_ret; exact ⟨er_, bw_ HB⟩
 rw [if_neg c2] at H; obtain ⟨c2b0, c2b1⟩ := q0_ c2; replace H := bo_ H; obtain ⟨t1036, A6, H⟩ := H; replace H : (some (wrap64 (64 + t1036))) = some r := H; obtain rfl := Option.some.inj H; go_enter Tryd.func118, Tryd.ntmps118; go_wp2_with (first | ((with_reducible refine gate_dst (N := 1) rfl ?_); refine box_event ?hg (N := 1) ?hd (cs := #[.int .u64 a0_0, .int .u64 a0_1]) (t := 139) ?hr ?_; (case hd => rfl); (case hg => rfl); (case hr => first | (go_simp; done) | (go_simp; rfl)); intro g0 hg w7 hbox hb; have K0 := Aside0.mk (hbox); have G0 := gw_ hg HB; have E0 := gw_ hg HB; replace HB := bs_ HB hb; clear hb hbox hg; obtain ⟨z2, z3, f2, f3⟩ := c2_ K0) | ((with_reducible refine gate_callee (f := 60) rfl ?_); refine gl_ (some 8) rfl rfl Tryd.func60 (by kernel_rfl) rfl #[.int .u64 a0_0] rfl ?_; (with_reducible refine (bits_Len64.calls a0_0 t1036 _ A6.out).mono ?_); rintro e w' ⟨rfl, ⟨nd, rfl⟩⟩; refine ⟨_, rfl, ?_⟩)); go_ret; exact ⟨er_, bw_ HB⟩
end Go.Proofs.YtjgdpjbkmcjbcaaDoor.PG
