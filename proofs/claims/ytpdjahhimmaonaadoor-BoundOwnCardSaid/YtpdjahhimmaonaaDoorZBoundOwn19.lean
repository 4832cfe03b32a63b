/- Parts of a proof. -/
import Derived.Test.YtpdjahhimmaonaaDoorZBoundOwn15
import Derived.Test.YtpdjahhimmaonaaDoorZBoundOwn16
import Derived.Lib.Strings
import Derived.Lib.Slices
import Derived.Lib.Walk
import Derived.Lib.Bytealg
import Derived.Test.YtpdjahhimmaonaaDoorZBoundOwn18
import Derived.Lib.IndexLaws
import Derived.Deep.QuietTactic
import Derived.BigQuiet
section
namespace Go.Proofs.YtpdjahhimmaonaaDoor.PD
open Go.RowKit Go.Proofs.YtpdjahhimmaonaaDoorW.PrintWords Go.Proofs.YtpdjahhimmaonaaDoorW.PrintLast Go.Proofs.YtpdjahhimmaonaaDoorW.PrintMore
attribute [local go_sem] max2_int min2_int max_two min_two max_three min_three max_four min_four
set_option linter.unusedVariables false
set_option linter.unusedSimpArgs false
attribute [local go_sem] fld138_1
def bound_odd.l0 : Nat → Int → List Int → Int → Int → Option (Bool)
 | 0, _, _, _, _ => none
 | k + 1, x0, x7, x8, x9 => if x9 < x8 then (if 0 ≤ x9 then (if x9 < (x7.length : Int) then (if (rd x7 x9) < 1 then (some true) else (if (rd x7 x9) > 64 then (some true) else (bound_odd.l0 k x0 x7 x8 (wrap64 (x9 + 1))))) else (none)) else (none)) else (some (decide (x0 < 1)))
def bound_odd.f (k : Nat) (a0 : Int) (l1 : List Int) : Option (Bool) := bound_odd.l0 k a0 l1 (l1.length : Int) 0
set_option maxHeartbeats 8000000 in
set_option maxRecDepth 100000 in
theorem bound_odd.calls (k : Nat) (a0 : Int) (A1 : Option Addr) (c1 : Nat) (l1 : List Int) (r : Bool) (w : World) (hr1 : Kd.C (Kd.int .i64) w A1 l1.length l1) (hc1 : l1.length ≤ c1) (h : bound_odd.f k a0 l1 = some r) :
  Calls Tryd.prog 32 #[.int .i64 a0, .slice A1 l1.length c1] w fun e w' => e = .returned (.bool r) ∧ Drawn0 w w' := by
 have R0 := Aside0.mk hr1; have C0 := Aside0.mk hc1; clear hr1 hc1; have H : (bound_odd.l0 k a0 l1 (l1.length : Int) 0) = some r := h; clear h; have H' := Aside0.mk H; clear H; go_enter Tryd.func32, Tryd.ntmps32; go_wp2; go_loopg [9] k (fun kq v9 w' => ∃ (x9_1 : Int), v9 = .int .i64 x9_1 ∧ Aside0 (bound_odd.l0 kq a0 l1 (l1.length : Int) x9_1 = some r) ∧ Aside0 (kq ≤ k) ∧ Drawn0 w w'); case atStart => exact ⟨(0), rf_, H', ⟨Nat.le_refl _⟩, dr_⟩
 case round =>
  clear H'; (try clear c1); obtain ⟨x9_1, rfl, HA, HK1, ⟨m1, rfl⟩⟩ := hrel; cases gk with
  | zero => exact absurd HA.out (by simp [bound_odd.l0])
  | succ k1 =>
   have H := HA.out; clear HA; simp only [bound_odd.l0] at H; by_cases c3 : x9_1 < (l1.length : Int)
   ·
    rw [if_pos c3] at H; have c3b0 := decide_eq_true c3; clear c3; by_cases c4 : 0 ≤ x9_1
    ·
     rw [if_pos c4] at H; have c4b0 := decide_eq_true c4; clear c4; by_cases c5 : x9_1 < (l1.length : Int)
     ·
      rw [if_pos c5] at H; have c5b0 := decide_eq_true c5; clear c5; by_cases c6 : (rd l1 x9_1) < 1
      ·
       rw [if_pos c6] at H; have c6b0 := decide_eq_true c6; clear c6; obtain rfl := Option.some.inj H; have p185 : 0 ≤ (x9_1 : Int) := od_; have q185 : x9_1 < (l1.length : Int) := od_; obtain ⟨ad185, e185, hx185_0⟩ := Kd.at_int R0.out x9_1 p185 q185; cases e185
       replace p185 := eq_true p185; replace q185 := eq_true q185; go_wp2; go_ret; exact ⟨rf_, dr_⟩
      rw [if_neg c6] at H; have c6b0 := decide_eq_false c6; clear c6; by_cases c7 : (rd l1 x9_1) > 64
      ·
       rw [if_pos c7] at H; have c7b0 : decide (64 < (rd l1 x9_1)) = true := decide_eq_true c7; clear c7; obtain rfl := Option.some.inj H; have p185 : 0 ≤ (x9_1 : Int) := od_; have q185 : x9_1 < (l1.length : Int) := od_; obtain ⟨ad185, e185, hx185_0⟩ := Kd.at_int R0.out x9_1 p185 q185; cases e185
       replace p185 := eq_true p185; replace q185 := eq_true q185; go_wp2; go_ret; exact ⟨rf_, dr_⟩
      rw [if_neg c7] at H; have c7b0 : decide (64 < (rd l1 x9_1)) = false := decide_eq_false c7; clear c7; have H' := Aside0.mk H; clear H; have p185 : 0 ≤ (x9_1 : Int) := od_; have q185 : x9_1 < (l1.length : Int) := od_; obtain ⟨ad185, e185, hx185_0⟩ := Kd.at_int R0.out x9_1 p185 q185; cases e185
      replace p185 := eq_true p185; replace q185 := eq_true q185; go_wp2; go_roundg k1; case measure => have := HK1.out; omega
      case rel => exact ⟨(wrap64 (x9_1 + 1)), rf_, H', ⟨by have := HK1.out; omega⟩, dr_⟩
     rw [if_neg c5] at H; exact absurd H (by simp)
    rw [if_neg c4] at H; exact absurd H (by simp)
   rw [if_neg c3] at H; have c3b0 := decide_eq_false c3; clear c3; obtain rfl := Option.some.inj H; go_wp2; go_ret; exact ⟨rf_, dr_⟩
def dyadic_Check.f (a0_0 : Bool) (l0_1 : List Int) (a0_2 : Int) : Option (Int) := if a0_2 < (-16384) then (some 9) else (if a0_2 > 16384 then (some 9) else (if (l0_1.length : Int) > 1024 then (some 9) else (some 0)))
set_option maxHeartbeats 8000000 in
set_option maxRecDepth 100000 in
theorem dyadic_Check.calls (a0_0 : Bool) (A0_1 : Option Addr) (c0_1 : Nat) (l0_1 : List Int) (a0_2 : Int) (r : Int) (w : World) (hr0_1 : Kd.C (Kd.int .u64) w A0_1 l0_1.length l0_1) (hc0_1 : l0_1.length ≤ c0_1) (h : dyadic_Check.f a0_0 l0_1 a0_2 = some r) :
  Calls Tryd.prog 61 #[.agg #[.bool a0_0, .slice A0_1 l0_1.length c0_1, .int .i64 a0_2]] w fun e w' => e = .returned (.int .i64 r) ∧ Below w.heap.size w w' := by
 have hu32 := Tryd.underlying32; have R0 := Aside0.mk hr0_1; have C0 := Aside0.mk hc0_1; clear hr0_1 hc0_1; have HB := Aside0.mk (Below.refl w.heap.size w); have H := h; rw [dyadic_Check.f] at H; clear h; by_cases c2 : a0_2 < (-16384)
 ·
  rw [if_pos c2] at H; have c2b0 := decide_eq_true c2; clear c2; obtain rfl := Option.some.inj H; go_enter Tryd.func61, Tryd.ntmps61; go_wp2_with (first | ((with_reducible refine gate_dst (N := 1) rfl ?_); (try (refine gate_guard (by rfl) ?_; dsimp only)); refine box_event ?hg (N := 1) ?hd (cs := #[.bool a0_0, .slice A0_1 l0_1.length c0_1, .int .i64 a0_2]) (t := 32) ?hr ?_; (case hd => rfl); (case hg => rfl); (case hr => first | (go_simp; done) | (go_simp; rfl)); intro g0 hg w3 hbox hb; have K0 := Aside0.mk (hbox); have G0 := gw_ hg HB; have E0 := gw_ hg HB; replace HB := bs_ HB hb; clear hb hbox hg; obtain ⟨z0, z1, z2, f0, f1, f2⟩ := c3_ K0)); go_ret; exact ⟨er_, bw_ HB⟩
 rw [if_neg c2] at H; have c2b0 := decide_eq_false c2; clear c2; by_cases c5 : a0_2 > 16384
 ·
  rw [if_pos c5] at H; have c5b0 : decide (16384 < a0_2) = true := decide_eq_true c5; clear c5; obtain rfl := Option.some.inj H; go_enter Tryd.func61, Tryd.ntmps61; go_wp2_with (first | ((with_reducible refine gate_dst (N := 1) rfl ?_); (try (refine gate_guard (by rfl) ?_; dsimp only)); refine box_event ?hg (N := 1) ?hd (cs := #[.bool a0_0, .slice A0_1 l0_1.length c0_1, .int .i64 a0_2]) (t := 32) ?hr ?_; (case hd => rfl); (case hg => rfl); (case hr => first | (go_simp; done) | (go_simp; rfl)); intro g0 hg w6 hbox hb; have K0 := Aside0.mk (hbox); have G0 := gw_ hg HB; have E0 := gw_ hg HB; replace HB := bs_ HB hb; clear hb hbox hg; obtain ⟨z3, z4, z5, f3, f4, f5⟩ := c3_ K0)); go_ret; exact ⟨er_, bw_ HB⟩
 rw [if_neg c5] at H; have c5b0 : decide (16384 < a0_2) = false := decide_eq_false c5; clear c5; by_cases c8 : (l0_1.length : Int) > 1024
 ·
  rw [if_pos c8] at H; have c8b0 : decide (1024 < (l0_1.length : Int)) = true := decide_eq_true c8; have c8b1 : decide (1024 < l0_1.length) = true := decide_eq_true (by omega); clear c8; obtain rfl := Option.some.inj H; go_enter Tryd.func61, Tryd.ntmps61; go_wp2_with (first | ((with_reducible refine gate_dst (N := 1) rfl ?_); (try (refine gate_guard (by rfl) ?_; dsimp only)); refine box_event ?hg (N := 1) ?hd (cs := #[.bool a0_0, .slice A0_1 l0_1.length c0_1, .int .i64 a0_2]) (t := 32) ?hr ?_; (case hd => rfl); (case hg => rfl); (case hr => first | (go_simp; done) | (go_simp; rfl)); intro g0 hg w9 hbox hb; have K0 := Aside0.mk (hbox); have G0 := gw_ hg HB; have E0 := gw_ hg HB; replace HB := bs_ HB hb; clear hb hbox hg; obtain ⟨z6, z7, z8, f6, f7, f8⟩ := c3_ K0)); go_ret; exact ⟨er_, bw_ HB⟩
 rw [if_neg c8] at H; have c8b0 : decide (1024 < (l0_1.length : Int)) = false := decide_eq_false c8; have c8b1 : decide (1024 < l0_1.length) = false := decide_eq_false (by omega); clear c8; obtain rfl := Option.some.inj H; go_enter Tryd.func61, Tryd.ntmps61; go_wp2_with (first | ((with_reducible refine gate_dst (N := 1) rfl ?_); (try (refine gate_guard (by rfl) ?_; dsimp only)); refine box_event ?hg (N := 1) ?hd (cs := #[.bool a0_0, .slice A0_1 l0_1.length c0_1, .int .i64 a0_2]) (t := 32) ?hr ?_; (case hd => rfl); (case hg => rfl); (case hr => first | (go_simp; done) | (go_simp; rfl)); intro g0 hg w11 hbox hb; have K0 := Aside0.mk (hbox); have G0 := gw_ hg HB; have E0 := gw_ hg HB; replace HB := bs_ HB hb; clear hb hbox hg; obtain ⟨z9, za, zb, f9, fa, fb⟩ := c3_ K0)); go_ret; exact ⟨er_, bw_ HB⟩
def nat_size.l0 : Nat → List Int → Int → Option (Int)
 | 0, _, _ => none
 | k + 1, x0, x3 => if x3 > 0 then (if 0 ≤ (wrap64 (x3 - 1)) then (if (wrap64 (x3 - 1)) < (x0.length : Int) then (if (rd x0 (wrap64 (x3 - 1))) = 0 then (nat_size.l0 k x0 (wrap64 (x3 - 1))) else (some x3)) else (none)) else (none)) else (some x3)
def nat_size.f (k : Nat) (l0 : List Int) : Option (Int) := nat_size.l0 k l0 (l0.length : Int)
set_option maxHeartbeats 8000000 in
set_option maxRecDepth 100000 in
theorem nat_size.calls (k : Nat) (A0 : Option Addr) (c0 : Nat) (l0 : List Int) (r : Int) (w : World) (hr0 : Kd.C (Kd.int .u64) w A0 l0.length l0) (hc0 : l0.length ≤ c0) (h : nat_size.f k l0 = some r) :
  Calls Tryd.prog 103 #[.slice A0 l0.length c0] w fun e w' => e = .returned (.int .i64 r) ∧ Drawn0 w w' := by
 have R0 := Aside0.mk hr0; have C0 := Aside0.mk hc0; clear hr0 hc0; have H : (nat_size.l0 k l0 (l0.length : Int)) = some r := h; clear h; have H' := Aside0.mk H; clear H; go_enter Tryd.func103, Tryd.ntmps103; go_wp2; go_loopg [3] k (fun kq v3 w' => ∃ (x3_1 : Int), v3 = .int .i64 x3_1 ∧ Aside0 (nat_size.l0 kq l0 x3_1 = some r) ∧ Aside0 (kq ≤ k) ∧ Drawn0 w w'); case atStart => exact ⟨((l0.length : Int)), rf_, H', ⟨Nat.le_refl _⟩, dr_⟩
 case round =>
  clear H'; obtain ⟨x3_1, rfl, HA, HK1, ⟨m1, rfl⟩⟩ := hrel; cases gk with
  | zero => exact absurd HA.out (by simp [nat_size.l0])
  | succ k1 =>
   have H := HA.out; clear HA; simp only [nat_size.l0] at H; by_cases c2 : x3_1 > 0
   ·
    rw [if_pos c2] at H; have c2b0 : decide (0 < x3_1) = true := decide_eq_true c2; clear c2; obtain ⟨ji3, j0⟩ : ∃ j_ : Int, (wrap64 (x3_1 - 1)) = j_ := ⟨_, rfl⟩; (replace H : (if 0 ≤ (ji3) then (if (ji3) < (l0.length : Int) then (if (rd l0 (ji3)) = 0 then (nat_size.l0 k1 l0 ji3) else (some x3_1)) else (none)) else (none)) = some r := by first | (rw [j0] at H; exact H) | (simp only [j0] at H ⊢; exact H)); have hji3w : (IntKind.i64.wrap (x3_1 - 1)) = ji3 := (i64_w _).trans j0; by_cases c4 : 0 ≤ (ji3)
    ·
     rw [if_pos c4] at H; have c4b0 := decide_eq_true c4; clear c4; by_cases c5 : (ji3) < (l0.length : Int)
     ·
      rw [if_pos c5] at H; have c5b0 := decide_eq_true c5; clear c5; by_cases c6 : (rd l0 (ji3)) = 0
      ·
       rw [if_pos c6] at H; obtain ⟨c6b0, c6b1⟩ := q1_ c6; clear c6; have H' := Aside0.mk H; clear H; have p187 : 0 ≤ ((ji3) : Int) := od_; have q187 : (ji3) < (l0.length : Int) := od_; obtain ⟨ad187, e187, hx187_0⟩ := Kd.at_int R0.out (ji3) p187 q187; cases e187
       replace p187 := eq_true p187; replace q187 := eq_true q187; go_wp2; go_roundg k1; case measure => have := HK1.out; omega
       case rel => exact ⟨(ji3), (by first | rfl | (simp; done) | (simp only [← j0] <;> (first | rfl | simp)) | (simp [*]; done)), H', ⟨by have := HK1.out; omega⟩, dr_⟩
      rw [if_neg c6] at H; obtain ⟨c6b0, c6b1⟩ := q0_ c6; obtain rfl := Option.some.inj H; have p187 : 0 ≤ ((ji3) : Int) := od_; have q187 : (ji3) < (l0.length : Int) := od_; obtain ⟨ad187, e187, hx187_0⟩ := Kd.at_int R0.out (ji3) p187 q187; cases e187
      replace p187 := eq_true p187; replace q187 := eq_true q187; go_wp2; go_ret; exact ⟨by first | rfl | (simp; done) | (simp only [← j0] <;> (first | rfl | simp)) | (simp [*]; done), dr_⟩
     rw [if_neg c5] at H; exact absurd H (by simp)
    rw [if_neg c4] at H; exact absurd H (by simp)
   rw [if_neg c2] at H; have c2b0 : decide (0 < x3_1) = false := decide_eq_false c2; clear c2; obtain rfl := Option.some.inj H; go_wp2; go_ret; exact ⟨rf_, dr_⟩
def nat_Bits.f (k : Nat) (l0 : List Int) : Option (Int) := (nat_size.f k l0).bind fun t188 => (if t188 = 0 then (some 0) else (if 0 ≤ (wrap64 (t188 - 1)) then (if (wrap64 (t188 - 1)) < (l0.length : Int) then ((bits_Len64.f (rd l0 (wrap64 (t188 - 1)))).bind fun t190 => (some (wrap64 ((wrap64 (64 * (wrap64 (t188 - 1)))) + t190)))) else (none)) else (none)))
set_option maxHeartbeats 8000000 in
set_option maxRecDepth 100000 in
theorem nat_Bits.calls (k : Nat) (A0 : Option Addr) (c0 : Nat) (l0 : List Int) (r : Int) (w : World) (hr0 : Kd.C (Kd.int .u64) w A0 l0.length l0) (hc0 : l0.length ≤ c0) (h : nat_Bits.f k l0 = some r) :
  Calls Tryd.prog 81 #[.slice A0 l0.length c0] w fun e w' => e = .returned (.int .i64 r) ∧ Drawn0 w w' := by
 have R0 := Aside0.mk hr0; have C0 := Aside0.mk hc0; clear hr0 hc0; have H := h; rw [nat_Bits.f] at H; clear h; replace H := bo_ H; obtain ⟨t188, A2, H⟩ := H; (try dsimp only at H); by_cases c3 : t188 = 0
 ·
  rw [if_pos c3] at H; obtain ⟨c3b0, c3b1⟩ := q1_ c3; clear c3; obtain rfl := Option.some.inj H; go_enter Tryd.func81, Tryd.ntmps81; go_wp2_with (first | ((with_reducible refine gate_callee (f := 103) rfl ?_); refine gl_ (some 5) rfl rfl Tryd.func103 (by kernel_rfl) rfl #[.slice A0 l0.length c0] rfl ?_; (with_reducible refine (nat_size.calls k _ _ l0 t188 _ ?side1 ?side2 A2.out).mono ?_); (case side1 => exact cl_ R0.out); (case side2 => exact C0.out); rintro e w' ⟨rfl, ⟨nd, rfl⟩⟩; refine ⟨_, rfl, ?_⟩)); go_ret; exact ⟨rf_, dr_⟩
 rw [if_neg c3] at H; obtain ⟨c3b0, c3b1⟩ := q0_ c3; obtain ⟨ji4, j0⟩ : ∃ j_ : Int, (wrap64 (t188 - 1)) = j_ := ⟨_, rfl⟩; (replace H : (if 0 ≤ (ji4) then (if (ji4) < (l0.length : Int) then ((bits_Len64.f (rd l0 (ji4))).bind fun t190 => (some (wrap64 ((wrap64 (64 * (ji4))) + t190)))) else (none)) else (none)) = some r := by first | (rw [j0] at H; exact H) | (simp only [j0] at H ⊢; exact H)); (try rw [j0] at A2); have hji4w : (IntKind.i64.wrap (t188 - 1)) = ji4 := (i64_w _).trans j0; by_cases c5 : 0 ≤ (ji4)
 ·
  rw [if_pos c5] at H; have c5b0 := decide_eq_true c5; clear c5; by_cases c6 : (ji4) < (l0.length : Int)
  ·
   rw [if_pos c6] at H; have c6b0 := decide_eq_true c6; clear c6; replace H := bo_ H; obtain ⟨t190, A7, H⟩ := H; (try dsimp only at H); obtain rfl := Option.some.inj H; go_enter Tryd.func81, Tryd.ntmps81; go_wp2_with (first | ((with_reducible refine gate_callee (f := 103) rfl ?_); refine gl_ (some 5) rfl rfl Tryd.func103 (by kernel_rfl) rfl #[.slice A0 l0.length c0] rfl ?_; (with_reducible refine (nat_size.calls k _ _ l0 t188 _ ?side1 ?side2 A2.out).mono ?_); (case side1 => exact cl_ R0.out); (case side2 => exact C0.out); rintro e w' ⟨rfl, ⟨nd, rfl⟩⟩; refine ⟨_, rfl, ?_⟩; have p189 : 0 ≤ ((ji4) : Int) := od_; have q189 : (ji4) < (l0.length : Int) := od_; obtain ⟨ad189, e189, hx189_0⟩ := Kd.at_int R0.out (ji4) p189 q189; cases e189; replace p189 := eq_true p189; replace q189 := eq_true q189) | ((with_reducible refine gate_callee (f := 104) rfl ?_); refine goesL_ (some 16) rfl rfl Tryd.func104 (by kernel_rfl) rfl #[.int .u64 (rd l0 (ji4))] rfl (by (try simp only [List.map_toArray, List.map_cons, List.map_nil]); first | done | (simp only [j0]; rfl) | rfl | (simp only [List.length_drop, List.length_take]; rfl)) ?_; (with_reducible refine (bits_Len64.calls (rd l0 (ji4)) t190 _ A7.out).mono ?_); rintro e w' ⟨rfl, ⟨nd, rfl⟩⟩; refine ⟨_, rfl, ?_⟩)); go_ret; exact ⟨by first | rfl | (simp; done) | (simp only [← j0] <;> (first | rfl | simp)) | (simp [*]; done), dr_⟩
  rw [if_neg c6] at H; exact absurd H (by simp)
 rw [if_neg c5] at H; exact absurd H (by simp)
def whole_Sign.f (k : Nat) (a0_0 : Bool) (l0_1 : List Int) : Option (Int) := (nat_Bits.f k l0_1).bind fun t192 => (if t192 = 0 then (some 0) else (if a0_0 = true then (some (-1)) else (some 1)))
set_option maxHeartbeats 8000000 in
set_option maxRecDepth 100000 in
theorem whole_Sign.calls (k : Nat) (a0_0 : Bool) (A0_1 : Option Addr) (c0_1 : Nat) (l0_1 : List Int) (r : Int) (w : World) (hr0_1 : Kd.C (Kd.int .u64) w A0_1 l0_1.length l0_1) (hc0_1 : l0_1.length ≤ c0_1) (h : whole_Sign.f k a0_0 l0_1 = some r) :
  Calls Tryd.prog 64 #[.agg #[.bool a0_0, .slice A0_1 l0_1.length c0_1]] w fun e w' => e = .returned (.int .i64 r) ∧ Below w.heap.size w w' := by
 have hu73 := Tryd.underlying73; have R0 := Aside0.mk hr0_1; have C0 := Aside0.mk hc0_1; clear hr0_1 hc0_1; have HB := Aside0.mk (Below.refl w.heap.size w); have H := h; rw [whole_Sign.f] at H; clear h; replace H := bo_ H; obtain ⟨t192, A2, H⟩ := H; (try dsimp only at H); by_cases c3 : t192 = 0
 ·
  rw [if_pos c3] at H; obtain ⟨c3b0, c3b1⟩ := q1_ c3; clear c3; obtain rfl := Option.some.inj H; go_enter Tryd.func64, Tryd.ntmps64; go_wp2_with (first | ((with_reducible refine gate_dst (N := 1) rfl ?_); refine box_event ?hg (N := 1) ?hd (cs := #[.bool a0_0, .slice A0_1 l0_1.length c0_1]) (t := 73) ?hr ?_; (case hd => rfl); (case hg => rfl); (case hr => first | (go_simp; done) | (go_simp; rfl)); intro g0 hg w4 hbox hb; have K0 := Aside0.mk (hbox); have G0 := gw_ hg HB; have E0 := gw_ hg HB; replace HB := bs_ HB hb; clear hb hbox hg; obtain ⟨z0, z1, f0, f1⟩ := c2_ K0) | ((with_reducible refine gate_callee (f := 81) rfl ?_); refine gl_ (some 6) rfl rfl Tryd.func81 (by kernel_rfl) rfl #[.slice A0_1 l0_1.length c0_1] rfl ?_; (with_reducible refine (nat_Bits.calls k _ _ l0_1 t192 _ ?side1 ?side2 A2.out).mono ?_); (case side1 => exact cl_ (Kd.C_below R0.out HB.out)); (case side2 => exact C0.out); rintro e w' ⟨rfl, ⟨nd, rfl⟩⟩; refine ⟨_, rfl, ?_⟩)); go_ret; exact ⟨er_, bw_ HB⟩
 rw [if_neg c3] at H; obtain ⟨c3b0, c3b1⟩ := q0_ c3; by_cases c6 : a0_0 = true
 ·
  subst c6; rw [if_pos rfl] at H; obtain rfl := Option.some.inj H; go_enter Tryd.func64, Tryd.ntmps64; go_wp2_with (first | ((with_reducible refine gate_dst (N := 1) rfl ?_); refine box_event ?hg (N := 1) ?hd (cs := #[.bool true, .slice A0_1 l0_1.length c0_1]) (t := 73) ?hr ?_; (case hd => rfl); (case hg => rfl); (case hr => first | (go_simp; done) | (go_simp; rfl)); intro g0 hg w7 hbox hb; have K0 := Aside0.mk (hbox); have G0 := gw_ hg HB; have E0 := gw_ hg HB; replace HB := bs_ HB hb; clear hb hbox hg; obtain ⟨z2, z3, f2, f3⟩ := c2_ K0) | ((with_reducible refine gate_callee (f := 81) rfl ?_); refine gl_ (some 6) rfl rfl Tryd.func81 (by kernel_rfl) rfl #[.slice A0_1 l0_1.length c0_1] rfl ?_; (with_reducible refine (nat_Bits.calls k _ _ l0_1 t192 _ ?side1 ?side2 A2.out).mono ?_); (case side1 => exact cl_ (Kd.C_below R0.out HB.out)); (case side2 => exact C0.out); rintro e w' ⟨rfl, ⟨nd, rfl⟩⟩; refine ⟨_, rfl, ?_⟩)); go_ret; exact ⟨er_, bw_ HB⟩
 replace c6 := Bool.eq_false_iff.mpr c6; subst c6; rw [if_neg nt_] at H; obtain rfl := Option.some.inj H; go_enter Tryd.func64, Tryd.ntmps64; go_wp2_with (first | ((with_reducible refine gate_dst (N := 1) rfl ?_); refine box_event ?hg (N := 1) ?hd (cs := #[.bool false, .slice A0_1 l0_1.length c0_1]) (t := 73) ?hr ?_; (case hd => rfl); (case hg => rfl); (case hr => first | (go_simp; done) | (go_simp; rfl)); intro g0 hg w9 hbox hb; have K0 := Aside0.mk (hbox); have G0 := gw_ hg HB; have E0 := gw_ hg HB; replace HB := bs_ HB hb; clear hb hbox hg; obtain ⟨z4, z5, f4, f5⟩ := c2_ K0) | ((with_reducible refine gate_callee (f := 81) rfl ?_); refine gl_ (some 6) rfl rfl Tryd.func81 (by kernel_rfl) rfl #[.slice A0_1 l0_1.length c0_1] rfl ?_; (with_reducible refine (nat_Bits.calls k _ _ l0_1 t192 _ ?side1 ?side2 A2.out).mono ?_); (case side1 => exact cl_ (Kd.C_below R0.out HB.out)); (case side2 => exact C0.out); rintro e w' ⟨rfl, ⟨nd, rfl⟩⟩; refine ⟨_, rfl, ?_⟩)); go_ret; exact ⟨er_, bw_ HB⟩
end Go.Proofs.YtpdjahhimmaonaaDoor.PD
end
section
namespace Go.Proofs.YtpdjahhimmaonaaDoor.PD
open Go.RowKit Go.Proofs.YtpdjahhimmaonaaDoorW.PrintWords Go.Proofs.YtpdjahhimmaonaaDoorW.PrintLast Go.Proofs.YtpdjahhimmaonaaDoorW.PrintMore
attribute [local go_sem] max2_int min2_int max_two min_two max_three min_three max_four min_four
set_option linter.unusedVariables false
set_option linter.unusedSimpArgs false
attribute [local go_sem] fld138_1
def natdiv_Zeros.l0 : Nat → List Int → Int → Int → Option (Int)
 | 0, _, _, _ => none
 | k + 1, x5, x6, x7 => if x7 < x6 then (if 0 ≤ x7 then (if x7 < (x5.length : Int) then (if (rd x5 x7) = 0 then (natdiv_Zeros.l0 k x5 x6 (wrap64 (x7 + 1))) else ((bits_TrailingZeros64.f (rd x5 x7)).bind fun t194 => (some (wrap64 ((wrap64 (64 * x7)) + t194))))) else (none)) else (none)) else (some 0)
def natdiv_Zeros.f (k : Nat) (l0 : List Int) : Option (Int) := natdiv_Zeros.l0 k l0 (l0.length : Int) 0
set_option maxHeartbeats 8000000 in
set_option maxRecDepth 100000 in
theorem natdiv_Zeros.calls (k : Nat) (A0 : Option Addr) (c0 : Nat) (l0 : List Int) (r : Int) (w : World) (hr0 : Kd.C (Kd.int .u64) w A0 l0.length l0) (hc0 : l0.length ≤ c0) (ht_ : Tz w) (h : natdiv_Zeros.f k l0 = some r) :
  Calls Tryd.prog 84 #[.slice A0 l0.length c0] w fun e w' => e = .returned (.int .i64 r) ∧ Drawn0 w w' := by
 have HT := Aside0.mk ht_; clear ht_; have R0 := Aside0.mk hr0; have C0 := Aside0.mk hc0; clear hr0 hc0; have H : (natdiv_Zeros.l0 k l0 (l0.length : Int) 0) = some r := h; clear h; have H' := Aside0.mk H; clear H; go_enter Tryd.func84, Tryd.ntmps84; go_wp2; go_loopg [7] k (fun kq v7 w' => ∃ (x7_1 : Int), v7 = .int .i64 x7_1 ∧ Aside0 (natdiv_Zeros.l0 kq l0 (l0.length : Int) x7_1 = some r) ∧ Aside0 (kq ≤ k) ∧ Drawn0 w w'); case atStart => exact ⟨(0), rf_, H', ⟨Nat.le_refl _⟩, dr_⟩
 case round =>
  clear H'; obtain ⟨x7_1, rfl, HA, HK1, ⟨m1, rfl⟩⟩ := hrel; cases gk with
  | zero => exact absurd HA.out (by simp [natdiv_Zeros.l0])
  | succ k1 =>
   have H := HA.out; clear HA; simp only [natdiv_Zeros.l0] at H; by_cases c2 : x7_1 < (l0.length : Int)
   ·
    rw [if_pos c2] at H; have c2b0 := decide_eq_true c2; clear c2; by_cases c3 : 0 ≤ x7_1
    ·
     rw [if_pos c3] at H; have c3b0 := decide_eq_true c3; clear c3; by_cases c4 : x7_1 < (l0.length : Int)
     ·
      rw [if_pos c4] at H; have c4b0 := decide_eq_true c4; clear c4; by_cases c5 : (rd l0 x7_1) = 0
      ·
       rw [if_pos c5] at H; obtain ⟨c5b0, c5b1⟩ := q1_ c5; clear c5; have H' := Aside0.mk H; clear H; have p193 : 0 ≤ (x7_1 : Int) := od_; have q193 : x7_1 < (l0.length : Int) := od_; obtain ⟨ad193, e193, hx193_0⟩ := Kd.at_int R0.out x7_1 p193 q193; cases e193
       replace p193 := eq_true p193; replace q193 := eq_true q193; go_wp2; go_roundg k1; case measure => have := HK1.out; omega
       case rel => exact ⟨(wrap64 (x7_1 + 1)), rf_, H', ⟨by have := HK1.out; omega⟩, dr_⟩
      rw [if_neg c5] at H; obtain ⟨c5b0, c5b1⟩ := q0_ c5; replace H := bo_ H; obtain ⟨t194, A6, H⟩ := H; (try dsimp only at H); obtain rfl := Option.some.inj H; have p193 : 0 ≤ (x7_1 : Int) := od_; have q193 : x7_1 < (l0.length : Int) := od_; obtain ⟨ad193, e193, hx193_0⟩ := Kd.at_int R0.out x7_1 p193 q193; cases e193
      replace p193 := eq_true p193; replace q193 := eq_true q193; go_wp2_with (first | ((with_reducible refine gate_callee (f := 27) rfl ?_); refine gl_ (some 17) rfl rfl Tryd.func27 (by kernel_rfl) rfl #[.int .u64 (rd l0 x7_1)] rfl ?_; (with_reducible refine (bits_TrailingZeros64.calls (rd l0 x7_1) t194 _ ?sidet A6.out).mono ?_); (case sidet => exact tz0_ HT); rintro e w' ⟨rfl, ⟨nd, rfl⟩⟩; refine ⟨_, rfl, ?_⟩)); go_ret; exact ⟨rf_, dr_⟩
     rw [if_neg c4] at H; exact absurd H (by simp)
    rw [if_neg c3] at H; exact absurd H (by simp)
   rw [if_neg c2] at H; have c2b0 := decide_eq_false c2; clear c2; obtain rfl := Option.some.inj H; go_wp2; go_ret; exact ⟨rf_, dr_⟩
def natdiv_odd.f (a0 : Int) : Option (Bool) := if a0 < 0 then (some true) else (some (decide (a0 > 65536)))
set_option maxHeartbeats 8000000 in
set_option maxRecDepth 100000 in
theorem natdiv_odd.calls (a0 : Int) (r : Bool) (w : World) (h : natdiv_odd.f a0 = some r) :
  Calls Tryd.prog 79 #[.int .i64 a0] w fun e w' => e = .returned (.bool r) ∧ Drawn0 w w' := by
 have H := h; rw [natdiv_odd.f] at H; clear h; by_cases c2 : a0 < 0
 ·
  rw [if_pos c2] at H; have c2b0 := decide_eq_true c2; clear c2; obtain rfl := Option.some.inj H; go_enter Tryd.func79, Tryd.ntmps79; go_wp2; go_ret; exact ⟨rf_, dr_⟩
 rw [if_neg c2] at H; have c2b0 := decide_eq_false c2; clear c2; obtain rfl := Option.some.inj H; go_enter Tryd.func79, Tryd.ntmps79; go_wp2; go_ret; exact ⟨rf_, dr_⟩
end Go.Proofs.YtpdjahhimmaonaaDoor.PD
end
