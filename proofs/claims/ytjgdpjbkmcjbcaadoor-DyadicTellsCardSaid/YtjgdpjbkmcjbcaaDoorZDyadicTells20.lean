/- Parts of a proof. -/
import Derived.Test.YtjgdpjbkmcjbcaaDoorZDyadicTells17
import Derived.Test.YtjgdpjbkmcjbcaaDoorZDyadicTells19
section
namespace Go.Proofs.YtjgdpjbkmcjbcaaDoor.PG
open Go.RowKit Go.Proofs.YtjgdpjbkmcjbcaaDoorW.PrintWords Go.Proofs.YtjgdpjbkmcjbcaaDoorW.PrintLast Go.Proofs.YtjgdpjbkmcjbcaaDoorW.PrintMore
attribute [local go_sem] max2_int min2_int max_two min_two max_three min_three max_four min_four
set_option linter.unusedVariables false
set_option linter.unusedSimpArgs false
attribute [local go_sem] fld139_1
def nat_Bits.f (k : Nat) (l0 : List Int) : Option (Int) := (nat_size.f k l0).bind fun t102 => (if t102 = 0 then (some 0) else (if 0 ≤ (wrap64 (t102 - 1)) then (if (wrap64 (t102 - 1)) < (l0.length : Int) then ((bits_Len64.f (rd l0 (wrap64 (t102 - 1)))).bind fun t104 => (some (wrap64 ((wrap64 (64 * (wrap64 (t102 - 1)))) + t104)))) else (none)) else (none)))
set_option maxHeartbeats 8000000 in
set_option maxRecDepth 100000 in
theorem nat_Bits.calls (k : Nat) (A0 : Option Addr) (c0 : Nat) (l0 : List Int) (r : Int) (w : World) (hr0 : Kd.C (Kd.int .u64) w A0 l0.length l0) (hc0 : l0.length ≤ c0) (h : nat_Bits.f k l0 = some r) :
  Calls Tryd.prog 16 #[.slice A0 l0.length c0] w fun e w' => e = .returned (.int .i64 r) ∧ Drawn0 w w' := by
 have R0 := Aside0.mk hr0; have C0 := Aside0.mk hc0; clear hr0 hc0; have H := h; rw [nat_Bits.f] at H; clear h; replace H := bo_ H; obtain ⟨t102, A2, H⟩ := H; (try dsimp only at H); by_cases c3 : t102 = 0
 ·
  rw [if_pos c3] at H; obtain ⟨c3b0, c3b1⟩ := q1_ c3; clear c3; obtain rfl := Option.some.inj H; go_enter Tryd.func16, Tryd.ntmps16; go_wp2_with (first | ((with_reducible refine gate_callee (f := 59) rfl ?_); refine gl_ (some 5) rfl rfl Tryd.func59 (by kernel_rfl) rfl #[.slice A0 l0.length c0] rfl ?_; (with_reducible refine (nat_size.calls k _ _ l0 t102 _ ?side1 ?side2 A2.out).mono ?_); (case side1 => exact cl_ R0.out); (case side2 => exact C0.out); rintro e w' ⟨rfl, ⟨nd, rfl⟩⟩; refine ⟨_, rfl, ?_⟩)); go_ret; exact ⟨rf_, dr_⟩
 rw [if_neg c3] at H; obtain ⟨c3b0, c3b1⟩ := q0_ c3; obtain ⟨ji4, j0⟩ : ∃ j_ : Int, (wrap64 (t102 - 1)) = j_ := ⟨_, rfl⟩; (replace H : (if 0 ≤ (ji4) then (if (ji4) < (l0.length : Int) then ((bits_Len64.f (rd l0 (ji4))).bind fun t104 => (some (wrap64 ((wrap64 (64 * (ji4))) + t104)))) else (none)) else (none)) = some r := by first | (rw [j0] at H; exact H) | (simp only [j0] at H ⊢; exact H)); (try rw [j0] at A2); have hji4w : (IntKind.i64.wrap (t102 - 1)) = ji4 := (i64_w _).trans j0; by_cases c5 : 0 ≤ (ji4)
 ·
  rw [if_pos c5] at H; have c5b0 := decide_eq_true c5; clear c5; by_cases c6 : (ji4) < (l0.length : Int)
  ·
   rw [if_pos c6] at H; have c6b0 := decide_eq_true c6; clear c6; replace H := bo_ H; obtain ⟨t104, A7, H⟩ := H; (try dsimp only at H); obtain rfl := Option.some.inj H; go_enter Tryd.func16, Tryd.ntmps16; go_wp2_with (first | ((with_reducible refine gate_callee (f := 59) rfl ?_); refine gl_ (some 5) rfl rfl Tryd.func59 (by kernel_rfl) rfl #[.slice A0 l0.length c0] rfl ?_; (with_reducible refine (nat_size.calls k _ _ l0 t102 _ ?side1 ?side2 A2.out).mono ?_); (case side1 => exact cl_ R0.out); (case side2 => exact C0.out); rintro e w' ⟨rfl, ⟨nd, rfl⟩⟩; refine ⟨_, rfl, ?_⟩; have p103 : 0 ≤ ((ji4) : Int) := od_; have q103 : (ji4) < (l0.length : Int) := od_; obtain ⟨ad103, e103, hx103_0⟩ := Kd.at_int R0.out (ji4) p103 q103; cases e103; replace p103 := eq_true p103; replace q103 := eq_true q103) | ((with_reducible refine gate_callee (f := 60) rfl ?_); refine goesL_ (some 16) rfl rfl Tryd.func60 (by kernel_rfl) rfl #[.int .u64 (rd l0 (ji4))] rfl (by (try simp only [List.map_toArray, List.map_cons, List.map_nil]); first | done | (simp only [j0]; rfl) | rfl | (simp only [List.length_drop, List.length_take]; rfl)) ?_; (with_reducible refine (bits_Len64.calls (rd l0 (ji4)) t104 _ A7.out).mono ?_); rintro e w' ⟨rfl, ⟨nd, rfl⟩⟩; refine ⟨_, rfl, ?_⟩)); go_ret; exact ⟨by first | rfl | (simp; done) | (simp only [← j0] <;> (first | rfl | simp)) | (simp [*]; done), dr_⟩
  rw [if_neg c6] at H; exact absurd H (by simp)
 rw [if_neg c5] at H; exact absurd H (by simp)
end Go.Proofs.YtjgdpjbkmcjbcaaDoor.PG
end
section
namespace Go.Proofs.YtjgdpjbkmcjbcaaDoor.PG
open Go.RowKit Go.Proofs.YtjgdpjbkmcjbcaaDoorW.PrintWords Go.Proofs.YtjgdpjbkmcjbcaaDoorW.PrintLast Go.Proofs.YtjgdpjbkmcjbcaaDoorW.PrintMore
attribute [local go_sem] max2_int min2_int max_two min_two max_three min_three max_four min_four
set_option linter.unusedVariables false
set_option linter.unusedSimpArgs false
attribute [local go_sem] fld139_1
def nat_at.f (l0 : List Int) (a1 : Int) : Option (Int) := if a1 < (l0.length : Int) then (if 0 ≤ a1 then (some (rd l0 a1)) else (none)) else (some 0)
set_option maxHeartbeats 8000000 in
set_option maxRecDepth 100000 in
theorem nat_at.calls (A0 : Option Addr) (c0 : Nat) (l0 : List Int) (a1 : Int) (r : Int) (w : World) (hr0 : Kd.C (Kd.int .u64) w A0 l0.length l0) (hc0 : l0.length ≤ c0) (h : nat_at.f l0 a1 = some r) :
  Calls Tryd.prog 69 #[.slice A0 l0.length c0, .int .i64 a1] w fun e w' => e = .returned (.int .u64 r) ∧ Drawn0 w w' := by
 have R0 := Aside0.mk hr0; have C0 := Aside0.mk hc0; clear hr0 hc0; have H := h; rw [nat_at.f] at H; clear h; by_cases c3 : a1 < (l0.length : Int)
 ·
  rw [if_pos c3] at H; have c3b0 := decide_eq_true c3; clear c3; by_cases c4 : 0 ≤ a1
  ·
   rw [if_pos c4] at H; have c4b0 := decide_eq_true c4; clear c4; obtain rfl := Option.some.inj H; have p127 : 0 ≤ (a1 : Int) := od_; have q127 : a1 < (l0.length : Int) := od_; obtain ⟨ad127, e127, hx127_0⟩ := Kd.at_int R0.out a1 p127 q127; cases e127
   replace p127 := eq_true p127; replace q127 := eq_true q127; go_enter Tryd.func69, Tryd.ntmps69; go_wp2; go_ret; exact ⟨rf_, dr_⟩
  rw [if_neg c4] at H; exact absurd H (by simp)
 rw [if_neg c3] at H; have c3b0 := decide_eq_false c3; clear c3; obtain rfl := Option.some.inj H; go_enter Tryd.func69, Tryd.ntmps69; go_wp2; go_ret; exact ⟨rf_, dr_⟩
end Go.Proofs.YtjgdpjbkmcjbcaaDoor.PG
end
