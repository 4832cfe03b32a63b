/- Parts of a proof. -/
import Derived.Test.YtpdjahhimmaonaaDoorZBoundOwn43
section
namespace Go.Proofs.YtpdjahhimmaonaaDoor.PD
open Go.RowKit Go.Proofs.YtpdjahhimmaonaaDoorW.PrintWords Go.Proofs.YtpdjahhimmaonaaDoorW.PrintLast Go.Proofs.YtpdjahhimmaonaaDoorW.PrintMore
attribute [local go_sem] max2_int min2_int max_two min_two max_three min_three max_four min_four
set_option linter.unusedVariables false
set_option linter.unusedSimpArgs false
attribute [local go_sem] fld138_1
def vernierref01_Same.l0 : Nat → List Int → List Int → Int → Option (Bool)
 | 0, _, _, _ => none
 | k + 1, x0, x1, x5 => if x5 < (x0.length : Int) then (if 0 ≤ x5 then (if x5 < (x1.length : Int) then (if (rd x0 x5) = (rd x1 x5) then (vernierref01_Same.l0 k x0 x1 (wrap64 (x5 + 1))) else (some false)) else (none)) else (none)) else (some true)
def vernierref01_Same.f (k : Nat) (l0 : List Int) (l1 : List Int) : Option (Bool) := if (l0.length : Int) = (l1.length : Int) then (vernierref01_Same.l0 k l0 l1 0) else (some false)
set_option maxHeartbeats 8000000 in
set_option maxRecDepth 100000 in
theorem vernierref01_Same.calls (k : Nat) (A0 : Option Addr) (c0 : Nat) (l0 : List Int) (A1 : Option Addr) (c1 : Nat) (l1 : List Int) (r : Bool) (w : World) (hr0 : Kd.C (Kd.int .u64) w A0 l0.length l0) (hc0 : l0.length ≤ c0) (hr1 : Kd.C (Kd.int .u64) w A1 l1.length l1) (hc1 : l1.length ≤ c1) (h : vernierref01_Same.f k l0 l1 = some r) :
  Calls Tryd.prog 17 #[.slice A0 l0.length c0, .slice A1 l1.length c1] w fun e w' => e = .returned (.bool r) ∧ Drawn0 w w' := by
 have R0 := Aside0.mk hr0; have C0 := Aside0.mk hc0; clear hr0 hc0; have R1 := Aside0.mk hr1; have C1 := Aside0.mk hc1; clear hr1 hc1; have H := h; rw [vernierref01_Same.f] at H; clear h; by_cases c3 : (l0.length : Int) = (l1.length : Int)
 ·
  rw [if_pos c3] at H; obtain ⟨c3b0, c3b1⟩ := q1_ c3; (have c3b2 : (l0.length == l1.length) = true := by first | simpa using c3 | (simp at c3 ⊢; omega)); clear c3; have H' := Aside0.mk H; clear H; go_enter Tryd.func17, Tryd.ntmps17; go_wp2; (repeat (go_quiet (fail); try go_wp2)); go_loopg [5] k (fun kq v5 w' => ∃ (x5_1 : Int), v5 = .int .i64 x5_1 ∧ Aside0 (vernierref01_Same.l0 kq l0 l1 x5_1 = some r) ∧ Aside0 (kq ≤ k) ∧ Drawn0 w w'); case atStart => exact ⟨(0), rf_, H', ⟨Nat.le_refl _⟩, dr_⟩
  case round =>
   clear H'; (try clear c1); (try clear c3); (try clear c3b0); (try clear c3b1); (try clear c3b2); obtain ⟨x5_1, rfl, HA, HK1, ⟨m1, rfl⟩⟩ := hrel; cases gk with
   | zero => exact absurd HA.out (by simp [vernierref01_Same.l0])
   | succ k1 =>
    have H := HA.out; clear HA; simp only [vernierref01_Same.l0] at H; by_cases c4 : x5_1 < (l0.length : Int)
    ·
     rw [if_pos c4] at H; have c4b0 := decide_eq_true c4; clear c4; by_cases c5 : 0 ≤ x5_1
     ·
      rw [if_pos c5] at H; have c5b0 := decide_eq_true c5; clear c5; by_cases c6 : x5_1 < (l1.length : Int)
      ·
       rw [if_pos c6] at H; have c6b0 := decide_eq_true c6; clear c6; by_cases c7 : (rd l0 x5_1) = (rd l1 x5_1)
       ·
        rw [if_pos c7] at H; obtain ⟨c7b0, c7b1⟩ := q1_ c7; clear c7; have H' := Aside0.mk H; clear H; have p725 : 0 ≤ (x5_1 : Int) := od_; have q725 : x5_1 < (l0.length : Int) := od_; obtain ⟨ad725, e725, hx725_0⟩ := Kd.at_int R0.out x5_1 p725 q725; cases e725
        replace p725 := eq_true p725; replace q725 := eq_true q725; have p726 : 0 ≤ (x5_1 : Int) := od_; have q726 : x5_1 < (l1.length : Int) := od_; obtain ⟨ad726, e726, hx726_0⟩ := Kd.at_int R1.out x5_1 p726 q726; cases e726
        replace p726 := eq_true p726; replace q726 := eq_true q726; go_wp2; (repeat (go_quiet (fail); try go_wp2)); go_roundg k1; case measure => have := HK1.out; omega
        case rel => exact ⟨(wrap64 (x5_1 + 1)), rf_, H', ⟨by have := HK1.out; omega⟩, dr_⟩
       rw [if_neg c7] at H; obtain ⟨c7b0, c7b1⟩ := q0_ c7; obtain rfl := Option.some.inj H; have p725 : 0 ≤ (x5_1 : Int) := od_; have q725 : x5_1 < (l0.length : Int) := od_; obtain ⟨ad725, e725, hx725_0⟩ := Kd.at_int R0.out x5_1 p725 q725; cases e725
       replace p725 := eq_true p725; replace q725 := eq_true q725; have p726 : 0 ≤ (x5_1 : Int) := od_; have q726 : x5_1 < (l1.length : Int) := od_; obtain ⟨ad726, e726, hx726_0⟩ := Kd.at_int R1.out x5_1 p726 q726; cases e726
       replace p726 := eq_true p726; replace q726 := eq_true q726; go_wp2; (repeat (go_quiet (fail); try go_wp2)); go_ret; exact ⟨rf_, dr_⟩
      rw [if_neg c6] at H; exact absurd H (by simp)
     rw [if_neg c5] at H; exact absurd H (by simp)
    rw [if_neg c4] at H; have c4b0 := decide_eq_false c4; clear c4; obtain rfl := Option.some.inj H; go_wp2; (repeat (go_quiet (fail); try go_wp2)); go_ret; exact ⟨rf_, dr_⟩
 rw [if_neg c3] at H; obtain ⟨c3b0, c3b1⟩ := q0_ c3; (have c3b2 : (l0.length == l1.length) = false := by first | simpa using c3 | (simp at c3 ⊢; omega)); obtain rfl := Option.some.inj H; go_enter Tryd.func17, Tryd.ntmps17; go_wp2; (repeat (go_quiet (fail); try go_wp2)); go_ret; exact ⟨rf_, dr_⟩
end Go.Proofs.YtpdjahhimmaonaaDoor.PD
end
section
namespace Go.Proofs.YtpdjahhimmaonaaDoor.PD
open Go.RowKit Go.Proofs.YtpdjahhimmaonaaDoorW.PrintWords Go.Proofs.YtpdjahhimmaonaaDoorW.PrintLast Go.Proofs.YtpdjahhimmaonaaDoorW.PrintMore
attribute [local go_sem] max2_int min2_int max_two min_two max_three min_three max_four min_four
set_option linter.unusedVariables false
set_option linter.unusedSimpArgs false
attribute [local go_sem] fld138_1
def bound_checked.l0 : Nat → List (S32) → Int → Int → Option (Int)
 | 0, _, _, _ => none
 | k + 1, x6, x7, x8 => if x8 < x7 then (if 0 ≤ x8 then (if x8 < (x6.length : Int) then ((dyadic_Check.f ((rd_T32 x6 x8).f0) ((rd_T32 x6 x8).f1) ((rd_T32 x6 x8).f2)).bind fun t724 => (if t724 = 0 then (bound_checked.l0 k x6 x7 (wrap64 (x8 + 1))) else (some t724))) else (none)) else (none)) else (some 0)
def bound_checked.f (k : Nat) (l0 : List (S32)) : Option (Int) := bound_checked.l0 k l0 (l0.length : Int) 0
set_option maxHeartbeats 8000000 in
set_option maxRecDepth 100000 in
theorem bound_checked.calls (k : Nat) (A0 : Option Addr) (c0 : Nat) (l0 : List (S32)) (r : Int) (w : World) (hr0 : Kd.C k32 w A0 l0.length l0) (hc0 : l0.length ≤ c0) (h : bound_checked.f k l0 = some r) :
  Calls Tryd.prog 39 #[.slice A0 l0.length c0] w fun e w' => e = .returned (.int .i64 r) ∧ Below w.heap.size w w' := by
 have hu32 := Tryd.underlying32; have R1 := Aside0.mk hr0; have C1 := Aside0.mk hc0; clear hr0 hc0; have HB := Aside0.mk (Below.refl w.heap.size w); have H : (bound_checked.l0 k l0 (l0.length : Int) 0) = some r := h; clear h; have H' := Aside0.mk H; clear H; go_enter Tryd.func39, Tryd.ntmps39; go_wp2; go_loopg [8] k (fun kq v8 w' => ∃ (x8_1 : Int), v8 = .int .i64 x8_1 ∧ Aside0 (bound_checked.l0 kq l0 (l0.length : Int) x8_1 = some r) ∧ Aside0 (kq ≤ k) ∧ Aside0 (Below w.heap.size w w')); case atStart => exact ⟨(0), rf_, H', ⟨Nat.le_refl _⟩, ⟨bw_ HB⟩⟩
 case round =>
  clear H'; obtain ⟨x8_1, rfl, HA, HK1, HB⟩ := hrel; cases gk with
  | zero => exact absurd HA.out (by simp [bound_checked.l0])
  | succ k1 =>
   have H := HA.out; clear HA; simp only [bound_checked.l0] at H; by_cases c2 : x8_1 < (l0.length : Int)
   ·
    rw [if_pos c2] at H; have c2b0 := decide_eq_true c2; clear c2; by_cases c3 : 0 ≤ x8_1
    ·
     rw [if_pos c3] at H; have c3b0 := decide_eq_true c3; clear c3; by_cases c4 : x8_1 < (l0.length : Int)
     ·
      rw [if_pos c4] at H; have c4b0 := decide_eq_true c4; clear c4; replace H := bo_ H; obtain ⟨t724, A5, H⟩ := H; (try dsimp only at H); by_cases c6 : t724 = 0
      ·
       rw [if_pos c6] at H; obtain ⟨c6b0, c6b1⟩ := q1_ c6; clear c6; have H' := Aside0.mk H; clear H; have p722 : 0 ≤ (x8_1 : Int) := od_; have q722 : x8_1 < (l0.length : Int) := od_; obtain ⟨ad722, A722_1, c722_1, e722, hx722_0, hx722_1, hx722_2, hl722_1, hi722_1⟩ := at_T32 R1.out x8_1 p722 q722; cases e722
       replace hx722_0 := (HB.out.cell (World.block_lt_of_cell? w _ hx722_0)).trans hx722_0; replace hx722_1 := (HB.out.cell (World.block_lt_of_cell? w _ hx722_1)).trans hx722_1; replace hx722_2 := (HB.out.cell (World.block_lt_of_cell? w _ hx722_2)).trans hx722_2; have R0 := Aside0.mk hi722_1; have C0 := Aside0.mk hl722_1; clear hi722_1 hl722_1; replace p722 := eq_true p722; replace q722 := eq_true q722; go_wp2_with (first | ((with_reducible refine gate_dst (N := 4) rfl ?_); refine box_event ?hg (N := 4) ?hd (cs := #[.bool false, .slice none 0 0, .int .i64 0]) (t := 32) ?hr ?_; (case hd => rfl); (case hg => rfl); (case hr => first | (go_simp; done) | (go_simp; rfl)); intro g0 hg w7 hbox hb; have K0 := Aside0.mk (hbox); have G0 := gw_ hg HB; have E0 := gw_ hg HB; replace HB := bs_ HB hb; clear hb hbox hg; obtain ⟨z0, z1, z2, f3, f4, f5⟩ := c3_ K0) | ((with_reducible refine gate_callee (f := 61) rfl ?_); refine gl_ (some 13) rfl rfl Tryd.func61 (by kernel_rfl) rfl #[.agg #[.bool ((rd_T32 l0 x8_1).f0), .slice A722_1 ((rd_T32 l0 x8_1).f1).length c722_1, .int .i64 ((rd_T32 l0 x8_1).f2)]] rfl ?_; (with_reducible refine (dyadic_Check.calls ((rd_T32 l0 x8_1).f0) _ _ ((rd_T32 l0 x8_1).f1) ((rd_T32 l0 x8_1).f2) t724 _ ?side1 ?side2 A5.out).mono ?_); (case side1 => exact Kd.C_below R0.out (bw_ HB)); (case side2 => exact C0.out); rintro e w9 ⟨rfl, hb⟩; refine ⟨_, rfl, ?_⟩; replace K0 := Aside0.mk (blk_below (g := g0) (o := .cells #[.bool ((rd_T32 l0 x8_1).f0), .slice A722_1 ((rd_T32 l0 x8_1).f1).length c722_1, .int .i64 ((rd_T32 l0 x8_1).f2)] 32 (0, 0)) (by refine bz_ ?_; refine blk_put (cs := #[.bool ((rd_T32 l0 x8_1).f0), .slice A722_1 ((rd_T32 l0 x8_1).f1).length c722_1, .int .i64 0]) ?_ 2 _ rfl; refine bz_ ?_; refine blk_put (cs := #[.bool ((rd_T32 l0 x8_1).f0), .slice none 0 0, .int .i64 0]) ?_ 1 _ rfl; refine bz_ ?_; refine blk_put (cs := #[.bool false, .slice none 0 0, .int .i64 0]) ?_ 0 _ rfl; refine bz_ ?_; exact K0.out) hb); replace HB := bs_ HB hb; (try clear hb))); go_roundg k1; case measure => have := HK1.out; omega
       case rel => exact ⟨(wrap64 (x8_1 + 1)), rf_, H', ⟨by have := HK1.out; omega⟩, ⟨bw_ HB⟩⟩
      rw [if_neg c6] at H; obtain ⟨c6b0, c6b1⟩ := q0_ c6; obtain rfl := Option.some.inj H; have p722 : 0 ≤ (x8_1 : Int) := od_; have q722 : x8_1 < (l0.length : Int) := od_; obtain ⟨ad722, A722_1, c722_1, e722, hx722_0, hx722_1, hx722_2, hl722_1, hi722_1⟩ := at_T32 R1.out x8_1 p722 q722; cases e722
      replace hx722_0 := (HB.out.cell (World.block_lt_of_cell? w _ hx722_0)).trans hx722_0; replace hx722_1 := (HB.out.cell (World.block_lt_of_cell? w _ hx722_1)).trans hx722_1; replace hx722_2 := (HB.out.cell (World.block_lt_of_cell? w _ hx722_2)).trans hx722_2; have R0 := Aside0.mk hi722_1; have C0 := Aside0.mk hl722_1; clear hi722_1 hl722_1; replace p722 := eq_true p722; replace q722 := eq_true q722; go_wp2_with (first | ((with_reducible refine gate_dst (N := 4) rfl ?_); refine box_event ?hg (N := 4) ?hd (cs := #[.bool false, .slice none 0 0, .int .i64 0]) (t := 32) ?hr ?_; (case hd => rfl); (case hg => rfl); (case hr => first | (go_simp; done) | (go_simp; rfl)); intro g0 hg w10 hbox hb; have K0 := Aside0.mk (hbox); have G0 := gw_ hg HB; have E0 := gw_ hg HB; replace HB := bs_ HB hb; clear hb hbox hg; obtain ⟨z3, z4, z5, f6, f7, f8⟩ := c3_ K0) | ((with_reducible refine gate_callee (f := 61) rfl ?_); refine gl_ (some 13) rfl rfl Tryd.func61 (by kernel_rfl) rfl #[.agg #[.bool ((rd_T32 l0 x8_1).f0), .slice A722_1 ((rd_T32 l0 x8_1).f1).length c722_1, .int .i64 ((rd_T32 l0 x8_1).f2)]] rfl ?_; (with_reducible refine (dyadic_Check.calls ((rd_T32 l0 x8_1).f0) _ _ ((rd_T32 l0 x8_1).f1) ((rd_T32 l0 x8_1).f2) t724 _ ?side1 ?side2 A5.out).mono ?_); (case side1 => exact Kd.C_below R0.out (bw_ HB)); (case side2 => exact C0.out); rintro e w12 ⟨rfl, hb⟩; refine ⟨_, rfl, ?_⟩; replace K0 := Aside0.mk (blk_below (g := g0) (o := .cells #[.bool ((rd_T32 l0 x8_1).f0), .slice A722_1 ((rd_T32 l0 x8_1).f1).length c722_1, .int .i64 ((rd_T32 l0 x8_1).f2)] 32 (0, 0)) (by refine bz_ ?_; refine blk_put (cs := #[.bool ((rd_T32 l0 x8_1).f0), .slice A722_1 ((rd_T32 l0 x8_1).f1).length c722_1, .int .i64 0]) ?_ 2 _ rfl; refine bz_ ?_; refine blk_put (cs := #[.bool ((rd_T32 l0 x8_1).f0), .slice none 0 0, .int .i64 0]) ?_ 1 _ rfl; refine bz_ ?_; refine blk_put (cs := #[.bool false, .slice none 0 0, .int .i64 0]) ?_ 0 _ rfl; refine bz_ ?_; exact K0.out) hb); replace HB := bs_ HB hb; (try clear hb))); go_ret; exact ⟨er_, bw_ HB⟩
     rw [if_neg c4] at H; exact absurd H (by simp)
    rw [if_neg c3] at H; exact absurd H (by simp)
   rw [if_neg c2] at H; have c2b0 := decide_eq_false c2; clear c2; obtain rfl := Option.some.inj H; go_wp2; go_ret; exact ⟨er_, bw_ HB⟩
end Go.Proofs.YtpdjahhimmaonaaDoor.PD
end
