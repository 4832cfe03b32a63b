/- Parts of a proof. -/
import Derived.Test.YtjgdpjbkmcjbcaaDoorZFfmaParts17
section
namespace Go.Proofs.YtjgdpjbkmcjbcaaDoor.PG
open Go.RowKit Go.Proofs.YtjgdpjbkmcjbcaaDoorW.PrintWords Go.Proofs.YtjgdpjbkmcjbcaaDoorW.PrintLast Go.Proofs.YtjgdpjbkmcjbcaaDoorW.PrintMore
attribute [local go_sem] max2_int min2_int max_two min_two max_three min_three max_four min_four
set_option linter.unusedVariables false
set_option linter.unusedSimpArgs false
attribute [local go_sem] fld139_1
def parts_over.j0 : Nat → Bool → Bool → Option (Int × Int)
 | 0, _, _ => none
 | k + 1, x0, x6 => if x6 = true then ((parts_Inf.f x0).bind fun t1047 => (some (t1047, 20))) else ((parts_greatest.f x0).bind fun t1048 => (some (t1048, 20)))
def parts_over.f (k : Nat) (a0 : Bool) (a1 : Int) : Option (Int × Int) := if a1 < 2 then (parts_over.j0 k a0 true) else (if a1 > 4 then (parts_over.j0 k a0 true) else (if a1 = 3 then (if a0 = true then (if a1 = 4 then (parts_over.j0 k a0 a0) else (parts_over.j0 k a0 false)) else (parts_over.j0 k a0 true)) else (if a1 = 4 then (parts_over.j0 k a0 a0) else (parts_over.j0 k a0 false))))
set_option maxHeartbeats 8000000 in
set_option maxRecDepth 100000 in
theorem parts_over.calls (k : Nat) (a0 : Bool) (a1 : Int) (r1 : Int) (r2 : Int) (w : World) (h : parts_over.f k a0 a1 = some (r1, r2)) :
  Calls Tryd.prog 121 #[.bool a0, .int .i64 a1] w fun e w' => e = .returned (.tuple #[.int .u64 r1, .int .i64 r2]) ∧ Drawn0 w w' := by
 have H := h; rw [parts_over.f] at H; clear h; have C0 := Aside0.mk H; clear H; go_enter Tryd.func121, Tryd.ntmps121; go_upto_region 1 with (fail); go_cut [6] (fun v6 wc => ∃ (kq : Nat) (x6_2 : Bool), v6 = .bool x6_2 ∧ Aside0 (parts_over.j0 kq a0 x6_2 = some (r1, r2)) ∧ Aside0 (kq ≤ k) ∧ Drawn0 w wc)
 case first =>
  have H := C0.out; clear C0; by_cases c4 : a1 < 2
  ·
   rw [if_pos c4] at H; have c4b0 := decide_eq_true c4; clear c4; (first | rw [c4b0] | (simp only [i64_w, i32_w]; rw [c4b0]) | skip); have H' := Aside0.mk H; clear H; go_wp2; go_meet; case rel => exact ⟨_, (true), rf_, H', ⟨ol_⟩, dr_⟩
  rw [if_neg c4] at H; have c4b0 := decide_eq_false c4; clear c4; (first | rw [c4b0] | (simp only [i64_w, i32_w]; rw [c4b0]) | skip); by_cases c5 : a1 > 4
  ·
   rw [if_pos c5] at H; have c5b0 : decide (4 < a1) = true := decide_eq_true c5; clear c5; have H' := Aside0.mk H; clear H; go_wp2; go_meet; case rel => exact ⟨_, (true), rf_, H', ⟨ol_⟩, dr_⟩
  rw [if_neg c5] at H; have c5b0 : decide (4 < a1) = false := decide_eq_false c5; clear c5; by_cases c6 : a1 = 3
  ·
   rw [if_pos c6] at H; obtain ⟨c6b0, c6b1⟩ := q1_ c6; clear c6; by_cases c7 : a0 = true
   ·
    subst c7; rw [if_pos rfl] at H; by_cases c8 : a1 = 4
    ·
     rw [if_pos c8] at H; obtain ⟨c8b0, c8b1⟩ := q1_ c8; clear c8; have H' := Aside0.mk H; clear H; go_wp2; go_meet; case rel => exact ⟨_, (true), rf_, H', ⟨ol_⟩, dr_⟩
    rw [if_neg c8] at H; obtain ⟨c8b0, c8b1⟩ := q0_ c8; have H' := Aside0.mk H; clear H; go_wp2; go_meet; case rel => exact ⟨_, (false), rf_, H', ⟨ol_⟩, dr_⟩
   replace c7 := Bool.eq_false_iff.mpr c7; subst c7; rw [if_neg nt_] at H; have H' := Aside0.mk H; clear H; go_wp2; go_meet; case rel => exact ⟨_, (true), rf_, H', ⟨ol_⟩, dr_⟩
  rw [if_neg c6] at H; obtain ⟨c6b0, c6b1⟩ := q0_ c6; by_cases c9 : a1 = 4
  ·
   rw [if_pos c9] at H; obtain ⟨c9b0, c9b1⟩ := q1_ c9; clear c9; have H' := Aside0.mk H; clear H; go_wp2; go_meet; case rel => exact ⟨_, (a0), rf_, H', ⟨ol_⟩, dr_⟩
  rw [if_neg c9] at H; obtain ⟨c9b0, c9b1⟩ := q0_ c9; have H' := Aside0.mk H; clear H; go_wp2; go_meet; case rel => exact ⟨_, (false), rf_, H', ⟨ol_⟩, dr_⟩
 case rest =>
  clear C0; obtain ⟨kq, x6_2, rfl, HA, HJ2, ⟨mc2, rfl⟩⟩ := hcut; cases kq with
  | zero => exact absurd HA.out (by simp [parts_over.j0])
  | succ kj2 =>
   have H := HA.out; clear HA; simp only [parts_over.j0] at H; by_cases c10 : x6_2 = true
   ·
    subst c10; rw [if_pos rfl] at H; replace H := bo_ H; obtain ⟨t1047, A11, H⟩ := H; replace H : (some (t1047, 20)) = some (r1, r2) := H; simp only [Option.some.injEq, Prod.mk.injEq] at H; obtain ⟨rfl, rfl⟩ := H; go_wp2_with (first | ((with_reducible refine gate_callee (f := 113) rfl ?_); refine gl_ (some 30) rfl rfl Tryd.func113 (by kernel_rfl) rfl #[.bool a0] rfl ?_; (with_reducible refine (parts_Inf.calls a0 t1047 _ A11.out).mono ?_); rintro e w' ⟨rfl, ⟨nd, rfl⟩⟩; refine ⟨_, rfl, ?_⟩)); go_ret2; exact ⟨rf_, dr_⟩
   replace c10 := Bool.eq_false_iff.mpr c10; subst c10; rw [if_neg nt_] at H; replace H := bo_ H; obtain ⟨t1048, A12, H⟩ := H; replace H : (some (t1048, 20)) = some (r1, r2) := H; simp only [Option.some.injEq, Prod.mk.injEq] at H; obtain ⟨rfl, rfl⟩ := H; go_wp2_with (first | ((with_reducible refine gate_callee (f := 130) rfl ?_); refine gl_ (some 32) rfl rfl Tryd.func130 (by kernel_rfl) rfl #[.bool a0] rfl ?_; (with_reducible refine (parts_greatest.calls a0 t1048 _ A12.out).mono ?_); rintro e w' ⟨rfl, ⟨nd, rfl⟩⟩; refine ⟨_, rfl, ?_⟩)); go_ret2; exact ⟨rf_, dr_⟩
def parts_put.f (a0 : Bool) (a1 : Int) (a2 : Int) : Option (Int) := if a1 < 4503599627370496 then ((parts_Zero.f a0).bind fun t1049 => (some (Go.bits .or .u64 t1049 a1))) else ((parts_Zero.f a0).bind fun t1050 => (some (Go.bits .or .u64 (Go.bits .or .u64 t1050 (IntKind.u64.wrap ((IntKind.u64.wrap (wrap64 (a2 + 1075))) * 4503599627370496))) (Go.bits .and .u64 a1 4503599627370495))))
set_option maxHeartbeats 8000000 in
set_option maxRecDepth 100000 in
theorem parts_put.calls (a0 : Bool) (a1 : Int) (a2 : Int) (r : Int) (w : World) (h : parts_put.f a0 a1 a2 = some r) :
  Calls Tryd.prog 122 #[.bool a0, .int .u64 a1, .int .i64 a2] w fun e w' => e = .returned (.int .u64 r) ∧ Drawn0 w w' := by
 have H := h; rw [parts_put.f] at H; clear h; by_cases c4 : a1 < 4503599627370496
 ·
  rw [if_pos c4] at H; have c4b0 := decide_eq_true c4; clear c4; replace H := bo_ H; obtain ⟨t1049, A5, H⟩ := H; replace H : (some (Go.bits .or .u64 t1049 a1)) = some r := H; obtain rfl := Option.some.inj H; go_enter Tryd.func122, Tryd.ntmps122; go_wp2_with (first | ((with_reducible refine gate_callee (f := 114) rfl ?_); refine gl_ (some 10) rfl rfl Tryd.func114 (by kernel_rfl) rfl #[.bool a0] rfl ?_; (with_reducible refine (parts_Zero.calls a0 t1049 _ A5.out).mono ?_); rintro e w' ⟨rfl, ⟨nd, rfl⟩⟩; refine ⟨_, rfl, ?_⟩)); go_ret; exact ⟨rf_, dr_⟩
 rw [if_neg c4] at H; have c4b0 := decide_eq_false c4; clear c4; replace H := bo_ H; obtain ⟨t1050, A6, H⟩ := H; (try dsimp only at H); obtain rfl := Option.some.inj H; go_enter Tryd.func122, Tryd.ntmps122; go_wp2_with (first | ((with_reducible refine gate_callee (f := 114) rfl ?_); refine gl_ (some 14) rfl rfl Tryd.func114 (by kernel_rfl) rfl #[.bool a0] rfl ?_; (with_reducible refine (parts_Zero.calls a0 t1050 _ A6.out).mono ?_); rintro e w' ⟨rfl, ⟨nd, rfl⟩⟩; refine ⟨_, rfl, ?_⟩)); go_ret; exact ⟨rf_, dr_⟩
end Go.Proofs.YtjgdpjbkmcjbcaaDoor.PG
end
section
namespace Go.Proofs.YtjgdpjbkmcjbcaaDoor.PG
open Go.RowKit Go.Proofs.YtjgdpjbkmcjbcaaDoorW.PrintWords Go.Proofs.YtjgdpjbkmcjbcaaDoorW.PrintLast Go.Proofs.YtjgdpjbkmcjbcaaDoorW.PrintMore
attribute [local go_sem] max2_int min2_int max_two min_two max_three min_three max_four min_four
set_option linter.unusedVariables false
set_option linter.unusedSimpArgs false
attribute [local go_sem] fld139_1
mutual
def parts_Round.j0 : Nat → Bool → Int → Bool → Int → Int → Int → Int → Option (Int × Int)
 | 0, _, _, _, _, _, _, _ => none
 | k + 1, x0, x3, x4, x5, x15, x1052000, x1052001 => (parts_wide_cut.f k x1052000 x1052001 (wrap64 ((mx (wrap64 ((wrap64 ((wrap64 (x3 + x15)) - 1)) - 52)) (-1074)) - x3))).bind fun bt1054 => (if bt1054.2.2 = true then (parts_Round.j1 k x0 x3 x5 x15 (mx (wrap64 ((wrap64 ((wrap64 (x3 + x15)) - 1)) - 52)) (-1074)) bt1054.1 bt1054.2.1 true) else (parts_Round.j1 k x0 x3 x5 x15 (mx (wrap64 ((wrap64 ((wrap64 (x3 + x15)) - 1)) - 52)) (-1074)) bt1054.1 bt1054.2.1 x4))
def parts_Round.j1 : Nat → Bool → Int → Int → Int → Int → Int → Bool → Bool → Option (Int × Int)
 | 0, _, _, _, _, _, _, _, _ => none
 | k + 1, x0, x3, x5, x15, x16, x17, x18, x19 => if x18 = true then (parts_Round.j2 k x0 x3 x5 x15 x16 x17 x18 x19 0 true) else (parts_Round.j2 k x0 x3 x5 x15 x16 x17 x18 x19 0 x19)
def parts_Round.j2 : Nat → Bool → Int → Int → Int → Int → Int → Bool → Bool → Int → Bool → Option (Int × Int)
 | 0, _, _, _, _, _, _, _, _, _, _ => none
 | k + 1, x0, x3, x5, x15, x16, x17, x18, x19, x20, x64 => if x64 = true then (if (wrap64 ((wrap64 (x3 + x15)) - 1)) < (-1022) then (parts_Round.j3 k x0 x5 x16 x17 x18 x19 (Go.bits .or .i64 16 8)) else (parts_Round.j3 k x0 x5 x16 x17 x18 x19 16)) else (parts_Round.j3 k x0 x5 x16 x17 x18 x19 x20)
def parts_Round.j3 : Nat → Bool → Int → Int → Int → Bool → Bool → Int → Option (Int × Int)
 | 0, _, _, _, _, _, _, _ => none
 | k + 1, x0, x5, x16, x17, x18, x19, x20 => (parts_up.f x0 x17 x18 x19 x5).bind fun t1057 => (if t1057 = true then (parts_Round.j4 k x0 x5 x16 (IntKind.u64.wrap (x17 + 1)) x20) else (parts_Round.j4 k x0 x5 x16 x17 x20))
def parts_Round.j4 : Nat → Bool → Int → Int → Int → Int → Option (Int × Int)
 | 0, _, _, _, _, _ => none
 | k + 1, x0, x5, x16, x17, x20 => if x17 = 9007199254740992 then (parts_Round.j5 k x0 x5 (wrap64 (x16 + 1)) 4503599627370496 x20) else (parts_Round.j5 k x0 x5 x16 x17 x20)
def parts_Round.j5 : Nat → Bool → Int → Int → Int → Int → Option (Int × Int)
 | 0, _, _, _, _, _ => none
 | k + 1, x0, x5, x16, x17, x20 => if x17 ≥ 4503599627370496 then (parts_Round.j6 k x0 x5 x16 x17 x20 (decide ((wrap64 (x16 + 1075)) ≥ 2047))) else (parts_Round.j6 k x0 x5 x16 x17 x20 false)
def parts_Round.j6 : Nat → Bool → Int → Int → Int → Int → Bool → Option (Int × Int)
 | 0, _, _, _, _, _, _ => none
 | k + 1, x0, x5, x16, x17, x20, x90 => if x90 = true then ((parts_over.f k x0 x5).bind fun bt1058 => (some (bt1058.1, bt1058.2))) else ((parts_put.f x0 x17 x16).bind fun t1060 => (some (t1060, x20)))
end
def parts_Round.f (k : Nat) (a0 : Bool) (a1 : Int) (a2 : Int) (a3 : Int) (a4 : Bool) (a5 : Int) : Option (Int × Int) := (parts_wide_len.f a1 a2).bind fun t1052 => (if t1052 = 0 then ((parts_Zero.f a0).bind fun t1053 => (some (t1053, 0))) else (if a4 = true then (if t1052 ≥ 55 then (parts_Round.j0 k a0 (mn (mx a3 (-16384)) 16384) true a5 t1052 a1 a2) else (parts_Round.j0 k a0 (mn (mx a3 (-16384)) 16384) (decide ((mn (mx a3 (-16384)) 16384) ≤ (-1080))) a5 t1052 a1 a2)) else (parts_Round.j0 k a0 (mn (mx a3 (-16384)) 16384) false a5 t1052 a1 a2)))
set_option maxHeartbeats 8000000 in
set_option maxRecDepth 100000 in
theorem parts_Round.calls (k : Nat) (a0 : Bool) (a1 : Int) (a2 : Int) (a3 : Int) (a4 : Bool) (a5 : Int) (r1 : Int) (r2 : Int) (w : World) (h : parts_Round.f k a0 a1 a2 a3 a4 a5 = some (r1, r2)) :
  Calls Tryd.prog 96 #[.bool a0, .int .u64 a1, .int .u64 a2, .int .i64 a3, .bool a4, .int .i64 a5] w fun e w' => e = .returned (.tuple #[.int .u64 r1, .int .i64 r2]) ∧ Below w.heap.size w w' := by
 have hu139 := Tryd.underlying139; have HB := Aside0.mk (Below.refl w.heap.size w); have H := h; rw [parts_Round.f] at H; clear h; replace H := bo_ H; obtain ⟨t1052, A7, H⟩ := H; (try dsimp only at H); obtain ⟨ji8, j9⟩ : ∃ j_ : Int, (mx a3 (-16384)) = j_ := ⟨_, rfl⟩; (replace H : (if t1052 = 0 then ((parts_Zero.f a0).bind fun t1053 => (some (t1053, 0))) else (if a4 = true then (if t1052 ≥ 55 then (parts_Round.j0 k a0 (mn (ji8) 16384) true a5 t1052 a1 a2) else (parts_Round.j0 k a0 (mn (ji8) 16384) (decide ((mn (ji8) 16384) ≤ (-1080))) a5 t1052 a1 a2)) else (parts_Round.j0 k a0 (mn (ji8) 16384) false a5 t1052 a1 a2))) = some (r1, r2) := by first | (rw [j9] at H; exact H) | (simp only [j9] at H ⊢; exact H)); (try rw [j9] at A7); have hji8_ : (if a3 < (-16384) then (-16384) else a3) = ji8 := j9; obtain ⟨ji9, j7⟩ : ∃ j_ : Int, (mn (ji8) 16384) = j_ := ⟨_, rfl⟩; (replace H : (if t1052 = 0 then ((parts_Zero.f a0).bind fun t1053 => (some (t1053, 0))) else (if a4 = true then (if t1052 ≥ 55 then (parts_Round.j0 k a0 ji9 true a5 t1052 a1 a2) else (parts_Round.j0 k a0 ji9 (decide ((ji9) ≤ (-1080))) a5 t1052 a1 a2)) else (parts_Round.j0 k a0 ji9 false a5 t1052 a1 a2))) = some (r1, r2) := by first | (rw [j7] at H; exact H) | (simp only [j7] at H ⊢; exact H)); (try rw [j7] at A7); have hji9_ : (if 16384 < (ji8) then 16384 else (ji8)) = ji9 := j7; by_cases c10 : t1052 = 0
 ·
  rw [if_pos c10] at H; obtain ⟨c10b0, c10b1⟩ := q1_ c10; clear c10; replace H := bo_ H; obtain ⟨t1053, A11, H⟩ := H; replace H : (some (t1053, 0)) = some (r1, r2) := H; simp only [Option.some.injEq, Prod.mk.injEq] at H; obtain ⟨rfl, rfl⟩ := H; go_enter Tryd.func96, Tryd.ntmps96; go_wp2_with (first | ((with_reducible refine gate_dst (N := 14) rfl ?_); refine box_event ?hg (N := 14) ?hd (cs := #[.int .u64 0, .int .u64 0]) (t := 139) ?hr ?_; (case hd => rfl); (case hg => rfl); (case hr => first | (go_simp; done) | (go_simp; rfl)); intro g0 hg w12 hbox hb; have K0 := Aside0.mk (hbox); have G0 := gw_ hg HB; have E0 := gw_ hg HB; replace HB := bs_ HB hb; clear hb hbox hg; obtain ⟨z4, z5, f4, f5⟩ := c2_ K0) | ((with_reducible refine gate_callee (f := 118) rfl ?_); refine gl_ (some 25) rfl rfl Tryd.func118 (by kernel_rfl) rfl #[.agg #[.int .u64 a1, .int .u64 a2]] rfl ?_; (with_reducible refine (parts_wide_len.calls a1 a2 t1052 _ A7.out).mono ?_); rintro e w14 ⟨rfl, hb⟩; refine ⟨_, rfl, ?_⟩; replace K0 := Aside0.mk (blk_below (g := g0) (o := .cells #[.int .u64 a1, .int .u64 a2] 139 (0, 0)) (by refine bz_ ?_; refine blk_put (cs := #[.int .u64 a1, .int .u64 0]) ?_ 1 _ rfl; refine bz_ ?_; refine blk_put (cs := #[.int .u64 0, .int .u64 0]) ?_ 0 _ rfl; refine bz_ ?_; exact K0.out) hb); replace HB := bs_ HB hb; (try clear hb)) | ((with_reducible refine gate_callee (f := 114) rfl ?_); refine gl_ (some 32) rfl rfl Tryd.func114 (by kernel_rfl) rfl #[.bool a0] rfl ?_; (with_reducible refine (parts_Zero.calls a0 t1053 _ A11.out).mono ?_); rintro e w' ⟨rfl, ⟨nd, rfl⟩⟩; refine ⟨_, rfl, ?_⟩)); go_ret2; exact ⟨by first | exact er0_ | (simp only [← j9, ← j7]; exact er0_) | exact er_, bw_ HB⟩
 rw [if_neg c10] at H; obtain ⟨c10b0, c10b1⟩ := q0_ c10; have C0 := Aside0.mk H; clear H; go_enter Tryd.func96, Tryd.ntmps96; go_upto_region 6 with (first | ((with_reducible refine gate_dst (N := 14) rfl ?_); refine box_event ?hg (N := 14) ?hd (cs := #[.int .u64 0, .int .u64 0]) (t := 139) ?hr ?_; (case hd => rfl); (case hg => rfl); (case hr => first | (go_simp; done) | (go_simp; rfl)); intro g0 hg w16 hbox hb; have K0 := Aside0.mk (hbox); have G0 := gw_ hg HB; have E0 := gw_ hg HB; replace HB := bs_ HB hb; clear hb hbox hg; obtain ⟨z0, z1, f0, f1⟩ := c2_ K0) | ((with_reducible refine gate_callee (f := 118) rfl ?_); refine gl_ (some 25) rfl rfl Tryd.func118 (by kernel_rfl) rfl #[.agg #[.int .u64 a1, .int .u64 a2]] rfl ?_; (with_reducible refine (parts_wide_len.calls a1 a2 t1052 _ A7.out).mono ?_); rintro e w18 ⟨rfl, hb⟩; refine ⟨_, rfl, ?_⟩; replace K0 := Aside0.mk (blk_below (g := g0) (o := .cells #[.int .u64 a1, .int .u64 a2] 139 (0, 0)) (by refine bz_ ?_; refine blk_put (cs := #[.int .u64 a1, .int .u64 0]) ?_ 1 _ rfl; refine bz_ ?_; refine blk_put (cs := #[.int .u64 0, .int .u64 0]) ?_ 0 _ rfl; refine bz_ ?_; exact K0.out) hb); replace HB := bs_ HB hb; (try clear hb))); (try simp only [sp_]); go_cut [4] (fun v4 wc => ∃ (kq : Nat) (x4_14 : Bool), v4 = .bool x4_14 ∧ Aside0 (parts_Round.j0 kq a0 ji9 x4_14 a5 t1052 a1 a2 = some (r1, r2)) ∧ Aside0 (kq ≤ k) ∧ Aside0 (wc.heap[g0]? = some (.cells #[.int .u64 a1, .int .u64 a2] 139 (0, 0))) ∧ Aside0 (Below w.heap.size w wc))
 case first =>
  have H := C0.out; clear C0; by_cases c19 : a4 = true
  ·
   subst c19; rw [if_pos rfl] at H; by_cases c20 : t1052 ≥ 55
   ·
    rw [if_pos c20] at H; have c20b0 : decide (55 ≤ t1052) = true := decide_eq_true c20; clear c20; (first | rw [c20b0] | (simp only [i64_w, i32_w]; rw [c20b0]) | skip); have H' := Aside0.mk H; clear H; go_wp2; go_meet; case rel => exact ⟨_, (true), rf_, H', ⟨ol_⟩, ⟨by refine bz_ ?_; exact K0.out⟩, ⟨bw_ HB⟩⟩
   rw [if_neg c20] at H; have c20b0 : decide (55 ≤ t1052) = false := decide_eq_false c20; clear c20; (first | rw [c20b0] | (simp only [i64_w, i32_w]; rw [c20b0]) | skip); have H' := Aside0.mk H; clear H; go_wp2; go_meet; case rel => exact ⟨_, (decide ((ji9) ≤ (-1080))), (by first | rfl | (simp; done) | (simp only [← j7] <;> (first | rfl | simp)) | (simp [*]; done)), H', ⟨ol_⟩, ⟨by refine bz_ ?_; exact K0.out⟩, ⟨bw_ HB⟩⟩
  replace c19 := Bool.eq_false_iff.mpr c19; subst c19; rw [if_neg nt_] at H; have H' := Aside0.mk H; clear H; go_wp2; go_meet; case rel => exact ⟨_, (false), rf_, H', ⟨ol_⟩, ⟨by refine bz_ ?_; exact K0.out⟩, ⟨bw_ HB⟩⟩
 case rest =>
  clear C0; (try clear c10); (try clear c10b0); (try clear c10b1); (try clear z0); (try clear z1); (try clear f0); (try clear f1); obtain ⟨kq, x4_14, rfl, HA, HJ14, K0, HB⟩ := hcut; cases kq with
  | zero => exact absurd HA.out (by simp [parts_Round.j0])
  | succ kj14 =>
   have H := HA.out; clear HA; simp only [parts_Round.j0] at H; obtain ⟨ji21, j8⟩ : ∃ j_ : Int, (mx (wrap64 ((wrap64 ((wrap64 (ji9 + t1052)) - 1)) - 52)) (-1074)) = j_ := ⟨_, rfl⟩; (replace H : ((parts_wide_cut.f kj14 a1 a2 (wrap64 ((ji21) - ji9))).bind fun bt1054 => (if bt1054.2.2 = true then (parts_Round.j1 kj14 a0 ji9 a5 t1052 ji21 bt1054.1 bt1054.2.1 true) else (parts_Round.j1 kj14 a0 ji9 a5 t1052 ji21 bt1054.1 bt1054.2.1 x4_14))) = some (r1, r2) := by first | (rw [j8] at H; exact H) | (simp only [j8] at H ⊢; exact H)); have hji21_ : (if (wrap64 ((wrap64 ((wrap64 (ji9 + t1052)) - 1)) - 52)) < (-1074) then (-1074) else (wrap64 ((wrap64 ((wrap64 (ji9 + t1052)) - 1)) - 52))) = ji21 := j8; replace H := bo_ H; obtain ⟨⟨t1054, t1055, t1056⟩, A22, H⟩ := H; (try dsimp only at H); have C1 := Aside0.mk H; clear H; obtain ⟨z2, z3, f2, f3⟩ := c2_ K0; go_upto_region 9 with (first | ((with_reducible refine gate_callee (f := 119) rfl ?_); refine goesL_ (some 53) rfl rfl Tryd.func119 (by kernel_rfl) rfl #[.agg #[.int .u64 a1, .int .u64 a2], .int .i64 (wrap64 ((ji21) - ji9))] rfl (by (try simp only [List.map_toArray, List.map_cons, List.map_nil]); first | done | (simp only [j8, j7]; rfl) | rfl | (simp only [List.length_drop, List.length_take]; rfl)) ?_; (with_reducible refine (parts_wide_cut.calls kj14 a1 a2 (wrap64 ((ji21) - ji9)) t1054 t1055 t1056 _ A22.out).mono ?_); rintro e w25 ⟨rfl, hb⟩; refine ⟨_, rfl, ?_⟩; replace K0 := bk_ K0 hb; replace HB := bs_ HB hb; (try clear hb))); (try simp only [sp_]); go_cut [19] (fun v19 wc => ∃ (kq : Nat) (x19_22 : Bool), v19 = .bool x19_22 ∧ Aside0 (parts_Round.j1 kq a0 ji9 a5 t1052 ji21 t1054 t1055 x19_22 = some (r1, r2)) ∧ Aside0 (kq ≤ kj14) ∧ Aside0 (wc.heap[g0]? = some (.cells #[.int .u64 a1, .int .u64 a2] 139 (0, 0))) ∧ Aside0 (Below w.heap.size w wc))
   case first =>
    have H := C1.out; clear C1; by_cases c26 : t1056 = true
    ·
     subst c26; rw [if_pos rfl] at H; have H' := Aside0.mk H; clear H; go_wp2; go_meet; case rel => exact ⟨_, (true), rf_, H', ⟨by have := HJ14.out; first | omega | exact Nat.le_refl _⟩, ⟨by refine bz_ ?_; exact K0.out⟩, ⟨bw_ HB⟩⟩
    replace c26 := Bool.eq_false_iff.mpr c26; subst c26; rw [if_neg nt_] at H; have H' := Aside0.mk H; clear H; go_wp2; go_meet; case rel => exact ⟨_, (x4_14), rf_, H', ⟨by have := HJ14.out; first | omega | exact Nat.le_refl _⟩, ⟨by refine bz_ ?_; exact K0.out⟩, ⟨bw_ HB⟩⟩
   case rest =>
    clear C1; (try clear c10); (try clear c10b0); (try clear c10b1); (try clear z0); (try clear z1); (try clear z2); (try clear z3); (try clear f0); (try clear f1); (try clear f2); (try clear f3); obtain ⟨kq, x19_22, rfl, HA, HJ22, K0, HB⟩ := hcut; cases kq with
    | zero => exact absurd HA.out (by simp [parts_Round.j1])
    | succ kj22 =>
     have H := HA.out; clear HA; simp only [parts_Round.j1] at H; have C2 := Aside0.mk H; clear H; go_upto_region 11 with (fail); go_cut [64] (fun v64 wc => ∃ (kq : Nat) (x64_26 : Bool), v64 = .bool x64_26 ∧ Aside0 (parts_Round.j2 kq a0 ji9 a5 t1052 ji21 t1054 t1055 x19_22 0 x64_26 = some (r1, r2)) ∧ Aside0 (kq ≤ kj22) ∧ Aside0 (wc.heap[g0]? = some (.cells #[.int .u64 a1, .int .u64 a2] 139 (0, 0))) ∧ Aside0 (Below w.heap.size w wc))
     case first =>
      have H := C2.out; clear C2; by_cases c28 : t1055 = true
      ·
       subst c28; rw [if_pos rfl] at H; have H' := Aside0.mk H; clear H; go_wp2; go_meet; case rel => exact ⟨_, (true), rf_, H', ⟨by have := HJ14.out; have := HJ22.out; first | omega | exact Nat.le_refl _⟩, ⟨by refine bz_ ?_; exact K0.out⟩, ⟨bw_ HB⟩⟩
      replace c28 := Bool.eq_false_iff.mpr c28; subst c28; rw [if_neg nt_] at H; have H' := Aside0.mk H; clear H; go_wp2; go_meet; case rel => exact ⟨_, (x19_22), rf_, H', ⟨by have := HJ14.out; have := HJ22.out; first | omega | exact Nat.le_refl _⟩, ⟨by refine bz_ ?_; exact K0.out⟩, ⟨bw_ HB⟩⟩
     case rest =>
      clear C2; (try clear c10); (try clear c10b0); (try clear c10b1); (try clear z0); (try clear z1); (try clear z2); (try clear z3); (try clear f0); (try clear f1); (try clear f2); (try clear f3); obtain ⟨kq, x64_26, rfl, HA, HJ26, K0, HB⟩ := hcut; cases kq with
      | zero => exact absurd HA.out (by simp [parts_Round.j2])
      | succ kj26 =>
       have H := HA.out; clear HA; simp only [parts_Round.j2] at H; have C3 := Aside0.mk H; clear H; go_upto_if 64 with (fail); go_cut [20] (fun v20 wc => ∃ (kq : Nat) (x20_28 : Int), v20 = .int .i64 x20_28 ∧ Aside0 (parts_Round.j3 kq a0 a5 ji21 t1054 t1055 x19_22 x20_28 = some (r1, r2)) ∧ Aside0 (kq ≤ kj26) ∧ Aside0 (wc.heap[g0]? = some (.cells #[.int .u64 a1, .int .u64 a2] 139 (0, 0))) ∧ Aside0 (Below w.heap.size w wc))
       case first =>
        have H := C3.out; clear C3; by_cases c30 : x64_26 = true
        ·
         subst c30; rw [if_pos rfl] at H; by_cases c31 : (wrap64 ((wrap64 (ji9 + t1052)) - 1)) < (-1022)
         ·
          rw [if_pos c31] at H; have c31b0 := decide_eq_true c31; clear c31; (first | rw [c31b0] | (simp only [i64_w, i32_w]; rw [c31b0]) | skip); have H' := Aside0.mk H; clear H; go_wp2; go_meet; case rel => exact ⟨_, (Go.bits .or .i64 16 8), rf_, H', ⟨by have := HJ14.out; have := HJ22.out; have := HJ26.out; first | omega | exact Nat.le_refl _⟩, ⟨by refine bz_ ?_; exact K0.out⟩, ⟨bw_ HB⟩⟩
         rw [if_neg c31] at H; have c31b0 := decide_eq_false c31; clear c31; (first | rw [c31b0] | (simp only [i64_w, i32_w]; rw [c31b0]) | skip); have H' := Aside0.mk H; clear H; go_wp2; go_meet; case rel => exact ⟨_, (16), rf_, H', ⟨by have := HJ14.out; have := HJ22.out; have := HJ26.out; first | omega | exact Nat.le_refl _⟩, ⟨by refine bz_ ?_; exact K0.out⟩, ⟨bw_ HB⟩⟩
        replace c30 := Bool.eq_false_iff.mpr c30; subst c30; rw [if_neg nt_] at H; have H' := Aside0.mk H; clear H; go_wp2; go_meet; case rel => exact ⟨_, (0), rf_, H', ⟨by have := HJ14.out; have := HJ22.out; have := HJ26.out; first | omega | exact Nat.le_refl _⟩, ⟨by refine bz_ ?_; exact K0.out⟩, ⟨bw_ HB⟩⟩
       case rest =>
        clear C3; (try clear c10); (try clear c10b0); (try clear c10b1); (try clear z0); (try clear z1); (try clear z2); (try clear z3); (try clear f0); (try clear f1); (try clear f2); (try clear f3); obtain ⟨kq, x20_28, rfl, HA, HJ28, K0, HB⟩ := hcut; cases kq with
        | zero => exact absurd HA.out (by simp [parts_Round.j3])
        | succ kj28 =>
         have H := HA.out; clear HA; simp only [parts_Round.j3] at H; replace H := bo_ H; obtain ⟨t1057, A32, H⟩ := H; (try dsimp only at H); have C4 := Aside0.mk H; clear H; go_upto_if 77 with (first | ((with_reducible refine gate_callee (f := 120) rfl ?_); refine gl_ (some 77) rfl rfl Tryd.func120 (by kernel_rfl) rfl #[.bool a0, .int .u64 t1054, .bool t1055, .bool x19_22, .int .i64 a5] rfl ?_; (with_reducible refine (parts_up.calls a0 t1054 t1055 x19_22 a5 t1057 _ A32.out).mono ?_); rintro e w' ⟨rfl, ⟨nd, rfl⟩⟩; refine ⟨_, rfl, ?_⟩)); (try simp only [sp_]); go_cut [17] (fun v17 wc => ∃ (kq : Nat) (x17_32 : Int), v17 = .int .u64 x17_32 ∧ Aside0 (parts_Round.j4 kq a0 a5 ji21 x17_32 x20_28 = some (r1, r2)) ∧ Aside0 (kq ≤ kj28) ∧ Aside0 (wc.heap[g0]? = some (.cells #[.int .u64 a1, .int .u64 a2] 139 (0, 0))) ∧ Aside0 (Below w.heap.size w wc))
         case first =>
          have H := C4.out; clear C4; by_cases c34 : t1057 = true
          ·
           subst c34; rw [if_pos rfl] at H; have H' := Aside0.mk H; clear H; go_wp2; go_meet; case rel => exact ⟨_, (IntKind.u64.wrap (t1054 + 1)), rf_, H', ⟨by have := HJ14.out; have := HJ22.out; have := HJ26.out; have := HJ28.out; first | omega | exact Nat.le_refl _⟩, ⟨by refine bz_ ?_; exact K0.out⟩, ⟨bw_ HB⟩⟩
          replace c34 := Bool.eq_false_iff.mpr c34; subst c34; rw [if_neg nt_] at H; have H' := Aside0.mk H; clear H; go_wp2; go_meet; case rel => exact ⟨_, (t1054), rf_, H', ⟨by have := HJ14.out; have := HJ22.out; have := HJ26.out; have := HJ28.out; first | omega | exact Nat.le_refl _⟩, ⟨by refine bz_ ?_; exact K0.out⟩, ⟨bw_ HB⟩⟩
         case rest =>
          clear C4; (try clear c10); (try clear c10b0); (try clear c10b1); (try clear z0); (try clear z1); (try clear z2); (try clear z3); (try clear f0); (try clear f1); (try clear f2); (try clear f3); obtain ⟨kq, x17_32, rfl, HA, HJ32, K0, HB⟩ := hcut; cases kq with
          | zero => exact absurd HA.out (by simp [parts_Round.j4])
          | succ kj32 =>
           have H := HA.out; clear HA; simp only [parts_Round.j4] at H; have C5 := Aside0.mk H; clear H; go_upto_if 81 with (fail); go_cut [16, 17] (fun v16 v17 wc => ∃ (kq : Nat) (x16_34 : Int) (x17_34 : Int), v16 = .int .i64 x16_34 ∧ v17 = .int .u64 x17_34 ∧ Aside0 (parts_Round.j5 kq a0 a5 x16_34 x17_34 x20_28 = some (r1, r2)) ∧ Aside0 (kq ≤ kj32) ∧ Aside0 (wc.heap[g0]? = some (.cells #[.int .u64 a1, .int .u64 a2] 139 (0, 0))) ∧ Aside0 (Below w.heap.size w wc))
           case first =>
            have H := C5.out; clear C5; by_cases c36 : x17_32 = 9007199254740992
            ·
             rw [if_pos c36] at H; obtain ⟨c36b0, c36b1⟩ := q1_ c36; clear c36; (first | rw [c36b0] | (simp only [i64_w, i32_w]; rw [c36b0]) | skip); have H' := Aside0.mk H; clear H; go_wp2; go_meet; case rel => exact ⟨_, (wrap64 (ji21 + 1)), (4503599627370496), (by first | rfl | (simp; done) | (simp only [← j8] <;> (first | rfl | simp)) | (simp [*]; done)), rf_, H', ⟨by have := HJ14.out; have := HJ22.out; have := HJ26.out; have := HJ28.out; have := HJ32.out; first | omega | exact Nat.le_refl _⟩, ⟨by refine bz_ ?_; exact K0.out⟩, ⟨bw_ HB⟩⟩
            rw [if_neg c36] at H; obtain ⟨c36b0, c36b1⟩ := q0_ c36; (first | rw [c36b0] | (simp only [i64_w, i32_w]; rw [c36b0]) | skip); have H' := Aside0.mk H; clear H; go_wp2; go_meet; case rel => exact ⟨_, (ji21), (x17_32), (by first | rfl | (simp; done) | (simp only [← j8] <;> (first | rfl | simp)) | (simp [*]; done)), rf_, H', ⟨by have := HJ14.out; have := HJ22.out; have := HJ26.out; have := HJ28.out; have := HJ32.out; first | omega | exact Nat.le_refl _⟩, ⟨by refine bz_ ?_; exact K0.out⟩, ⟨bw_ HB⟩⟩
           case rest =>
            clear C5; (try clear c10); (try clear c10b0); (try clear c10b1); (try clear z0); (try clear z1); (try clear z2); (try clear z3); (try clear f0); (try clear f1); (try clear f2); (try clear f3); obtain ⟨kq, x16_34, x17_34, rfl, rfl, HA, HJ34, K0, HB⟩ := hcut; cases kq with
            | zero => exact absurd HA.out (by simp [parts_Round.j5])
            | succ kj34 =>
             have H := HA.out; clear HA; simp only [parts_Round.j5] at H; have C6 := Aside0.mk H; clear H; go_upto_region 19 with (fail); go_cut [90] (fun v90 wc => ∃ (kq : Nat) (x90_36 : Bool), v90 = .bool x90_36 ∧ Aside0 (parts_Round.j6 kq a0 a5 x16_34 x17_34 x20_28 x90_36 = some (r1, r2)) ∧ Aside0 (kq ≤ kj34) ∧ Aside0 (wc.heap[g0]? = some (.cells #[.int .u64 a1, .int .u64 a2] 139 (0, 0))) ∧ Aside0 (Below w.heap.size w wc))
             case first =>
              have H := C6.out; clear C6; by_cases c38 : x17_34 ≥ 4503599627370496
              ·
               rw [if_pos c38] at H; have c38b0 : decide (4503599627370496 ≤ x17_34) = true := decide_eq_true c38; clear c38; (first | rw [c38b0] | (simp only [i64_w, i32_w]; rw [c38b0]) | skip); have H' := Aside0.mk H; clear H; go_wp2; go_meet; case rel => exact ⟨_, (decide ((wrap64 (x16_34 + 1075)) ≥ 2047)), rf_, H', ⟨by have := HJ14.out; have := HJ22.out; have := HJ26.out; have := HJ28.out; have := HJ32.out; have := HJ34.out; first | omega | exact Nat.le_refl _⟩, ⟨by refine bz_ ?_; exact K0.out⟩, ⟨bw_ HB⟩⟩
              rw [if_neg c38] at H; have c38b0 : decide (4503599627370496 ≤ x17_34) = false := decide_eq_false c38; clear c38; (first | rw [c38b0] | (simp only [i64_w, i32_w]; rw [c38b0]) | skip); have H' := Aside0.mk H; clear H; go_wp2; go_meet; case rel => exact ⟨_, (false), rf_, H', ⟨by have := HJ14.out; have := HJ22.out; have := HJ26.out; have := HJ28.out; have := HJ32.out; have := HJ34.out; first | omega | exact Nat.le_refl _⟩, ⟨by refine bz_ ?_; exact K0.out⟩, ⟨bw_ HB⟩⟩
             case rest =>
              clear C6; (try clear c10); (try clear c10b0); (try clear c10b1); (try clear z0); (try clear z1); (try clear z2); (try clear z3); (try clear f0); (try clear f1); (try clear f2); (try clear f3); obtain ⟨kq, x90_36, rfl, HA, HJ36, K0, HB⟩ := hcut; cases kq with
              | zero => exact absurd HA.out (by simp [parts_Round.j6])
              | succ kj36 =>
               have H := HA.out; clear HA; simp only [parts_Round.j6] at H; by_cases c39 : x90_36 = true
               ·
                subst c39; rw [if_pos rfl] at H; replace H := bo_ H; obtain ⟨⟨t1058, t1059⟩, A40, H⟩ := H; replace H : (some (t1058, t1059)) = some (r1, r2) := H; simp only [Option.some.injEq, Prod.mk.injEq] at H; obtain ⟨rfl, rfl⟩ := H; go_wp2_with (first | ((with_reducible refine gate_callee (f := 121) rfl ?_); refine gl_ (some 93) rfl rfl Tryd.func121 (by kernel_rfl) rfl #[.bool a0, .int .i64 a5] rfl ?_; (with_reducible refine (parts_over.calls kj36 a0 a5 t1058 t1059 _ A40.out).mono ?_); rintro e w' ⟨rfl, ⟨nd, rfl⟩⟩; refine ⟨_, rfl, ?_⟩)); go_ret2; exact ⟨by first | exact er0_ | (simp only [← j9, ← j7, ← j8]; exact er0_) | exact er_, bw_ HB⟩
               replace c39 := Bool.eq_false_iff.mpr c39; subst c39; rw [if_neg nt_] at H; replace H := bo_ H; obtain ⟨t1060, A41, H⟩ := H; replace H : (some (t1060, x20_28)) = some (r1, r2) := H; simp only [Option.some.injEq, Prod.mk.injEq] at H; obtain ⟨rfl, rfl⟩ := H; go_wp2_with (first | ((with_reducible refine gate_callee (f := 122) rfl ?_); refine gl_ (some 99) rfl rfl Tryd.func122 (by kernel_rfl) rfl #[.bool a0, .int .u64 x17_34, .int .i64 x16_34] rfl ?_; (with_reducible refine (parts_put.calls a0 x17_34 x16_34 t1060 _ A41.out).mono ?_); rintro e w' ⟨rfl, ⟨nd, rfl⟩⟩; refine ⟨_, rfl, ?_⟩)); go_ret2; exact ⟨by first | exact er0_ | (simp only [← j9, ← j7, ← j8]; exact er0_) | exact er_, bw_ HB⟩
end Go.Proofs.YtjgdpjbkmcjbcaaDoor.PG
end
section
namespace Go.Proofs.YtjgdpjbkmcjbcaaDoor.PG
open Go.RowKit Go.Proofs.YtjgdpjbkmcjbcaaDoorW.PrintWords Go.Proofs.YtjgdpjbkmcjbcaaDoorW.PrintLast Go.Proofs.YtjgdpjbkmcjbcaaDoorW.PrintMore
attribute [local go_sem] max2_int min2_int max_two min_two max_three min_three max_four min_four
set_option linter.unusedVariables false
set_option linter.unusedSimpArgs false
attribute [local go_sem] fld139_1
def nat_size.l0 : Nat → List Int → Int → Option (Int)
 | 0, _, _ => none
 | k + 1, x0, x3 => if x3 > 0 then (if 0 ≤ (wrap64 (x3 - 1)) then (if (wrap64 (x3 - 1)) < (x0.length : Int) then (if (rd x0 (wrap64 (x3 - 1))) = 0 then (nat_size.l0 k x0 (wrap64 (x3 - 1))) else (some x3)) else (none)) else (none)) else (some x3)
def nat_size.f (k : Nat) (l0 : List Int) : Option (Int) := nat_size.l0 k l0 (l0.length : Int)
set_option maxHeartbeats 8000000 in
set_option maxRecDepth 100000 in
theorem nat_size.calls (k : Nat) (A0 : Option Addr) (c0 : Nat) (l0 : List Int) (r : Int) (w : World) (hr0 : Kd.C (Kd.int .u64) w A0 l0.length l0) (hc0 : l0.length ≤ c0) (h : nat_size.f k l0 = some r) :
  Calls Tryd.prog 59 #[.slice A0 l0.length c0] w fun e w' => e = .returned (.int .i64 r) ∧ Drawn0 w w' := by
 have R0 := Aside0.mk hr0; have C0 := Aside0.mk hc0; clear hr0 hc0; have H : (nat_size.l0 k l0 (l0.length : Int)) = some r := h; clear h; have H' := Aside0.mk H; clear H; go_enter Tryd.func59, Tryd.ntmps59; go_wp2; go_loopg [3] k (fun kq v3 w' => ∃ (x3_1 : Int), v3 = .int .i64 x3_1 ∧ Aside0 (nat_size.l0 kq l0 x3_1 = some r) ∧ Aside0 (kq ≤ k) ∧ Drawn0 w w'); case atStart => exact ⟨((l0.length : Int)), rf_, H', ⟨Nat.le_refl _⟩, dr_⟩
 case round =>
  clear H'; obtain ⟨x3_1, rfl, HA, HK1, ⟨m1, rfl⟩⟩ := hrel; cases gk with
  | zero => exact absurd HA.out (by simp [nat_size.l0])
  | succ k1 =>
   have H := HA.out; clear HA; simp only [nat_size.l0] at H; by_cases c2 : x3_1 > 0
   ·
    rw [if_pos c2] at H; have c2b0 : decide (0 < x3_1) = true := decide_eq_true c2; clear c2; obtain ⟨ji3, j0⟩ : ∃ j_ : Int, (wrap64 (x3_1 - 1)) = j_ := ⟨_, rfl⟩; (replace H : (if 0 ≤ (ji3) then (if (ji3) < (l0.length : Int) then (if (rd l0 (ji3)) = 0 then (nat_size.l0 k1 l0 ji3) else (some x3_1)) else (none)) else (none)) = some r := by first | (rw [j0] at H; exact H) | (simp only [j0] at H ⊢; exact H)); have hji3w : (IntKind.i64.wrap (x3_1 - 1)) = ji3 := (i64_w _).trans j0; by_cases c4 : 0 ≤ (ji3)
    ·
     rw [if_pos c4] at H; have c4b0 := decide_eq_true c4; clear c4; by_cases c5 : (ji3) < (l0.length : Int)
     ·
      rw [if_pos c5] at H; have c5b0 := decide_eq_true c5; clear c5; by_cases c6 : (rd l0 (ji3)) = 0
      ·
       rw [if_pos c6] at H; obtain ⟨c6b0, c6b1⟩ := q1_ c6; clear c6; have H' := Aside0.mk H; clear H; have p101 : 0 ≤ ((ji3) : Int) := od_; have q101 : (ji3) < (l0.length : Int) := od_; obtain ⟨ad101, e101, hx101_0⟩ := Kd.at_int R0.out (ji3) p101 q101; cases e101
       replace p101 := eq_true p101; replace q101 := eq_true q101; go_wp2; go_roundg k1; case measure => have := HK1.out; omega
       case rel => exact ⟨(ji3), (by first | rfl | (simp; done) | (simp only [← j0] <;> (first | rfl | simp)) | (simp [*]; done)), H', ⟨by have := HK1.out; omega⟩, dr_⟩
      rw [if_neg c6] at H; obtain ⟨c6b0, c6b1⟩ := q0_ c6; obtain rfl := Option.some.inj H; have p101 : 0 ≤ ((ji3) : Int) := od_; have q101 : (ji3) < (l0.length : Int) := od_; obtain ⟨ad101, e101, hx101_0⟩ := Kd.at_int R0.out (ji3) p101 q101; cases e101
      replace p101 := eq_true p101; replace q101 := eq_true q101; go_wp2; go_ret; exact ⟨by first | rfl | (simp; done) | (simp only [← j0] <;> (first | rfl | simp)) | (simp [*]; done), dr_⟩
     rw [if_neg c5] at H; exact absurd H (by simp)
    rw [if_neg c4] at H; exact absurd H (by simp)
   rw [if_neg c2] at H; have c2b0 : decide (0 < x3_1) = false := decide_eq_false c2; clear c2; obtain rfl := Option.some.inj H; go_wp2; go_ret; exact ⟨rf_, dr_⟩
end Go.Proofs.YtjgdpjbkmcjbcaaDoor.PG
end
section
namespace Go.Proofs.YtjgdpjbkmcjbcaaDoor.PG
open Go.RowKit Go.Proofs.YtjgdpjbkmcjbcaaDoorW.PrintWords Go.Proofs.YtjgdpjbkmcjbcaaDoorW.PrintLast Go.Proofs.YtjgdpjbkmcjbcaaDoorW.PrintMore
attribute [local go_sem] max2_int min2_int max_two min_two max_three min_three max_four min_four
set_option linter.unusedVariables false
set_option linter.unusedSimpArgs false
attribute [local go_sem] fld139_1
def nat_Bits.f (k : Nat) (l0 : List Int) : Option (Int) := (nat_size.f k l0).bind fun t102 => (if t102 = 0 then (some 0) else (if 0 ≤ (wrap64 (t102 - 1)) then (if (wrap64 (t102 - 1)) < (l0.length : Int) then ((bits_Len64.f (rd l0 (wrap64 (t102 - 1)))).bind fun t104 => (some (wrap64 ((wrap64 (64 * (wrap64 (t102 - 1)))) + t104)))) else (none)) else (none)))
set_option maxHeartbeats 8000000 in
set_option maxRecDepth 100000 in
theorem nat_Bits.calls (k : Nat) (A0 : Option Addr) (c0 : Nat) (l0 : List Int) (r : Int) (w : World) (hr0 : Kd.C (Kd.int .u64) w A0 l0.length l0) (hc0 : l0.length ≤ c0) (h : nat_Bits.f k l0 = some r) :
  Calls Tryd.prog 16 #[.slice A0 l0.length c0] w fun e w' => e = .returned (.int .i64 r) ∧ Drawn0 w w' := by
 have R0 := Aside0.mk hr0; have C0 := Aside0.mk hc0; clear hr0 hc0; have H := h; rw [nat_Bits.f] at H; clear h; replace H := bo_ H; obtain ⟨t102, A2, H⟩ := H; (try dsimp only at H); by_cases c3 : t102 = 0
 ·
  rw [if_pos c3] at H; obtain ⟨c3b0, c3b1⟩ := q1_ c3; clear c3; obtain rfl := Option.some.inj H; go_enter Tryd.func16, Tryd.ntmps16; go_wp2_with (first | ((with_reducible refine gate_callee (f := 59) rfl ?_); refine gl_ (some 5) rfl rfl Tryd.func59 (by kernel_rfl) rfl #[.slice A0 l0.length c0] rfl ?_; (with_reducible refine (nat_size.calls k _ _ l0 t102 _ ?side1 ?side2 A2.out).mono ?_); (case side1 => exact cl_ R0.out); (case side2 => exact C0.out); rintro e w' ⟨rfl, ⟨nd, rfl⟩⟩; refine ⟨_, rfl, ?_⟩)); go_ret; exact ⟨rf_, dr_⟩
 rw [if_neg c3] at H; obtain ⟨c3b0, c3b1⟩ := q0_ c3; obtain ⟨ji4, j0⟩ : ∃ j_ : Int, (wrap64 (t102 - 1)) = j_ := ⟨_, rfl⟩; (replace H : (if 0 ≤ (ji4) then (if (ji4) < (l0.length : Int) then ((bits_Len64.f (rd l0 (ji4))).bind fun t104 => (some (wrap64 ((wrap64 (64 * (ji4))) + t104)))) else (none)) else (none)) = some r := by first | (rw [j0] at H; exact H) | (simp only [j0] at H ⊢; exact H)); (try rw [j0] at A2); have hji4w : (IntKind.i64.wrap (t102 - 1)) = ji4 := (i64_w _).trans j0; by_cases c5 : 0 ≤ (ji4)
 ·
  rw [if_pos c5] at H; have c5b0 := decide_eq_true c5; clear c5; by_cases c6 : (ji4) < (l0.length : Int)
  ·
   rw [if_pos c6] at H; have c6b0 := decide_eq_true c6; clear c6; replace H := bo_ H; obtain ⟨t104, A7, H⟩ := H; (try dsimp only at H); obtain rfl := Option.some.inj H; go_enter Tryd.func16, Tryd.ntmps16; go_wp2_with (first | ((with_reducible refine gate_callee (f := 59) rfl ?_); refine gl_ (some 5) rfl rfl Tryd.func59 (by kernel_rfl) rfl #[.slice A0 l0.length c0] rfl ?_; (with_reducible refine (nat_size.calls k _ _ l0 t102 _ ?side1 ?side2 A2.out).mono ?_); (case side1 => exact cl_ R0.out); (case side2 => exact C0.out); rintro e w' ⟨rfl, ⟨nd, rfl⟩⟩; refine ⟨_, rfl, ?_⟩; have p103 : 0 ≤ ((ji4) : Int) := od_; have q103 : (ji4) < (l0.length : Int) := od_; obtain ⟨ad103, e103, hx103_0⟩ := Kd.at_int R0.out (ji4) p103 q103; cases e103; replace p103 := eq_true p103; replace q103 := eq_true q103) | ((with_reducible refine gate_callee (f := 60) rfl ?_); refine goesL_ (some 16) rfl rfl Tryd.func60 (by kernel_rfl) rfl #[.int .u64 (rd l0 (ji4))] rfl (by (try simp only [List.map_toArray, List.map_cons, List.map_nil]); first | done | (simp only [j0]; rfl) | rfl | (simp only [List.length_drop, List.length_take]; rfl)) ?_; (with_reducible refine (bits_Len64.calls (rd l0 (ji4)) t104 _ A7.out).mono ?_); rintro e w' ⟨rfl, ⟨nd, rfl⟩⟩; refine ⟨_, rfl, ?_⟩)); go_ret; exact ⟨by first | rfl | (simp; done) | (simp only [← j0] <;> (first | rfl | simp)) | (simp [*]; done), dr_⟩
  rw [if_neg c6] at H; exact absurd H (by simp)
 rw [if_neg c5] at H; exact absurd H (by simp)
end Go.Proofs.YtjgdpjbkmcjbcaaDoor.PG
end
