/- A part of a proof. -/
import Derived.Test.YtjgdpjbkmcjbcaaDoorZFfmaTells37
namespace Go.Proofs.YtjgdpjbkmcjbcaaDoor.PG
open Go.RowKit Go.Proofs.YtjgdpjbkmcjbcaaDoorW.PrintWords Go.Proofs.YtjgdpjbkmcjbcaaDoorW.PrintLast Go.Proofs.YtjgdpjbkmcjbcaaDoorW.PrintMore
attribute [local go_sem] max2_int min2_int max_two min_two max_three min_three max_four min_four
set_option linter.unusedVariables false
set_option linter.unusedSimpArgs false
attribute [local go_sem] fld139_1
def parts_wide_shr.f (a0_0 : Int) (a0_1 : Int) (a1 : Int) : Option (Int × Int) := if a1 ≥ 128 then (some (0, 0)) else (if a1 ≥ 64 then (if 0 ≤ (wrap64 (a1 - 64)) then (some (0, shr .u64 a0_0 (wrap64 (a1 - 64)))) else (none)) else (if a1 = 0 then (some (a0_0, a0_1)) else (if 0 ≤ a1 then (if 0 ≤ (wrap64 (64 - a1)) then (some (shr .u64 a0_0 a1, Go.bits .or .u64 (shr .u64 a0_1 a1) (shl .u64 a0_0 (wrap64 (64 - a1))))) else (none)) else (none))))
def parts_wide_shr.T7 : Bool × List (List Nat × List Nat) := (true, [([], []), ([0], [0]), ([], []), ([1, 2], [1, 2]), ([], []), ([4], [4]), ([], []), ([5, 6], [5, 6]), ([], []), ([8], [8]), ([], []), ([10], [10]), ([9, 11], [9, 11]), ([7, 12], [7, 12]), ([3, 13], [3, 13]), ([14, 0, 1, 2, 3, 4, 5, 6, 7, 8, 9, 10, 11, 12, 13, 14], [14])])
def parts_wide_shr.B7 : List Nat := [0, 1, 0, 7, 0, 16, 0, 112, 0, 256, 0, 1024, 3840, 8176, 16383, 32767]
theorem parts_wide_shr.tab7 : rtab .any (opsOf Tryd.f129 7) = parts_wide_shr.T7 := by kernel_rfl
theorem parts_wide_shr.bits7 : waitsOk parts_wide_shr.T7.2 parts_wide_shr.B7 = true := by kernel_rfl
set_option maxHeartbeats 8000000 in
set_option maxRecDepth 100000 in
theorem parts_wide_shr.calls (a0_0 : Int) (a0_1 : Int) (a1 : Int) (r1 : Int) (r2 : Int) (w : World) (h : parts_wide_shr.f a0_0 a0_1 a1 = some (r1, r2)) :
  Calls Tryd.prog 129 #[.agg #[.int .u64 a0_0, .int .u64 a0_1], .int .i64 a1] w fun e w' => e = .returned (.agg #[.int .u64 r1, .int .u64 r2]) ∧ Below w.heap.size w w' := by
 have hu139 := Tryd.underlying139; have HB := Aside0.mk (Below.refl w.heap.size w); have H := h; rw [parts_wide_shr.f] at H; clear h; by_cases c3 : a1 ≥ 128
 ·
  rw [if_pos c3] at H; have c3b0 : decide (128 ≤ a1) = true := decide_eq_true c3; clear c3; simp only [Option.some.injEq, Prod.mk.injEq] at H; obtain ⟨rfl, rfl⟩ := H; go_enter Tryd.func129, Tryd.ntmps129; go_wp2_with (first | ((with_reducible refine gate_dst (N := 2) rfl ?_); refine box_event ?hg (N := 2) ?hd (cs := #[.int .u64 a0_0, .int .u64 a0_1]) (t := 139) ?hr ?_; (case hd => rfl); (case hg => rfl); (case hr => first | (go_simp; done) | (go_simp; rfl)); intro g1 hg w4 hbox hb; have K0 := Aside0.mk (hbox); have G0 := gw_ hg HB; have E0 := gw_ hg HB; replace HB := bs_ HB hb; clear hb hbox hg) | ((with_reducible refine gate_dst (N := 4) rfl ?_); refine box_event ?hg (N := 4) ?hd (cs := #[.int .u64 0, .int .u64 0]) (t := 139) ?hr ?_; (case hd => rfl); (case hg => rfl); (case hr => first | (go_simp; done) | (go_simp; rfl)); intro g0 hg w5 hbox hb; have K1 := Aside0.mk (hbox); have G1 := gw_ hg HB; have E1 := gw_ hg HB; replace HB := bs_ HB hb; have N0 := nl_ hg K0; have N1 := ng_ hg K0; replace K0 := bk_ K0 hb; clear hb hbox hg; have b0 := N1.out; have d0 := N0.out; obtain ⟨z0, z1, f0, f1⟩ := c2_ K1)); refine bodyPost_ret (results_cell_row rfl _ _ g0 139 #[.int .u64 0, .int .u64 0] (0, 0) _ rfl (by (with_reducible repeat (first | refine blk_drewN ?_ _ | refine blk_drew ?_ | refine blk_alloc ?_ _)); refine blk_put (cs := #[.int .u64 0, .int .u64 0]) ?_ 1 _ rfl; (with_reducible repeat (first | refine blk_drewN ?_ _ | refine blk_drew ?_ | refine blk_alloc ?_ _)); refine blk_put (cs := #[.int .u64 0, .int .u64 0]) ?_ 0 _ rfl; (with_reducible repeat (first | refine blk_drewN ?_ _ | refine blk_drew ?_ | refine blk_alloc ?_ _)); exact K1.out) Tryd.underlying139 rfl (by kernel_rfl)) rfl ?_; exact ⟨er_, bw_ HB⟩
 rw [if_neg c3] at H; have c3b0 : decide (128 ≤ a1) = false := decide_eq_false c3; clear c3; by_cases c8 : a1 ≥ 64
 ·
  rw [if_pos c8] at H; have c8b0 : decide (64 ≤ a1) = true := decide_eq_true c8; clear c8; obtain ⟨ji9, j4⟩ : ∃ j_ : Int, (wrap64 (a1 - 64)) = j_ := ⟨_, rfl⟩; replace H : (if 0 ≤ (ji9) then (some (0, shr .u64 a0_0 (ji9))) else (none)) = some (r1, r2) := by first | (rw [j4] at H; exact H) | (simp only [j4] at H ⊢; exact H)
  have hji9w : (IntKind.i64.wrap (a1 - 64)) = ji9 := (i64_w _).trans j4; by_cases c10 : 0 ≤ (ji9)
  ·
   rw [if_pos c10] at H; have c10b0 := eq_true c10; have c10b1 := decide_eq_true c10; clear c10; obtain ⟨ji11, j0⟩ : ∃ j_ : Int, (shr .u64 a0_0 (ji9)) = j_ := ⟨_, rfl⟩; replace H : (some (0, ji11)) = some (r1, r2) := by first | (rw [j0] at H; exact H) | (simp only [j0] at H ⊢; exact H)
   have hji11_ : (a0_0 / 2 ^ min (ji9).toNat 64) = ji11 := j0; have hji11z : (ji9) ≤ 64 → (a0_0 / 2 ^ (ji9).toNat) = ji11 := shr_small j0; simp only [Option.some.injEq, Prod.mk.injEq] at H; obtain ⟨rfl, rfl⟩ := H; go_enter Tryd.func129, Tryd.ntmps129; go_wp2_with (first | ((with_reducible refine gate_dst (N := 2) rfl ?_); refine box_event ?hg (N := 2) ?hd (cs := #[.int .u64 a0_0, .int .u64 a0_1]) (t := 139) ?hr ?_; (case hd => rfl); (case hg => rfl); (case hr => first | (go_simp; done) | (go_simp; rfl)); intro g1 hg w12 hbox hb; have K0 := Aside0.mk (hbox); have G0 := gw_ hg HB; have E0 := gw_ hg HB; replace HB := bs_ HB hb; clear hb hbox hg) | ((with_reducible refine gate_dst (N := 4) rfl ?_); refine box_event ?hg (N := 4) ?hd (cs := #[.int .u64 0, .int .u64 0]) (t := 139) ?hr ?_; (case hd => rfl); (case hg => rfl); (case hr => first | (go_simp; done) | (go_simp; rfl)); intro g0 hg w13 hbox hb; have K1 := Aside0.mk (hbox); have G1 := gw_ hg HB; have E1 := gw_ hg HB; replace HB := bs_ HB hb; have N0 := nl_ hg K0; have N1 := ng_ hg K0; replace K0 := bk_ K0 hb; clear hb hbox hg; have b1 := N0.out; have d1 := N1.out; obtain ⟨z2, z3, f2, f3⟩ := c2_ K0; obtain ⟨z4, z5, f4, f5⟩ := c2_ K1)); refine bodyPost_ret (results_cell_row rfl _ _ g0 139 #[.int .u64 0, .int .u64 ji11] (0, 0) _ rfl (by (with_reducible repeat (first | refine blk_drewN ?_ _ | refine blk_drew ?_ | refine blk_alloc ?_ _)); refine blk_put (cs := #[.int .u64 0, .int .u64 0]) ?_ 1 _ rfl; (with_reducible repeat (first | refine blk_drewN ?_ _ | refine blk_drew ?_ | refine blk_alloc ?_ _)); refine blk_put (cs := #[.int .u64 0, .int .u64 0]) ?_ 0 _ rfl; (with_reducible repeat (first | refine blk_drewN ?_ _ | refine blk_drew ?_ | refine blk_alloc ?_ _)); exact K1.out) Tryd.underlying139 rfl (by kernel_rfl)) rfl ?_; exact ⟨by first | rfl | (simp [errW_none, errW_some] <;> rfl) | (simp only [← j4, ← j0]; first | rfl | (simp [errW_none, errW_some] <;> rfl)) | (simp [*, errW_none, errW_some] <;> rfl), bw_ HB⟩
  rw [if_neg c10] at H; exact absurd H (by simp)
 rw [if_neg c8] at H; have c8b0 : decide (64 ≤ a1) = false := decide_eq_false c8; clear c8; by_cases c17 : a1 = 0
 ·
  rw [if_pos c17] at H; obtain ⟨c17b0, c17b1⟩ := q1_ c17; clear c17; simp only [Option.some.injEq, Prod.mk.injEq] at H; obtain ⟨rfl, rfl⟩ := H; go_enter Tryd.func129, Tryd.ntmps129; go_wp2_with (first | ((with_reducible refine gate_dst (N := 2) rfl ?_); refine box_event ?hg (N := 2) ?hd (cs := #[.int .u64 a0_0, .int .u64 a0_1]) (t := 139) ?hr ?_; (case hd => rfl); (case hg => rfl); (case hr => first | (go_simp; done) | (go_simp; rfl)); intro g1 hg w18 hbox hb; have K0 := Aside0.mk (hbox); have G0 := gw_ hg HB; have E0 := gw_ hg HB; replace HB := bs_ HB hb; clear hb hbox hg) | ((with_reducible refine gate_dst (N := 4) rfl ?_); refine box_event ?hg (N := 4) ?hd (cs := #[.int .u64 0, .int .u64 0]) (t := 139) ?hr ?_; (case hd => rfl); (case hg => rfl); (case hr => first | (go_simp; done) | (go_simp; rfl)); intro g0 hg w19 hbox hb; have K1 := Aside0.mk (hbox); have G1 := gw_ hg HB; have E1 := gw_ hg HB; replace HB := bs_ HB hb; have N0 := nl_ hg K0; have N1 := ng_ hg K0; replace K0 := bk_ K0 hb; clear hb hbox hg; have b2 := N0.out; have d2 := N1.out; obtain ⟨z6, z7, f6, f7⟩ := c2_ K0; obtain ⟨z8, z9, f8, f9⟩ := c2_ K1)); refine bodyPost_ret (results_cell_row rfl _ _ g0 139 #[.int .u64 a0_0, .int .u64 a0_1] (0, 0) _ rfl (by (with_reducible repeat (first | refine blk_drewN ?_ _ | refine blk_drew ?_ | refine blk_alloc ?_ _)); refine blk_put (cs := #[.int .u64 a0_0, .int .u64 0]) ?_ 1 _ rfl; (with_reducible repeat (first | refine blk_drewN ?_ _ | refine blk_drew ?_ | refine blk_alloc ?_ _)); refine blk_put (cs := #[.int .u64 0, .int .u64 0]) ?_ 0 _ rfl; (with_reducible repeat (first | refine blk_drewN ?_ _ | refine blk_drew ?_ | refine blk_alloc ?_ _)); exact K1.out) Tryd.underlying139 rfl (by kernel_rfl)) rfl ?_; exact ⟨er_, bw_ HB⟩
 rw [if_neg c17] at H; obtain ⟨c17b0, c17b1⟩ := q0_ c17; by_cases c23 : 0 ≤ a1
 ·
  rw [if_pos c23] at H; have c23b0 := eq_true c23; have c23b1 := decide_eq_true c23; clear c23; obtain ⟨ji24, j1⟩ : ∃ j_ : Int, (shr .u64 a0_0 a1) = j_ := ⟨_, rfl⟩; replace H : (if 0 ≤ (wrap64 (64 - a1)) then (some (ji24, Go.bits .or .u64 (shr .u64 a0_1 a1) (shl .u64 a0_0 (wrap64 (64 - a1))))) else (none)) = some (r1, r2) := by first | (rw [j1] at H; exact H) | (simp only [j1] at H ⊢; exact H)
  have hji24_ : (a0_0 / 2 ^ min a1.toNat 64) = ji24 := j1; have hji24z : a1 ≤ 64 → (a0_0 / 2 ^ a1.toNat) = ji24 := shr_small j1; have c25b0 := eq_true (of_decide_eq_true (by first | (with_reducible assumption) | assumption) : 0 ≤ a1); obtain ⟨ji26, j2⟩ : ∃ j_ : Int, (shr .u64 a0_1 a1) = j_ := ⟨_, rfl⟩; replace H : (if 0 ≤ (wrap64 (64 - a1)) then (some (ji24, Go.bits .or .u64 (ji26) (shl .u64 a0_0 (wrap64 (64 - a1))))) else (none)) = some (r1, r2) := by first | (rw [j2] at H; exact H) | (simp only [j2] at H ⊢; exact H)
  have hji26_ : (a0_1 / 2 ^ min a1.toNat 64) = ji26 := j2; have hji26z : a1 ≤ 64 → (a0_1 / 2 ^ a1.toNat) = ji26 := shr_small j2; obtain ⟨ji27, j5⟩ : ∃ j_ : Int, (wrap64 (64 - a1)) = j_ := ⟨_, rfl⟩; replace H : (if 0 ≤ (ji27) then (some (ji24, Go.bits .or .u64 (ji26) (shl .u64 a0_0 (ji27)))) else (none)) = some (r1, r2) := by first | (rw [j5] at H; exact H) | (simp only [j5] at H ⊢; exact H)
  have hji27w : (IntKind.i64.wrap (64 - a1)) = ji27 := (i64_w _).trans j5; by_cases c28 : 0 ≤ (ji27)
  ·
   rw [if_pos c28] at H; have c28b0 := eq_true c28; have c28b1 := decide_eq_true c28; clear c28; obtain ⟨ji29, j3⟩ : ∃ j_ : Int, (shl .u64 a0_0 (ji27)) = j_ := ⟨_, rfl⟩; replace H : (some (ji24, Go.bits .or .u64 (ji26) (ji29))) = some (r1, r2) := by first | (rw [j3] at H; exact H) | (simp only [j3] at H ⊢; exact H)
   have hji29_ : (IntKind.u64.wrap (a0_0 * 2 ^ min (ji27).toNat 64)) = ji29 := j3; have hji29z : (ji27) ≤ 64 → (IntKind.u64.wrap (a0_0 * 2 ^ (ji27).toNat)) = ji29 := shl_small j3; simp only [Option.some.injEq, Prod.mk.injEq] at H; obtain ⟨rfl, rfl⟩ := H; go_enter Tryd.func129, Tryd.ntmps129; (try go_wp2_with (first | ((with_reducible refine gate_dst (N := 2) rfl ?_); refine box_event ?hg (N := 2) ?hd (cs := #[.int .u64 a0_0, .int .u64 a0_1]) (t := 139) ?hr ?_; (case hd => rfl); (case hg => rfl); (case hr => first | (go_simp; done) | (go_simp; rfl)); intro g1 hg w30 hbox hb; have K0 := Aside0.mk (hbox); have G0 := gw_ hg HB; have E0 := gw_ hg HB; replace HB := bs_ HB hb; clear hb hbox hg) | ((with_reducible refine gate_dst (N := 4) rfl ?_); refine box_event ?hg (N := 4) ?hd (cs := #[.int .u64 0, .int .u64 0]) (t := 139) ?hr ?_; (case hd => rfl); (case hg => rfl); (case hr => first | (go_simp; done) | (go_simp; rfl)); intro g0 hg w31 hbox hb; have K1 := Aside0.mk (hbox); have G1 := gw_ hg HB; have E1 := gw_ hg HB; replace HB := bs_ HB hb; have N0 := nl_ hg K0; have N1 := ng_ hg K0; replace K0 := bk_ K0 hb; clear hb hbox hg))); replace K0 := Aside0.mk (blk_drew K0.out); replace K1 := Aside0.mk (blk_drew K1.out); replace HB := Aside0.mk (below_drew1 HB.out); refine start_ (n := 16) (S := fun w' => w'.cell? ⟨g1, 0, none⟩ = some (.int .u64 a0_0) ∧ w'.cell? ⟨g1, 1, none⟩ = some (.int .u64 a0_1)) (ds := []) #[false, false, false, false, false, false, false, false, false, false, false, false, false, false, false, false] (by kernel_rfl) rfl rfl (k2_ K0) (fun hHeld => ?_); refine with_tabW parts_wide_shr.tab7 parts_wide_shr.bits7 (fun HT_ HW_ => ?_); generalize w31.drew = w32 at K0 K1 HB hHeld ⊢; refine pure_ (i := 0) (N := some 22) (v := ?_) (a' := ?_) #[true, false, false, false, false, false, false, false, false, false, false, false, false, false, false, false] rfl rfl (any_of HT_.out (by kernel_rfl)) (fun _ _ _ h => h) (Or.inl ⟨by rfl, ?_⟩) ?_ ?_; rotate_left
   ·
    intro w'
    go_simp; with_reducible rfl
   rotate_left
   ·
    simp only [sp_]; rfl
   refine pure_ (i := 2) (N := some 24) (v := ?_) (a' := ?_) #[true, false, true, false, false, false, false, false, false, false, false, false, false, false, false, false] rfl rfl (any_of HT_.out (by kernel_rfl)) (fun _ _ _ h => h) (Or.inl ⟨by rfl, ?_⟩) ?_ ?_; rotate_left
   ·
    intro w'
    go_simp; with_reducible rfl
   rotate_left
   ·
    simp only [sp_]; rfl
   refine pure_ (i := 4) (N := some 26) (v := ?_) (a' := ?_) #[true, false, true, false, true, false, false, false, false, false, false, false, false, false, false, false] rfl rfl (any_of HT_.out (by kernel_rfl)) (fun _ _ _ h => h) (Or.inl ⟨by rfl, ?_⟩) ?_ ?_; rotate_left
   ·
    intro w'
    go_simp; with_reducible rfl
   rotate_left
   ·
    simp only [sp_]; rfl
   refine pure_ (i := 6) (N := some 28) (v := ?_) (a' := ?_) #[true, false, true, false, true, false, true, false, false, false, false, false, false, false, false, false] rfl rfl (any_of HT_.out (by kernel_rfl)) (fun _ _ _ h => h) (Or.inl ⟨by rfl, ?_⟩) ?_ ?_; rotate_left
   ·
    intro w'
    go_simp; with_reducible rfl
   rotate_left
   ·
    simp only [sp_]; rfl
   refine pure_ (i := 8) (N := some 30) (v := ?_) (a' := ?_) #[true, false, true, false, true, false, true, false, true, false, false, false, false, false, false, false] rfl rfl (any_of HT_.out (by kernel_rfl)) (fun _ _ _ h => h) (Or.inl ⟨by rfl, ?_⟩) ?_ ?_; rotate_left
   ·
    intro w'
    go_simp; with_reducible rfl
   rotate_left
   ·
    simp only [sp_]; rfl
   refine pure_ (i := 10) (N := some 32) (v := ?_) (a' := ?_) #[true, false, true, false, true, false, true, false, true, false, true, false, false, false, false, false] rfl rfl (any_of HT_.out (by kernel_rfl)) (fun _ _ _ h => h) (Or.inl ⟨by rfl, ?_⟩) ?_ ?_; rotate_left
   ·
    intro w'
    go_simp; with_reducible rfl
   rotate_left
   ·
    simp only [sp_]; rfl
   refine pure_ (i := 11) (N := some 33) (v := ?_) (a' := ?_) #[true, false, true, false, true, false, true, false, true, false, true, true, false, false, false, false] rfl rfl (any_of HT_.out (by kernel_rfl)) (fun _ _ _ h => h) (Or.inl ⟨by rfl, ?_⟩) ?_ ?_; rotate_left
   ·
    intro w'
    go_simp; with_reducible rfl
   rotate_left
   ·
    simp only [sp_]; rfl
   refine take_ (i := 1) (N := some 23) (v := ?_) (a' := ?_) #[true, true, true, false, true, false, true, false, true, false, true, true, false, false, false, false] rfl rfl (take_ofW HT_.out HW_.out (by kernel_rfl)) (fun _ _ _ h => h) (Or.inl ⟨by rfl, ?_⟩) hHeld ?_ ?_; rotate_left
   ·
    rintro w' ⟨s0, s1⟩; go_simp; with_reducible rfl
   rotate_left
   ·
    simp only [sp_]; rfl
   refine pure_ (i := 3) (N := some 25) (v := ?_) (a' := ?_) #[true, true, true, true, true, false, true, false, true, false, true, true, false, false, false, false] rfl rfl (any_of HT_.out (by kernel_rfl)) (fun _ _ _ h => h) (Or.inl ⟨by rfl, ?_⟩) ?_ ?_; rotate_left
   ·
    intro w'
    go_simp; with_reducible rfl
   rotate_left
   ·
    simp only [sp_]; rfl
   refine take_ (i := 5) (N := some 27) (v := ?_) (a' := ?_) #[true, true, true, true, true, true, true, false, true, false, true, true, false, false, false, false] rfl rfl (take_ofW HT_.out HW_.out (by kernel_rfl)) (fun _ _ _ h => h) (Or.inl ⟨by rfl, ?_⟩) hHeld ?_ ?_; rotate_left
   ·
    rintro w' ⟨s0, s1⟩; go_simp; with_reducible rfl
   rotate_left
   ·
    simp only [sp_]; rfl
   refine pure_ (i := 7) (N := some 29) (v := ?_) (a' := ?_) #[true, true, true, true, true, true, true, true, true, false, true, true, false, false, false, false] rfl rfl (any_of HT_.out (by kernel_rfl)) (fun _ _ _ h => h) (Or.inl ⟨by rfl, ?_⟩) ?_ ?_; rotate_left
   ·
    intro w'
    go_simp; with_reducible rfl
   rotate_left
   ·
    simp only [sp_]; rfl
   refine take_ (i := 9) (N := some 31) (v := ?_) (a' := ?_) #[true, true, true, true, true, true, true, true, true, true, true, true, false, false, false, false] rfl rfl (take_ofW HT_.out HW_.out (by kernel_rfl)) (fun _ _ _ h => h) (Or.inl ⟨by rfl, ?_⟩) hHeld ?_ ?_; rotate_left
   ·
    rintro w' ⟨s0, s1⟩; go_simp; with_reducible rfl
   rotate_left
   ·
    simp only [sp_]; rfl
   refine pure_ (i := 12) (N := some 34) (v := ?_) (a' := ?_) #[true, true, true, true, true, true, true, true, true, true, true, true, true, false, false, false] rfl rfl (any_of HT_.out (by kernel_rfl)) (fun _ _ _ h => h) (Or.inl ⟨by rfl, ?_⟩) ?_ ?_; rotate_left
   ·
    intro w'
    go_simp; with_reducible rfl
   rotate_left
   ·
    simp only [sp_]; rfl
   refine pure_ (i := 13) (N := some 35) (v := ?_) (a' := ?_) #[true, true, true, true, true, true, true, true, true, true, true, true, true, true, false, false] rfl rfl (any_of HT_.out (by kernel_rfl)) (fun _ _ _ h => h) (Or.inl ⟨by rfl, ?_⟩) ?_ ?_; rotate_left
   ·
    intro w'
    go_simp; with_reducible rfl
   rotate_left
   ·
    simp only [sp_]; rfl
   refine pure_ (i := 14) (N := some 36) (v := ?_) (a' := ?_) #[true, true, true, true, true, true, true, true, true, true, true, true, true, true, true, false] rfl rfl (any_of HT_.out (by kernel_rfl)) (fun _ _ _ h => h) (Or.inl ⟨by rfl, ?_⟩) ?_ ?_; rotate_left
   ·
    intro w'
    go_simp; with_reducible rfl
   rotate_left
   ·
    simp only [sp_]; rfl
   refine one_ (i := 15) (N := none) #[true, true, true, true, true, true, true, true, true, true, true, true, true, true, true, true] rfl rfl (one_of HT_.out (by kernel_rfl)) (by decide) (fun K hK => ?_); have hs33 : w32.cell? ⟨g0, 0, none⟩ = some (.int .u64 0) := (blk_cell K1.out 0).trans rfl; have hfs33 := blk_frozen K1.out 0; have hns33_0 := N0.out; have hms33_0 := N1.out; have hs34 : w32.cell? ⟨g0, 1, none⟩ = some (.int .u64 0) := (blk_cell K1.out 1).trans rfl; have hfs34 := blk_frozen K1.out 1; have hns34_0 := N0.out; have hms34_0 := N1.out; refine skip_ (w1 := ?_) (by rfl) rfl ?_ ?_; rotate_left
   ·
    go_simp; rfl
   refine hK.out _ _ ⟨((cf_ N0).trans (((cf_ N0).trans (hHeld.1)))), ((cf_ N0).trans (((cf_ N0).trans (hHeld.2))))⟩ (fun hHeld => ?_); clear hK K; refine done_ (done_of HT_.out (by kernel_rfl)) ?_; (try go_wp2); refine bodyPost_ret (results_cell_row rfl _ _ g0 139 #[.int .u64 ji24, .int .u64 (Go.bits .or .u64 (ji26) (ji29))] (0, 0) _ rfl (by (with_reducible repeat (first | refine blk_drewN ?_ _ | refine blk_drew ?_ | refine blk_alloc ?_ _)); refine blk_put (cs := #[.int .u64 ji24, .int .u64 0]) ?_ 1 _ rfl; (with_reducible repeat (first | refine blk_drewN ?_ _ | refine blk_drew ?_ | refine blk_alloc ?_ _)); refine blk_put (cs := #[.int .u64 0, .int .u64 0]) ?_ 0 _ rfl; (with_reducible repeat (first | refine blk_drewN ?_ _ | refine blk_drew ?_ | refine blk_alloc ?_ _)); exact K1.out) Tryd.underlying139 rfl (by kernel_rfl)) rfl ?_; exact ⟨by first | rfl | (simp [errW_none, errW_some] <;> rfl) | (simp only [← j1, ← j2, ← j5, ← j3]; first | rfl | (simp [errW_none, errW_some] <;> rfl)) | (simp [*, errW_none, errW_some] <;> rfl), bw_ HB⟩
  rw [if_neg c28] at H; exact absurd H (by simp)
 rw [if_neg c23] at H; exact absurd H (by simp)
def parts_wide_cut.l0 : Nat → Int → Bool → Int → Int → Int → Int → Option (Int × Bool × Bool)
 | 0, _, _, _, _, _, _ => none
 | k + 1, x7, x8, x30, x31, x1040000, x1040001 => if x31 < x30 then ((parts_wide_shr.f x1040000 x1040001 x31).bind fun bt1044 => (if (Go.bits .and .u64 bt1044.2 1) = 1 then (some (x7, x8, true)) else (parts_wide_cut.l0 k x7 x8 x30 (wrap64 (x31 + 1)) x1040000 x1040001))) else (some (x7, x8, false))
def parts_wide_cut.f (k : Nat) (a0_0 : Int) (a0_1 : Int) (a1 : Int) : Option (Int × Bool × Bool) := if a1 ≤ 0 then (if 0 ≤ (wrap64 (-a1)) then (some (shl .u64 a0_1 (wrap64 (-a1)), false, false)) else (none)) else ((parts_wide_shr.f a0_0 a0_1 a1).bind fun bt1040 => ((parts_wide_shr.f a0_0 a0_1 (wrap64 (a1 - 1))).bind fun bt1042 => (if 128 < (wrap64 (a1 - 1)) then (parts_wide_cut.l0 k bt1040.2 ((Go.bits .and .u64 bt1042.2 1) == 1) 128 0 a0_0 a0_1) else (parts_wide_cut.l0 k bt1040.2 ((Go.bits .and .u64 bt1042.2 1) == 1) (wrap64 (a1 - 1)) 0 a0_0 a0_1))))
set_option maxHeartbeats 8000000 in
set_option maxRecDepth 100000 in
theorem parts_wide_cut.calls (k : Nat) (a0_0 : Int) (a0_1 : Int) (a1 : Int) (r1 : Int) (r2 : Bool) (r3 : Bool) (w : World) (h : parts_wide_cut.f k a0_0 a0_1 a1 = some (r1, r2, r3)) :
  Calls Tryd.prog 119 #[.agg #[.int .u64 a0_0, .int .u64 a0_1], .int .i64 a1] w fun e w' => e = .returned (.tuple #[.int .u64 r1, .bool r2, .bool r3]) ∧ Below w.heap.size w w' := by
 have hu139 := Tryd.underlying139; have HB := Aside0.mk (Below.refl w.heap.size w); have H := h; rw [parts_wide_cut.f] at H; clear h; by_cases c3 : a1 ≤ 0
 ·
  rw [if_pos c3] at H; have c3b0 := decide_eq_true c3; clear c3; obtain ⟨ji4, j1⟩ : ∃ j_ : Int, (wrap64 (-a1)) = j_ := ⟨_, rfl⟩; replace H : (if 0 ≤ (ji4) then (some (shl .u64 a0_1 (ji4), false, false)) else (none)) = some (r1, r2, r3) := by first | (rw [j1] at H; exact H) | (simp only [j1] at H ⊢; exact H)
  have hji4w : (IntKind.i64.wrap (-a1)) = ji4 := (i64_w _).trans j1; by_cases c5 : 0 ≤ (ji4)
  ·
   rw [if_pos c5] at H; have c5b0 := eq_true c5; have c5b1 := decide_eq_true c5; clear c5; obtain ⟨ji6, j0⟩ : ∃ j_ : Int, (shl .u64 a0_1 (ji4)) = j_ := ⟨_, rfl⟩; replace H : (some (ji6, false, false)) = some (r1, r2, r3) := by first | (rw [j0] at H; exact H) | (simp only [j0] at H ⊢; exact H)
   have hji6_ : (IntKind.u64.wrap (a0_1 * 2 ^ min (ji4).toNat 64)) = ji6 := j0; have hji6z : (ji4) ≤ 64 → (IntKind.u64.wrap (a0_1 * 2 ^ (ji4).toNat)) = ji6 := shl_small j0; simp only [Option.some.injEq, Prod.mk.injEq] at H; obtain ⟨rfl, rfl, rfl⟩ := H; go_enter Tryd.func119, Tryd.ntmps119; go_wp2_with (first | ((with_reducible refine gate_dst (N := 2) rfl ?_); refine box_event ?hg (N := 2) ?hd (cs := #[.int .u64 a0_0, .int .u64 a0_1]) (t := 139) ?hr ?_; (case hd => rfl); (case hg => rfl); (case hr => first | (go_simp; done) | (go_simp; rfl)); intro g0 hg w7 hbox hb; have K0 := Aside0.mk (hbox); have G0 := gw_ hg HB; have E0 := gw_ hg HB; replace HB := bs_ HB hb; clear hb hbox hg; obtain ⟨z4, z5, f4, f5⟩ := c2_ K0)); go_ret3; exact ⟨by first | rfl | (simp [errW_none, errW_some] <;> rfl) | (simp only [← j1, ← j0]; first | rfl | (simp [errW_none, errW_some] <;> rfl)) | (simp [*, errW_none, errW_some] <;> rfl), bw_ HB⟩
  rw [if_neg c5] at H; exact absurd H (by simp)
 rw [if_neg c3] at H; have c3b0 := decide_eq_false c3; clear c3; replace H := bo_ H; obtain ⟨⟨t1040, t1041⟩, A9, H⟩ := H; (try dsimp only at H); replace H := bo_ H; obtain ⟨⟨t1042, t1043⟩, A10, H⟩ := H; (try dsimp only at H); go_enter Tryd.func119, Tryd.ntmps119; go_upto_region 4 with (first | ((with_reducible refine gate_dst (N := 2) rfl ?_); refine box_event ?hg (N := 2) ?hd (cs := #[.int .u64 a0_0, .int .u64 a0_1]) (t := 139) ?hr ?_; (case hd => rfl); (case hg => rfl); (case hr => first | (go_simp; done) | (go_simp; rfl)); intro g0 hg w12 hbox hb; have K0 := Aside0.mk (hbox); have G0 := gw_ hg HB; have E0 := gw_ hg HB; replace HB := bs_ HB hb; clear hb hbox hg; obtain ⟨z0, z1, f0, f1⟩ := c2_ K0) | ((with_reducible refine gate_callee (f := 129) rfl ?_); refine gl_ (some 19) rfl rfl Tryd.func129 (by kernel_rfl) rfl #[.agg #[.int .u64 a0_0, .int .u64 a0_1], .int .i64 a1] rfl ?_; (with_reducible refine (parts_wide_shr.calls a0_0 a0_1 a1 t1040 t1041 _ A9.out).mono ?_); rintro e w14 ⟨rfl, hb⟩; refine ⟨_, rfl, ?_⟩; replace K0 := bk_ K0 hb; replace HB := bs_ HB hb; (try clear hb); obtain ⟨z2, z3, f2, f3⟩ := c2_ K0)); by_cases c11 : 128 < (wrap64 (a1 - 1))
 ·
  rw [if_pos c11] at H; have c11i := eq_true c11; have c11b0 := decide_eq_true c11; clear c11; have H' := Aside0.mk H; clear H; go_wp2_with (first | ((with_reducible refine gate_callee (f := 129) rfl ?_); refine gl_ (some 24) rfl rfl Tryd.func129 (by kernel_rfl) rfl #[.agg #[.int .u64 a0_0, .int .u64 a0_1], .int .i64 (wrap64 (a1 - 1))] rfl ?_; (with_reducible refine (parts_wide_shr.calls a0_0 a0_1 (wrap64 (a1 - 1)) t1042 t1043 _ A10.out).mono ?_); rintro e w16 ⟨rfl, hb⟩; refine ⟨_, rfl, ?_⟩; replace K0 := bk_ K0 hb; replace HB := bs_ HB hb; (try clear hb))); go_loopg [31] k (fun kq v31 w' => ∃ (x31_1 : Int), v31 = .int .i64 x31_1 ∧ Aside0 (parts_wide_cut.l0 kq t1041 ((Go.bits .and .u64 t1043 1) == 1) 128 x31_1 a0_0 a0_1 = some (r1, r2, r3)) ∧ Aside0 (kq ≤ k) ∧ Aside0 (w'.heap[g0]? = some (.cells #[.int .u64 a0_0, .int .u64 a0_1] 139 (0, 0))) ∧ Aside0 (Below w.heap.size w w')); case atStart => exact ⟨(0), rf_, H', ⟨Nat.le_refl _⟩, ⟨by refine bz_ ?_; exact K0.out⟩, ⟨bw_ HB⟩⟩
  case round =>
   clear H'; (try clear c3); (try clear c3b0); (try clear c11); (try clear c11b0); (try clear z0); (try clear z1); (try clear z2); (try clear z3); (try clear f0); (try clear f1); (try clear f2); (try clear f3); obtain ⟨x31_1, rfl, HA, HK1, K0, HB⟩ := hrel; cases gk with
   | zero => exact absurd HA.out (by simp [parts_wide_cut.l0])
   | succ k1 =>
    have H := HA.out; clear HA; simp only [parts_wide_cut.l0] at H; by_cases c17 : x31_1 < 128
    ·
     rw [if_pos c17] at H; have c17b0 := decide_eq_true c17; clear c17; replace H := bo_ H; obtain ⟨⟨t1044, t1045⟩, A18, H⟩ := H; (try dsimp only at H); by_cases c19 : (Go.bits .and .u64 t1045 1) = 1
     ·
      rw [if_pos c19] at H; obtain ⟨c19b0, c19b1⟩ := q1_ c19; clear c19; simp only [Option.some.injEq, Prod.mk.injEq] at H; obtain ⟨rfl, rfl, rfl⟩ := H; obtain ⟨z6, z7, f6, f7⟩ := c2_ K0; go_wp2_with (first | ((with_reducible refine gate_callee (f := 129) rfl ?_); refine gl_ (some 36) rfl rfl Tryd.func129 (by kernel_rfl) rfl #[.agg #[.int .u64 a0_0, .int .u64 a0_1], .int .i64 x31_1] rfl ?_; (with_reducible refine (parts_wide_shr.calls a0_0 a0_1 x31_1 t1044 t1045 _ A18.out).mono ?_); rintro e w21 ⟨rfl, hb⟩; refine ⟨_, rfl, ?_⟩; replace K0 := bk_ K0 hb; replace HB := bs_ HB hb; (try clear hb))); go_ret3; exact ⟨er_, bw_ HB⟩
     rw [if_neg c19] at H; obtain ⟨c19b0, c19b1⟩ := q0_ c19; have H' := Aside0.mk H; clear H; obtain ⟨z8, z9, f8, f9⟩ := c2_ K0; go_wp2_with (first | ((with_reducible refine gate_callee (f := 129) rfl ?_); refine gl_ (some 36) rfl rfl Tryd.func129 (by kernel_rfl) rfl #[.agg #[.int .u64 a0_0, .int .u64 a0_1], .int .i64 x31_1] rfl ?_; (with_reducible refine (parts_wide_shr.calls a0_0 a0_1 x31_1 t1044 t1045 _ A18.out).mono ?_); rintro e w23 ⟨rfl, hb⟩; refine ⟨_, rfl, ?_⟩; replace K0 := bk_ K0 hb; replace HB := bs_ HB hb; (try clear hb))); go_roundg k1; case measure => have := HK1.out; omega
     case rel => exact ⟨(wrap64 (x31_1 + 1)), rf_, H', ⟨by have := HK1.out; omega⟩, ⟨by refine bz_ ?_; exact K0.out⟩, ⟨bw_ HB⟩⟩
    rw [if_neg c17] at H; have c17b0 := decide_eq_false c17; clear c17; simp only [Option.some.injEq, Prod.mk.injEq] at H; obtain ⟨rfl, rfl, rfl⟩ := H; go_wp2; go_ret3; exact ⟨er_, bw_ HB⟩
 rw [if_neg c11] at H; have c11i := eq_false c11; have c11b0 := decide_eq_false c11; clear c11; have H' := Aside0.mk H; clear H; go_wp2_with (first | ((with_reducible refine gate_callee (f := 129) rfl ?_); refine gl_ (some 24) rfl rfl Tryd.func129 (by kernel_rfl) rfl #[.agg #[.int .u64 a0_0, .int .u64 a0_1], .int .i64 (wrap64 (a1 - 1))] rfl ?_; (with_reducible refine (parts_wide_shr.calls a0_0 a0_1 (wrap64 (a1 - 1)) t1042 t1043 _ A10.out).mono ?_); rintro e w28 ⟨rfl, hb⟩; refine ⟨_, rfl, ?_⟩; replace K0 := bk_ K0 hb; replace HB := bs_ HB hb; (try clear hb))); go_loopg [31] k (fun kq v31 w' => ∃ (x31_1 : Int), v31 = .int .i64 x31_1 ∧ Aside0 (parts_wide_cut.l0 kq t1041 ((Go.bits .and .u64 t1043 1) == 1) (wrap64 (a1 - 1)) x31_1 a0_0 a0_1 = some (r1, r2, r3)) ∧ Aside0 (kq ≤ k) ∧ Aside0 (w'.heap[g0]? = some (.cells #[.int .u64 a0_0, .int .u64 a0_1] 139 (0, 0))) ∧ Aside0 (Below w.heap.size w w')); case atStart => exact ⟨(0), rf_, H', ⟨Nat.le_refl _⟩, ⟨by refine bz_ ?_; exact K0.out⟩, ⟨bw_ HB⟩⟩
 case round =>
  clear H'; (try clear c3); (try clear c3b0); (try clear c11); (try clear c11b0); (try clear z0); (try clear z1); (try clear z2); (try clear z3); (try clear f0); (try clear f1); (try clear f2); (try clear f3); obtain ⟨x31_1, rfl, HA, HK1, K0, HB⟩ := hrel; cases gk with
  | zero => exact absurd HA.out (by simp [parts_wide_cut.l0])
  | succ k1 =>
   have H := HA.out; clear HA; simp only [parts_wide_cut.l0] at H; by_cases c29 : x31_1 < (wrap64 (a1 - 1))
   ·
    rw [if_pos c29] at H; have c29b0 := decide_eq_true c29; clear c29; replace H := bo_ H; obtain ⟨⟨t1044, t1045⟩, A30, H⟩ := H; (try dsimp only at H); by_cases c31 : (Go.bits .and .u64 t1045 1) = 1
    ·
     rw [if_pos c31] at H; obtain ⟨c31b0, c31b1⟩ := q1_ c31; clear c31; simp only [Option.some.injEq, Prod.mk.injEq] at H; obtain ⟨rfl, rfl, rfl⟩ := H; obtain ⟨za, zb, fa, fb⟩ := c2_ K0; go_wp2_with (first | ((with_reducible refine gate_callee (f := 129) rfl ?_); refine gl_ (some 36) rfl rfl Tryd.func129 (by kernel_rfl) rfl #[.agg #[.int .u64 a0_0, .int .u64 a0_1], .int .i64 x31_1] rfl ?_; (with_reducible refine (parts_wide_shr.calls a0_0 a0_1 x31_1 t1044 t1045 _ A30.out).mono ?_); rintro e w33 ⟨rfl, hb⟩; refine ⟨_, rfl, ?_⟩; replace K0 := bk_ K0 hb; replace HB := bs_ HB hb; (try clear hb))); go_ret3; exact ⟨er_, bw_ HB⟩
    rw [if_neg c31] at H; obtain ⟨c31b0, c31b1⟩ := q0_ c31; have H' := Aside0.mk H; clear H; obtain ⟨zc, zd, fc, fd⟩ := c2_ K0; go_wp2_with (first | ((with_reducible refine gate_callee (f := 129) rfl ?_); refine gl_ (some 36) rfl rfl Tryd.func129 (by kernel_rfl) rfl #[.agg #[.int .u64 a0_0, .int .u64 a0_1], .int .i64 x31_1] rfl ?_; (with_reducible refine (parts_wide_shr.calls a0_0 a0_1 x31_1 t1044 t1045 _ A30.out).mono ?_); rintro e w35 ⟨rfl, hb⟩; refine ⟨_, rfl, ?_⟩; replace K0 := bk_ K0 hb; replace HB := bs_ HB hb; (try clear hb))); go_roundg k1; case measure => have := HK1.out; omega
    case rel => exact ⟨(wrap64 (x31_1 + 1)), rf_, H', ⟨by have := HK1.out; omega⟩, ⟨by refine bz_ ?_; exact K0.out⟩, ⟨bw_ HB⟩⟩
   rw [if_neg c29] at H; have c29b0 := decide_eq_false c29; clear c29; simp only [Option.some.injEq, Prod.mk.injEq] at H; obtain ⟨rfl, rfl, rfl⟩ := H; go_wp2; go_ret3; exact ⟨er_, bw_ HB⟩
def parts_up.f (a0 : Bool) (a1 : Int) (a2 : Bool) (a3 : Bool) (a4 : Int) : Option (Bool) := if a4 = 1 then (some a2) else (if a4 = 2 then (some false) else (if a4 = 3 then (if a0 = true then (some false) else (if a2 = true then (some true) else (some a3))) else (if a4 = 4 then (if a0 = true then (if a2 = true then (some true) else (some a3)) else (some false)) else (if a2 = true then (if a3 = true then (some true) else (some ((Go.bits .and .u64 a1 1) == 1))) else (some false)))))
set_option maxHeartbeats 8000000 in
set_option maxRecDepth 100000 in
theorem parts_up.calls (a0 : Bool) (a1 : Int) (a2 : Bool) (a3 : Bool) (a4 : Int) (r : Bool) (w : World) (h : parts_up.f a0 a1 a2 a3 a4 = some r) :
  Calls Tryd.prog 120 #[.bool a0, .int .u64 a1, .bool a2, .bool a3, .int .i64 a4] w fun e w' => e = .returned (.bool r) ∧ Drawn0 w w' := by
 have H := h; rw [parts_up.f] at H; clear h; by_cases c6 : a4 = 1
 ·
  rw [if_pos c6] at H; obtain ⟨c6b0, c6b1⟩ := q1_ c6; clear c6; obtain rfl := Option.some.inj H; go_enter Tryd.func120, Tryd.ntmps120; go_wp2; go_ret; exact ⟨rf_, dr_⟩
 rw [if_neg c6] at H; obtain ⟨c6b0, c6b1⟩ := q0_ c6; by_cases c7 : a4 = 2
 ·
  rw [if_pos c7] at H; obtain ⟨c7b0, c7b1⟩ := q1_ c7; clear c7; obtain rfl := Option.some.inj H; go_enter Tryd.func120, Tryd.ntmps120; go_wp2; go_ret; exact ⟨rf_, dr_⟩
 rw [if_neg c7] at H; obtain ⟨c7b0, c7b1⟩ := q0_ c7; by_cases c8 : a4 = 3
 ·
  rw [if_pos c8] at H; obtain ⟨c8b0, c8b1⟩ := q1_ c8; clear c8; by_cases c9 : a0 = true
  ·
   subst c9; rw [if_pos rfl] at H; obtain rfl := Option.some.inj H; go_enter Tryd.func120, Tryd.ntmps120; go_wp2; go_ret; exact ⟨rf_, dr_⟩
  replace c9 := Bool.eq_false_iff.mpr c9; subst c9; rw [if_neg nt_] at H; by_cases c10 : a2 = true
  ·
   subst c10; rw [if_pos rfl] at H; obtain rfl := Option.some.inj H; go_enter Tryd.func120, Tryd.ntmps120; go_wp2; go_ret; exact ⟨rf_, dr_⟩
  replace c10 := Bool.eq_false_iff.mpr c10; subst c10; rw [if_neg nt_] at H; obtain rfl := Option.some.inj H; go_enter Tryd.func120, Tryd.ntmps120; go_wp2; go_ret; exact ⟨rf_, dr_⟩
 rw [if_neg c8] at H; obtain ⟨c8b0, c8b1⟩ := q0_ c8; by_cases c11 : a4 = 4
 ·
  rw [if_pos c11] at H; obtain ⟨c11b0, c11b1⟩ := q1_ c11; clear c11; by_cases c12 : a0 = true
  ·
   subst c12; rw [if_pos rfl] at H; by_cases c13 : a2 = true
   ·
    subst c13; rw [if_pos rfl] at H; obtain rfl := Option.some.inj H; go_enter Tryd.func120, Tryd.ntmps120; go_wp2; go_ret; exact ⟨rf_, dr_⟩
   replace c13 := Bool.eq_false_iff.mpr c13; subst c13; rw [if_neg nt_] at H; obtain rfl := Option.some.inj H; go_enter Tryd.func120, Tryd.ntmps120; go_wp2; go_ret; exact ⟨rf_, dr_⟩
  replace c12 := Bool.eq_false_iff.mpr c12; subst c12; rw [if_neg nt_] at H; obtain rfl := Option.some.inj H; go_enter Tryd.func120, Tryd.ntmps120; go_wp2; go_ret; exact ⟨rf_, dr_⟩
 rw [if_neg c11] at H; obtain ⟨c11b0, c11b1⟩ := q0_ c11; by_cases c14 : a2 = true
 ·
  subst c14; rw [if_pos rfl] at H; by_cases c15 : a3 = true
  ·
   subst c15; rw [if_pos rfl] at H; obtain rfl := Option.some.inj H; go_enter Tryd.func120, Tryd.ntmps120; go_wp2; go_ret; exact ⟨rf_, dr_⟩
  replace c15 := Bool.eq_false_iff.mpr c15; subst c15; rw [if_neg nt_] at H; obtain rfl := Option.some.inj H; go_enter Tryd.func120, Tryd.ntmps120; go_wp2; go_ret; exact ⟨rf_, dr_⟩
 replace c14 := Bool.eq_false_iff.mpr c14; subst c14; rw [if_neg nt_] at H; obtain rfl := Option.some.inj H; go_enter Tryd.func120, Tryd.ntmps120; go_wp2; go_ret; exact ⟨rf_, dr_⟩
def parts_greatest.f (a0 : Bool) : Option (Int) := (parts_Inf.f a0).bind fun t1046 => (some (IntKind.u64.wrap (t1046 - 1)))
set_option maxHeartbeats 8000000 in
set_option maxRecDepth 100000 in
theorem parts_greatest.calls (a0 : Bool) (r : Int) (w : World) (h : parts_greatest.f a0 = some r) :
  Calls Tryd.prog 130 #[.bool a0] w fun e w' => e = .returned (.int .u64 r) ∧ Drawn0 w w' := by
 have H := h; rw [parts_greatest.f] at H; clear h; replace H := bo_ H; obtain ⟨t1046, A2, H⟩ := H; replace H : (some (IntKind.u64.wrap (t1046 - 1))) = some r := H; obtain rfl := Option.some.inj H; go_enter Tryd.func130, Tryd.ntmps130; go_wp2_with (first | ((with_reducible refine gate_callee (f := 113) rfl ?_); refine gl_ (some 4) rfl rfl Tryd.func113 (by kernel_rfl) rfl #[.bool a0] rfl ?_; (with_reducible refine (parts_Inf.calls a0 t1046 _ A2.out).mono ?_); rintro e w' ⟨rfl, ⟨nd, rfl⟩⟩; refine ⟨_, rfl, ?_⟩)); go_ret; exact ⟨rf_, dr_⟩
end Go.Proofs.YtjgdpjbkmcjbcaaDoor.PG
