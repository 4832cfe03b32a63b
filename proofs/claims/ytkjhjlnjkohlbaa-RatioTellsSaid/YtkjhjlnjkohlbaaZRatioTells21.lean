/- Parts of a proof. -/
import Derived.Test.YtkjhjlnjkohlbaaZRatioTells14
import Derived.Test.YtkjhjlnjkohlbaaZRatioTells17
import Derived.Test.YtkjhjlnjkohlbaaZRatioTells19
import Derived.Test.YtkjhjlnjkohlbaaZRatioTells20
section
namespace Go.Proofs.Ytkjhjlnjkohlbaa.PR
open Go.RowKit Go.Proofs.YtkjhjlnjkohlbaaW.PrintWords Go.Proofs.YtkjhjlnjkohlbaaW.PrintLast Go.Proofs.YtkjhjlnjkohlbaaW.PrintMore
attribute [local go_sem] max2_int min2_int max_two min_two max_three min_three max_four min_four
set_option linter.unusedVariables false
set_option linter.unusedSimpArgs false
attribute [local go_sem] fld26_0 fld26_1
def nat_Norm.l0 : Nat → List Int → Int → Option (List Int)
 | 0, _, _ => none
 | k + 1, x0, x3 => if x3 > 0 then (if 0 ≤ (wrap64 (x3 - 1)) then (if (wrap64 (x3 - 1)) < (x0.length : Int) then (if (rd x0 (wrap64 (x3 - 1))) = 0 then (nat_Norm.l0 k x0 (wrap64 (x3 - 1))) else (if 0 ≤ x3 then (if x3 ≤ (x0.length : Int) then ((slices_Clone_uint64_uint64.f (x0.take (x3 : Int).toNat)).bind fun t109 => (some t109)) else (none)) else (none))) else (none)) else (none)) else (if 0 ≤ x3 then (if x3 ≤ (x0.length : Int) then ((slices_Clone_uint64_uint64.f (x0.take (x3 : Int).toNat)).bind fun t113 => (some t113)) else (none)) else (none))
def nat_Norm.f (k : Nat) (l0 : List Int) : Option (List Int) := nat_Norm.l0 k l0 (l0.length : Int)
set_option maxHeartbeats 8000000 in
set_option maxRecDepth 100000 in
theorem nat_Norm.calls (k : Nat) (A0 : Option Addr) (c0 : Nat) (l0 : List Int) (r : List Int) (w : World) (hr0 : Kd.C (Kd.int .u64) w A0 l0.length l0) (hc0 : l0.length ≤ c0) (h : nat_Norm.f k l0 = some r) :
  Calls Try.prog 33 #[.slice A0 l0.length c0] w fun e w' => ∃ v0_ : Value, e = .returned (v0_) ∧ Kd.R (Kd.int .u64) 35 w' w.heap.size (fun _ => True) v0_ r ∧ Below w.heap.size w w' := by
 have R0 := Aside0.mk hr0; have C0 := Aside0.mk hc0; clear hr0 hc0; have HB := Aside0.mk (Below.refl w.heap.size w); have H : (nat_Norm.l0 k l0 (l0.length : Int)) = some r := h; clear h; have H' := Aside0.mk H; clear H; go_enter Try.func33, Try.ntmps33; go_wp2; go_loopg [3] k (fun kq v3 w' => ∃ (x3_1 : Int), v3 = .int .i64 x3_1 ∧ Aside0 (nat_Norm.l0 kq l0 x3_1 = some r) ∧ Aside0 (kq ≤ k) ∧ Aside0 (Below w.heap.size w w')); case atStart => exact ⟨((l0.length : Int)), rf_, H', ⟨Nat.le_refl _⟩, ⟨bw_ HB⟩⟩
 case round =>
  clear H'; obtain ⟨x3_1, rfl, HA, HK1, HB⟩ := hrel; cases gk with
  | zero => exact absurd HA.out (by simp [nat_Norm.l0])
  | succ k1 =>
   have H := HA.out; clear HA; simp only [nat_Norm.l0] at H; by_cases c2 : x3_1 > 0
   ·
    rw [if_pos c2] at H; have c2b0 : decide (0 < x3_1) = true := decide_eq_true c2; clear c2; obtain ⟨ji3, j0⟩ : ∃ j_ : Int, (wrap64 (x3_1 - 1)) = j_ := ⟨_, rfl⟩; (replace H : (if 0 ≤ (ji3) then (if (ji3) < (l0.length : Int) then (if (rd l0 (ji3)) = 0 then (nat_Norm.l0 k1 l0 ji3) else (if 0 ≤ x3_1 then (if x3_1 ≤ (l0.length : Int) then ((slices_Clone_uint64_uint64.f (l0.take (x3_1 : Int).toNat)).bind fun t109 => (some t109)) else (none)) else (none))) else (none)) else (none)) = some r := by first | (rw [j0] at H; exact H) | (simp only [j0] at H ⊢; exact H)); have hji3w : (IntKind.i64.wrap (x3_1 - 1)) = ji3 := (i64_w _).trans j0; by_cases c4 : 0 ≤ (ji3)
    ·
     rw [if_pos c4] at H; have c4b0 := decide_eq_true c4; clear c4; by_cases c5 : (ji3) < (l0.length : Int)
     ·
      rw [if_pos c5] at H; have c5b0 := decide_eq_true c5; clear c5; by_cases c6 : (rd l0 (ji3)) = 0
      ·
       rw [if_pos c6] at H; obtain ⟨c6b0, c6b1⟩ := q1_ c6; clear c6; have H' := Aside0.mk H; clear H; have p107 : 0 ≤ ((ji3) : Int) := od_; have q107 : (ji3) < (l0.length : Int) := od_; obtain ⟨ad107, e107, hx107_0⟩ := Kd.at_int R0.out (ji3) p107 q107; cases e107
       replace hx107_0 := (HB.out.cell (World.block_lt_of_cell? w _ hx107_0)).trans hx107_0; replace p107 := eq_true p107; replace q107 := eq_true q107; go_wp2; go_roundg k1; case measure => have := HK1.out; omega
       case rel => exact ⟨(ji3), (by first | rfl | (simp; done) | (simp only [← j0] <;> (first | rfl | simp)) | (simp [*]; done)), H', ⟨by have := HK1.out; omega⟩, ⟨bw_ HB⟩⟩
      rw [if_neg c6] at H; obtain ⟨c6b0, c6b1⟩ := q0_ c6; by_cases c7 : 0 ≤ x3_1
      ·
       rw [if_pos c7] at H; have c7b0 := eq_true c7; have c7b1 := decide_eq_true c7; clear c7; by_cases c8 : x3_1 ≤ (l0.length : Int)
       ·
        rw [if_pos c8] at H; have c8b0 := eq_true c8; have c8b1 := decide_eq_true c8; clear c8; replace H := bo_ H; obtain ⟨t109, A9, H⟩ := H; replace H : (some t109) = some r := H; obtain rfl := Option.some.inj H; have p107 : 0 ≤ ((ji3) : Int) := od_; have q107 : (ji3) < (l0.length : Int) := od_; obtain ⟨ad107, e107, hx107_0⟩ := Kd.at_int R0.out (ji3) p107 q107; cases e107
        replace hx107_0 := (HB.out.cell (World.block_lt_of_cell? w _ hx107_0)).trans hx107_0; replace p107 := eq_true p107; replace q107 := eq_true q107; obtain ⟨i010, hi010, _, hsz10, _⟩ := info_parts info35; obtain ⟨hcut10, hA10, hC10⟩ := print_take_of (P := Try.prog) (Value.int .u64) 0 22 35 .i64 Try.underlying22 hi010 hsz10 (some ad107) c0 l0 x3_1 (od_) (od_) C0.out; have R1 := Aside0.mk (Kd.C_of_reads (h1 := fun _ => rfl) (hA10 _ (Kd.reads_of_C R0.out))); have C1 := Aside0.mk hC10; clear hA10 hC10 hi010 hsz10; go_wp2_with (first | ((with_reducible refine gate_callee (f := 46) rfl ?_); refine goesL_ (some 21) rfl rfl Try.func46 (by kernel_rfl) rfl #[.slice (some ad107) (l0.take (x3_1 : Int).toNat).length c0] rfl (by (try simp only [List.map_toArray, List.map_cons, List.map_nil]); first | done | (rw [show (l0.take (x3_1 : Int).toNat).length = x3_1.toNat from (by rw [List.length_take]; have h_ : (x3_1 : Int) ≤ (l0.length : Int) := od_; omega)] <;> rfl) | rfl | (simp only [List.length_drop, List.length_take]; rfl)) ?_; (with_reducible refine (slices_Clone_uint64_uint64.calls _ _ (l0.take (x3_1 : Int).toNat) t109 _ ?side1 ?side2 A9.out).mono ?_); (case side1 => exact cl_ (Kd.C_below R1.out HB.out)); (case side2 => exact C1.out); rintro e w11 ⟨v110, rfl, ho0, hb⟩; refine ⟨_, rfl, ?_⟩; have O0 := Aside0.mk (Kd.R_lower ho0 (below_size (bw_ HB))); replace HB := bs_ HB hb; (try clear hb ho0))); go_ret; exact ⟨_, by first | exact er0_ | (simp only [← j0]; exact er0_) | exact er_, rl_ O0, bw_ HB⟩
       rw [if_neg c8] at H; exact absurd H (by simp)
      rw [if_neg c7] at H; exact absurd H (by simp)
     rw [if_neg c5] at H; exact absurd H (by simp)
    rw [if_neg c4] at H; exact absurd H (by simp)
   rw [if_neg c2] at H; have c2b0 : decide (0 < x3_1) = false := decide_eq_false c2; clear c2; by_cases c12 : 0 ≤ x3_1
   ·
    rw [if_pos c12] at H; have c12b0 := eq_true c12; have c12b1 := decide_eq_true c12; clear c12; by_cases c13 : x3_1 ≤ (l0.length : Int)
    ·
     rw [if_pos c13] at H; have c13b0 := eq_true c13; have c13b1 := decide_eq_true c13; clear c13; replace H := bo_ H; obtain ⟨t113, A14, H⟩ := H; replace H : (some t113) = some r := H; obtain rfl := Option.some.inj H; obtain ⟨i015, hi015, _, hsz15, _⟩ := info_parts info35; obtain ⟨hcut15, hA15, hC15⟩ := print_take_of (P := Try.prog) (Value.int .u64) 0 22 35 .i64 Try.underlying22 hi015 hsz15 A0 c0 l0 x3_1 (od_) (od_) C0.out; have R2 := Aside0.mk (Kd.C_of_reads (h1 := fun _ => rfl) (hA15 _ (Kd.reads_of_C R0.out))); have C2 := Aside0.mk hC15; clear hA15 hC15 hi015 hsz15; go_wp2_with (first | ((with_reducible refine gate_callee (f := 46) rfl ?_); refine goesL_ (some 21) rfl rfl Try.func46 (by kernel_rfl) rfl #[.slice A0 (l0.take (x3_1 : Int).toNat).length c0] rfl (by (try simp only [List.map_toArray, List.map_cons, List.map_nil]); first | done | (rw [show (l0.take (x3_1 : Int).toNat).length = x3_1.toNat from (by rw [List.length_take]; have h_ : (x3_1 : Int) ≤ (l0.length : Int) := od_; omega)] <;> rfl) | rfl | (simp only [List.length_drop, List.length_take]; rfl)) ?_; (with_reducible refine (slices_Clone_uint64_uint64.calls _ _ (l0.take (x3_1 : Int).toNat) t113 _ ?side1 ?side2 A14.out).mono ?_); (case side1 => exact cl_ (Kd.C_below R2.out HB.out)); (case side2 => exact C2.out); rintro e w16 ⟨v114, rfl, ho0, hb⟩; refine ⟨_, rfl, ?_⟩; have O1 := Aside0.mk (Kd.R_lower ho0 (below_size (bw_ HB))); replace HB := bs_ HB hb; (try clear hb ho0))); go_ret; exact ⟨_, er_, rl_ O1, bw_ HB⟩
    rw [if_neg c13] at H; exact absurd H (by simp)
   rw [if_neg c12] at H; exact absurd H (by simp)
def natdiv_shl.l0 : Nat → List Int → Int → Int → List Int → Int → Int → Option (List Int)
 | 0, _, _, _, _, _, _ => none
 | k + 1, x5, x6, x7, x22, x23, x24 => if x24 < x23 then (if 0 ≤ x24 then (if x24 < (x22.length : Int) then (if 0 ≤ x6 then (if x5.length < 17592186044416 then (if 0 ≤ (IntKind.u64.wrap (63 - x6)) then (natdiv_shl.l0 k (x5 ++ [Go.bits .or .u64 (shl .u64 (rd x22 x24) x6) x7]) x6 (shr .u64 ((rd x22 x24) / 2) (IntKind.u64.wrap (63 - x6))) x22 x23 (wrap64 (x24 + 1))) else (none)) else (none)) else (none)) else (none)) else (none)) else (if x5.length < 17592186044416 then ((nat_Norm.f k (x5 ++ [x7])).bind fun t126 => (some t126)) else (none))
def natdiv_shl.f (k : Nat) (l0 : List Int) (a1 : Int) : Option (List Int) := if 0 ≤ (wrap64 (Int.tdiv a1 64)) then (if (wrap64 (Int.tdiv a1 64)) ≤ (wrap64 ((wrap64 ((wrap64 (Int.tdiv a1 64)) + (l0.length : Int))) + 1)) then (if (wrap64 ((wrap64 ((wrap64 (Int.tdiv a1 64)) + (l0.length : Int))) + 1) : Int).toNat ≤ 35184372088832 then (natdiv_shl.l0 k (List.replicate (wrap64 (Int.tdiv a1 64) : Int).toNat 0) (IntKind.u64.wrap (Int.tmod a1 64)) 0 l0 (l0.length : Int) 0) else (none)) else (none)) else (none)
set_option maxHeartbeats 8000000 in
set_option maxRecDepth 100000 in
theorem natdiv_shl.calls (k : Nat) (A0 : Option Addr) (c0 : Nat) (l0 : List Int) (a1 : Int) (r : List Int) (w : World) (hr0 : Kd.C (Kd.int .u64) w A0 l0.length l0) (hc0 : l0.length ≤ c0) (h : natdiv_shl.f k l0 a1 = some r) :
  Calls Try.prog 30 #[.slice A0 l0.length c0, .int .i64 a1] w fun e w' => ∃ v0_ : Value, e = .returned (v0_) ∧ Kd.R (Kd.int .u64) 35 w' w.heap.size (fun _ => True) v0_ r ∧ Below w.heap.size w w' := by
 have R0 := Aside0.mk hr0; have C0 := Aside0.mk hc0; clear hr0 hc0; have HB := Aside0.mk (Below.refl w.heap.size w); have H := h; rw [natdiv_shl.f] at H; clear h; obtain ⟨ji3, j1⟩ : ∃ j_ : Int, (wrap64 (Int.tdiv a1 64)) = j_ := ⟨_, rfl⟩; (replace H : (if 0 ≤ (ji3) then (if (ji3) ≤ (wrap64 ((wrap64 ((ji3) + (l0.length : Int))) + 1)) then (if (wrap64 ((wrap64 ((ji3) + (l0.length : Int))) + 1) : Int).toNat ≤ 35184372088832 then (natdiv_shl.l0 k (List.replicate (ji3 : Int).toNat 0) (IntKind.u64.wrap (Int.tmod a1 64)) 0 l0 (l0.length : Int) 0) else (none)) else (none)) else (none)) = some r := by first | (rw [j1] at H; exact H) | (simp only [j1] at H ⊢; exact H)); have hji3w : (IntKind.i64.wrap (Int.tdiv a1 64)) = ji3 := (i64_w _).trans j1; by_cases c4 : 0 ≤ (ji3)
 ·
  rw [if_pos c4] at H; have c4b0 := eq_true c4; have c4b1 := decide_eq_true c4; clear c4; by_cases c5 : (ji3) ≤ (wrap64 ((wrap64 ((ji3) + (l0.length : Int))) + 1))
  ·
   rw [if_pos c5] at H; have c5b0 := eq_true c5; have c5b1 := decide_eq_true c5; by_cases c6 : (wrap64 ((wrap64 ((ji3) + (l0.length : Int))) + 1) : Int).toNat ≤ 35184372088832
   ·
    rw [if_pos c6] at H; have c6b0 := eq_true c6; have c6b1 := decide_eq_true c6; obtain ⟨y116, hy116⟩ : ∃ y_ : List Int, y_ = (List.replicate (ji3 : Int).toNat 0) := ⟨_, rfl⟩; (replace H : (natdiv_shl.l0 k y116 (IntKind.u64.wrap (Int.tmod a1 64)) 0 l0 (l0.length : Int) 0) = some r := by first | (rw [hy116]; with_reducible exact H) | (have H2_ := (Option.bind_some _ _).symm.trans H; rw [hy116]; with_reducible exact H2_) | (have H2_ := (Option.bind_some _ _).symm.trans H; with_reducible exact H2_) | with_reducible exact H | (rw [hy116]; exact H) | exact H); have Ny116 := Aside0.mk hy116; clear hy116; have H' := Aside0.mk H; clear H; go_enter Try.func30, Try.ntmps30; go_wp2_with (first | ((with_reducible refine gate_dst (N := 18) rfl ?_); refine support_MakeCap.calls _ 35 rfl (N := 18) rfl 22 _ _ rfl ji3 (wrap64 ((wrap64 ((ji3) + (l0.length : Int))) + 1)) rfl rfl Try.underlying22 .u64 info35 (od_) (od_) (od_) (Below.refl _ _) (Nat.le_refl _) ?_; intro v117 w7 ho8 hb hg_ hnew_; clear hg_ hnew_; (first | rw [← Ny116.out] at ho8 | (simp only [Int.reduceToNat] at ho8; rw [← Ny116.out] at ho8)); have O1 := Aside0.mk (Kd.R_lower ho8 (below_size (bw_ HB))); replace HB := bs_ HB hb; clear hb ho8)); go_loopg [5, 7, 24] k (fun kq v5 v7 v24 w' => ∃ (x5_1 : List Int) (x7_1 : Int) (x24_1 : Int), v7 = .int .u64 x7_1 ∧ v24 = .int .i64 x24_1 ∧ Aside0 (natdiv_shl.l0 kq x5_1 (IntKind.u64.wrap (Int.tmod a1 64)) x7_1 l0 (l0.length : Int) x24_1 = some r) ∧ Aside0 (kq ≤ k) ∧ Aside0 (Kd.R (Kd.int .u64) 35 w' w.heap.size (fun _ => True) v5 x5_1) ∧ Aside0 (Below w.heap.size w w')); case atStart => exact ⟨(y116), (0), (0), rf_, rf_, H', ⟨Nat.le_refl _⟩, ⟨rl_ O1⟩, ⟨bw_ HB⟩⟩
    case round =>
     clear H'; (try clear c4); (try clear c4b0); (try clear c4b1); (try clear c5); (try clear c5b0); (try clear c5b1); (try clear c6); (try clear c6b0); (try clear c6b1); obtain ⟨x5_1, x7_1, x24_1, rfl, rfl, HA, HK1, Q0, HB⟩ := hrel; cases gk with
     | zero => exact absurd HA.out (by simp [natdiv_shl.l0])
     | succ k1 =>
      have H := HA.out; clear HA; simp only [natdiv_shl.l0] at H; by_cases c9 : x24_1 < (l0.length : Int)
      ·
       rw [if_pos c9] at H; have c9b0 := decide_eq_true c9; clear c9; by_cases c10 : 0 ≤ x24_1
       ·
        rw [if_pos c10] at H; have c10b0 := decide_eq_true c10; clear c10; by_cases c11 : x24_1 < (l0.length : Int)
        ·
         rw [if_pos c11] at H; have c11b0 := decide_eq_true c11; clear c11; obtain ⟨ji12, j2⟩ : ∃ j_ : Int, (IntKind.u64.wrap (Int.tmod a1 64)) = j_ := ⟨_, rfl⟩; (replace H : (if 0 ≤ (ji12) then (if x5_1.length < 17592186044416 then (if 0 ≤ (IntKind.u64.wrap (63 - (ji12))) then (natdiv_shl.l0 k1 (x5_1 ++ [Go.bits .or .u64 (shl .u64 (rd l0 x24_1) (ji12)) x7_1]) (ji12) (shr .u64 ((rd l0 x24_1) / 2) (IntKind.u64.wrap (63 - (ji12)))) l0 (l0.length : Int) (wrap64 (x24_1 + 1))) else (none)) else (none)) else (none)) = some r := by first | (rw [j2] at H; exact H) | (simp only [j2] at H ⊢; exact H)); by_cases c13 : 0 ≤ (ji12)
         ·
          rw [if_pos c13] at H; have c13b0 := eq_true c13; have c13b1 := decide_eq_true c13; clear c13; obtain ⟨ji14, j3⟩ : ∃ j_ : Int, (shl .u64 (rd l0 x24_1) (ji12)) = j_ := ⟨_, rfl⟩; (replace H : (if x5_1.length < 17592186044416 then (if 0 ≤ (IntKind.u64.wrap (63 - (ji12))) then (natdiv_shl.l0 k1 (x5_1 ++ [Go.bits .or .u64 (ji14) x7_1]) (ji12) (shr .u64 ((rd l0 x24_1) / 2) (IntKind.u64.wrap (63 - (ji12)))) l0 (l0.length : Int) (wrap64 (x24_1 + 1))) else (none)) else (none)) = some r := by first | (rw [j3] at H; exact H) | (simp only [j3] at H ⊢; exact H)); have hji14_ : (IntKind.u64.wrap ((rd l0 x24_1) * 2 ^ min (ji12).toNat 64)) = ji14 := j3; have hji14z : (ji12) ≤ 64 → (IntKind.u64.wrap ((rd l0 x24_1) * 2 ^ (ji12).toNat)) = ji14 := shl_small j3; by_cases c15 : x5_1.length < 17592186044416
          ·
           rw [if_pos c15] at H; have LMc15 := Aside0.mk c15; clear c15; obtain ⟨y120, hy120⟩ : ∃ y_ : List Int, y_ = (x5_1 ++ [Go.bits .or .u64 (ji14) x7_1]) := ⟨_, rfl⟩; (replace H : (if 0 ≤ (IntKind.u64.wrap (63 - (ji12))) then (natdiv_shl.l0 k1 y120 (ji12) (shr .u64 ((rd l0 x24_1) / 2) (IntKind.u64.wrap (63 - (ji12)))) l0 (l0.length : Int) (wrap64 (x24_1 + 1))) else (none)) = some r := by first | (rw [hy120]; with_reducible exact H) | (have H2_ := (Option.bind_some _ _).symm.trans H; rw [hy120]; with_reducible exact H2_) | (have H2_ := (Option.bind_some _ _).symm.trans H; with_reducible exact H2_) | with_reducible exact H | (rw [hy120]; exact H) | exact H); have Ny120 := Aside0.mk hy120; clear hy120; obtain ⟨ji16, j4⟩ : ∃ j_ : Int, (IntKind.u64.wrap (63 - (ji12))) = j_ := ⟨_, rfl⟩; (replace H : (if 0 ≤ (ji16) then (natdiv_shl.l0 k1 y120 (ji12) (shr .u64 ((rd l0 x24_1) / 2) (ji16)) l0 (l0.length : Int) (wrap64 (x24_1 + 1))) else (none)) = some r := by first | (rw [j4] at H; exact H) | (simp only [j4] at H ⊢; exact H)); by_cases c17 : 0 ≤ (ji16)
           ·
            rw [if_pos c17] at H; have c17b0 := eq_true c17; have c17b1 := decide_eq_true c17; clear c17; obtain ⟨ji18, j0⟩ : ∃ j_ : Int, (shr .u64 ((rd l0 x24_1) / 2) (ji16)) = j_ := ⟨_, rfl⟩; (replace H : (natdiv_shl.l0 k1 y120 (ji12) ji18 l0 (l0.length : Int) (wrap64 (x24_1 + 1))) = some r := by first | (rw [j0] at H; exact H) | (simp only [j0] at H ⊢; exact H)); have hji18_ : (((rd l0 x24_1) / 2) / 2 ^ min (ji16).toNat 64) = ji18 := j0; have hji18z : (ji16) ≤ 64 → (((rd l0 x24_1) / 2) / 2 ^ (ji16).toNat) = ji18 := shr_small j0; have H' := Aside0.mk H; clear H; have p119 : 0 ≤ (x24_1 : Int) := od_; have q119 : x24_1 < (l0.length : Int) := od_; obtain ⟨ad119, e119, hx119_0⟩ := Kd.at_int R0.out x24_1 p119 q119; cases e119
            replace hx119_0 := (HB.out.cell (World.block_lt_of_cell? w _ hx119_0)).trans hx119_0; replace p119 := eq_true p119; replace q119 := eq_true q119; go_wp2_with (first | ((with_reducible refine gate_builtin (b := .append) (xs := #[.tmp 28, .tmp 34]) rfl ?_); at_builtin; refine Kd.R_append (Kd.int .u64) (w0 := w) w.heap.size rfl (.tmp 28) (.tmp 34) 22 35 (.int .u64 0) 8 rfl Try.underlying22 info35 rfl (by decide) (by omega) u5 x5_1 (Go.bits .or .u64 (ji14) x7_1) [.int .u64 (Go.bits .or .u64 (ji14) x7_1)] (fun _ => True) (fun _ => False) rfl rfl ?aP (fun _ hk => hk.elim) ?aF ?aO ?aB ?aS ?aL ?_; (case aP => exact rfl); (case aB => exact (bw_ HB)); (case aF => exact (fun _ _ => trivial)); (case aO => exact (rl_ Q0)); (case aS => exact (below_size (bw_ HB))); (case aL => have := LMc15.out; omega); intro v121 w19 ho hb hg hat; rw [← Ny120.out] at ho; replace HB := Aside0.mk (hb); have O2 := Aside0.mk (ho); clear Q0; clear ho hb hg hat)); (try rw [← j2] at H'); (try rw [← j2]); go_roundg k1; case measure => have := HK1.out; omega
            case rel => exact ⟨(y120), (ji18), (wrap64 (x24_1 + 1)), (by first | rfl | (simp; done) | (simp only [← j0] <;> (first | rfl | simp)) | (simp [*]; done)), rf_, H', ⟨by have := HK1.out; omega⟩, ⟨rl_ O2⟩, ⟨bw_ HB⟩⟩
           rw [if_neg c17] at H; exact absurd H (by simp)
          rw [if_neg c15] at H; exact absurd H (by simp)
         rw [if_neg c13] at H; exact absurd H (by simp)
        rw [if_neg c11] at H; exact absurd H (by simp)
       rw [if_neg c10] at H; exact absurd H (by simp)
      rw [if_neg c9] at H; have c9b0 := decide_eq_false c9; clear c9; by_cases c20 : x5_1.length < 17592186044416
      ·
       rw [if_pos c20] at H; have LMc20 := Aside0.mk c20; clear c20; obtain ⟨y123, hy123⟩ : ∃ y_ : List Int, y_ = (x5_1 ++ [x7_1]) := ⟨_, rfl⟩; (replace H : ((nat_Norm.f k1 y123).bind fun t126 => (some t126)) = some r := by first | (rw [hy123]; with_reducible exact H) | (have H2_ := (Option.bind_some _ _).symm.trans H; rw [hy123]; with_reducible exact H2_) | (have H2_ := (Option.bind_some _ _).symm.trans H; with_reducible exact H2_) | with_reducible exact H | (rw [hy123]; exact H) | exact H); have Ny123 := Aside0.mk hy123; clear hy123; replace H := bo_ H; obtain ⟨t126, A21, H⟩ := H; replace H : (some t126) = some r := H; obtain rfl := Option.some.inj H; go_wp2_with (first | ((with_reducible refine gate_builtin (b := .append) (xs := #[.tmp 42, .tmp 44]) rfl ?_); at_builtin; refine Kd.R_append (Kd.int .u64) (w0 := w) w.heap.size rfl (.tmp 42) (.tmp 44) 22 35 (.int .u64 0) 8 rfl Try.underlying22 info35 rfl (by decide) (by omega) u5 x5_1 x7_1 [.int .u64 x7_1] (fun _ => True) (fun _ => False) rfl rfl ?aP (fun _ hk => hk.elim) ?aF ?aO ?aB ?aS ?aL ?_; (case aP => exact rfl); (case aB => exact (bw_ HB)); (case aF => exact (fun _ _ => trivial)); (case aO => exact (rl_ Q0)); (case aS => exact (below_size (bw_ HB))); (case aL => have := LMc20.out; omega); intro v124 w22 ho hb hg hat; rw [← Ny123.out] at ho; replace HB := Aside0.mk (hb); have O0 := Aside0.mk (ho); clear Q0; clear ho hb hg hat; obtain ⟨a0, c1, e0⟩ := Kd.R_slice O0.out; subst e0) | ((with_reducible refine gate_callee (f := 33) rfl ?_); refine gl_ (some 46) rfl rfl Try.func33 (by kernel_rfl) rfl #[.slice a0 y123.length c1] rfl ?_; (with_reducible refine (nat_Norm.calls k1 _ _ y123 t126 _ ?side1 ?side2 A21.out).mono ?_); (case side1 => repeat (first | exact (Kd.R_reads' O0.out).2.2 | (with_reducible refine Kd.C_alloc ?_ _) | (with_reducible refine Kd.C_drewN ?_ _) | (with_reducible refine Kd.C_drew ?_))); (case side2 => exact (Kd.R_reads' O0.out).2.1); rintro e w24 ⟨v127, rfl, ho0, hb⟩; refine ⟨_, rfl, ?_⟩; have O3 := Aside0.mk (Kd.R_lower (Kd.R_new' ho0 (Kd.R_lt (rl_ O0))) (below_size (bw_ HB))); replace O0 := Aside0.mk (Kd.R_elder' (rl_ O0) (Kd.R_base ho0) hb); replace HB := bs_ HB hb; (try clear hb ho0))); go_ret; exact ⟨_, by first | exact er0_ | (simp only [← j1]; exact er0_) | exact er_, by refine rz_ ?_; exact Kd.R_mono O3.out (fun _ hk => trivial), bw_ HB⟩
      rw [if_neg c20] at H; exact absurd H (by simp)
   rw [if_neg c6] at H; exact absurd H (by simp)
  rw [if_neg c5] at H; exact absurd H (by simp)
 rw [if_neg c4] at H; exact absurd H (by simp)
def bits_LeadingZeros64.f (a0 : Int) : Option (Int) := (bits_Len64.f a0).bind fun t129 => (some (wrap64 (64 - t129)))
set_option maxHeartbeats 8000000 in
set_option maxRecDepth 100000 in
theorem bits_LeadingZeros64.calls (a0 : Int) (r : Int) (w : World) (h : bits_LeadingZeros64.f a0 = some r) :
  Calls Try.prog 53 #[.int .u64 a0] w fun e w' => e = .returned (.int .i64 r) ∧ Drawn0 w w' := by
 have H := h; rw [bits_LeadingZeros64.f] at H; clear h; replace H := bo_ H; obtain ⟨t129, A2, H⟩ := H; replace H : (some (wrap64 (64 - t129))) = some r := H; obtain rfl := Option.some.inj H; go_enter Try.func53, Try.ntmps53; go_wp2_with (first | ((with_reducible refine gate_callee (f := 36) rfl ?_); refine gl_ (some 4) rfl rfl Try.func36 (by kernel_rfl) rfl #[.int .u64 a0] rfl ?_; (with_reducible refine (bits_Len64.calls a0 t129 _ A2.out).mono ?_); rintro e w' ⟨rfl, ⟨nd, rfl⟩⟩; refine ⟨_, rfl, ?_⟩)); go_ret; exact ⟨rf_, dr_⟩
end Go.Proofs.Ytkjhjlnjkohlbaa.PR
end
section
namespace Go.Proofs.Ytkjhjlnjkohlbaa.PR
open Go.RowKit Go.Proofs.YtkjhjlnjkohlbaaW.PrintWords Go.Proofs.YtkjhjlnjkohlbaaW.PrintLast Go.Proofs.YtkjhjlnjkohlbaaW.PrintMore
attribute [local go_sem] max2_int min2_int max_two min_two max_three min_three max_four min_four
set_option linter.unusedVariables false
set_option linter.unusedSimpArgs false
attribute [local go_sem] fld26_0 fld26_1
def nat_at.f (l0 : List Int) (a1 : Int) : Option (Int) := if a1 < (l0.length : Int) then (if 0 ≤ a1 then (some (rd l0 a1)) else (none)) else (some 0)
set_option maxHeartbeats 8000000 in
set_option maxRecDepth 100000 in
theorem nat_at.calls (A0 : Option Addr) (c0 : Nat) (l0 : List Int) (a1 : Int) (r : Int) (w : World) (hr0 : Kd.C (Kd.int .u64) w A0 l0.length l0) (hc0 : l0.length ≤ c0) (h : nat_at.f l0 a1 = some r) :
  Calls Try.prog 49 #[.slice A0 l0.length c0, .int .i64 a1] w fun e w' => e = .returned (.int .u64 r) ∧ Drawn0 w w' := by
 have R0 := Aside0.mk hr0; have C0 := Aside0.mk hc0; clear hr0 hc0; have H := h; rw [nat_at.f] at H; clear h; by_cases c3 : a1 < (l0.length : Int)
 ·
  rw [if_pos c3] at H; have c3b0 := decide_eq_true c3; clear c3; by_cases c4 : 0 ≤ a1
  ·
   rw [if_pos c4] at H; have c4b0 := decide_eq_true c4; clear c4; obtain rfl := Option.some.inj H; have p130 : 0 ≤ (a1 : Int) := od_; have q130 : a1 < (l0.length : Int) := od_; obtain ⟨ad130, e130, hx130_0⟩ := Kd.at_int R0.out a1 p130 q130; cases e130
   replace p130 := eq_true p130; replace q130 := eq_true q130; go_enter Try.func49, Try.ntmps49; go_wp2; go_ret; exact ⟨rf_, dr_⟩
  rw [if_neg c4] at H; exact absurd H (by simp)
 rw [if_neg c3] at H; have c3b0 := decide_eq_false c3; clear c3; obtain rfl := Option.some.inj H; go_enter Try.func49, Try.ntmps49; go_wp2; go_ret; exact ⟨rf_, dr_⟩
end Go.Proofs.Ytkjhjlnjkohlbaa.PR
end
