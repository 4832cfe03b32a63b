/- A part of a proof. -/
import Derived.Test.YtjgdpjbkmcjbcaaDoorZFfmaTells30
namespace Go.Proofs.YtjgdpjbkmcjbcaaDoor.PG
open Go.RowKit Go.Proofs.YtjgdpjbkmcjbcaaDoorW.PrintWords Go.Proofs.YtjgdpjbkmcjbcaaDoorW.PrintLast Go.Proofs.YtjgdpjbkmcjbcaaDoorW.PrintMore
attribute [local go_sem] max2_int min2_int max_two min_two max_three min_three max_four min_four
set_option linter.unusedVariables false
set_option linter.unusedSimpArgs false
attribute [local go_sem] fld139_1
mutual
def vernierref01_Mul.l0 : Nat → List Int → List Int → List Int → Int → Option (List Int)
 | 0, _, _, _, _ => none
 | k + 1, x0, x1, x5, x6 => if x6 < (x0.length : Int) then (vernierref01_Mul.l1 k x0 x1 x5 x6 0 0) else ((vernierref01_cut.f k x5).bind fun t554 => (some t554))
def vernierref01_Mul.l1 : Nat → List Int → List Int → List Int → Int → Int → Int → Option (List Int)
 | 0, _, _, _, _, _, _ => none
 | k + 1, x0, x1, x5, x6, x7, x8 => if x8 < (x1.length : Int) then (vernierref01_Mul.j2 k x0 x1 x5 x6 x7 x8 true) else (vernierref01_Mul.j2 k x0 x1 x5 x6 x7 x8 (decide (x7 > 0)))
def vernierref01_Mul.j2 : Nat → List Int → List Int → List Int → Int → Int → Int → Bool → Option (List Int)
 | 0, _, _, _, _, _, _, _ => none
 | k + 1, x0, x1, x5, x6, x7, x8, x29 => if x29 = true then (if 0 ≤ (wrap64 (x6 + x8)) then (if (wrap64 (x6 + x8)) < (x5.length : Int) then (if x8 < (x1.length : Int) then (if 0 ≤ x6 then (if x6 < (x0.length : Int) then (if 0 ≤ x8 then (vernierref01_Mul.l1 k x0 x1 (x5.set ((wrap64 (x6 + x8)) : Int).toNat (Int.tmod (wrap64 ((wrap64 (x7 + (rd x5 (wrap64 (x6 + x8))))) + (wrap64 ((rd x0 x6) * (rd x1 x8))))) 65536)) x6 (wrap64 (Int.tdiv (wrap64 ((wrap64 (x7 + (rd x5 (wrap64 (x6 + x8))))) + (wrap64 ((rd x0 x6) * (rd x1 x8))))) 65536)) (wrap64 (x8 + 1))) else (none)) else (none)) else (none)) else (vernierref01_Mul.l1 k x0 x1 (x5.set ((wrap64 (x6 + x8)) : Int).toNat (Int.tmod (wrap64 (x7 + (rd x5 (wrap64 (x6 + x8))))) 65536)) x6 (wrap64 (Int.tdiv (wrap64 (x7 + (rd x5 (wrap64 (x6 + x8))))) 65536)) (wrap64 (x8 + 1)))) else (none)) else (none)) else (vernierref01_Mul.l0 k x0 x1 x5 (wrap64 (x6 + 1)))
end
def vernierref01_Mul.f (k : Nat) (l0 : List Int) (l1 : List Int) : Option (List Int) := if 0 ≤ (wrap64 ((wrap64 ((l0.length : Int) + (l1.length : Int))) + 1)) then (if (wrap64 ((wrap64 ((l0.length : Int) + (l1.length : Int))) + 1) : Int).toNat ≤ 35184372088832 then (vernierref01_Mul.l0 k l0 l1 (List.replicate (wrap64 ((wrap64 ((l0.length : Int) + (l1.length : Int))) + 1) : Int).toNat 0) 0) else (none)) else (none)
def vernierref01_Mul.T11 : Bool × List (List Nat × List Nat) := (true, [([], []), ([], []), ([], []), ([1, 2], [1, 2]), ([3], [3]), ([], []), ([], []), ([5, 6], [5, 6]), ([7], [7]), ([4, 8], [4, 8]), ([0, 9], [0, 9]), ([10, 0, 1, 2, 3, 4, 5, 6, 7, 8, 9, 10], [0, 10])])
def vernierref01_Mul.B11 : List Nat := [0, 0, 0, 6, 14, 0, 0, 96, 224, 510, 1023, 2047]
theorem vernierref01_Mul.tab11 : rtab .any (opsOf Tryd.f44 11) = vernierref01_Mul.T11 := by kernel_rfl
theorem vernierref01_Mul.bits11 : waitsOk vernierref01_Mul.T11.2 vernierref01_Mul.B11 = true := by kernel_rfl
set_option maxHeartbeats 8000000 in
set_option maxRecDepth 100000 in
theorem vernierref01_Mul.calls (k : Nat) (A0 : Option Addr) (c0 : Nat) (l0 : List Int) (A1 : Option Addr) (c1 : Nat) (l1 : List Int) (r : List Int) (w : World) (hr0 : Kd.C (Kd.int .i64) w A0 l0.length l0) (hc0 : l0.length ≤ c0) (hr1 : Kd.C (Kd.int .i64) w A1 l1.length l1) (hc1 : l1.length ≤ c1) (h : vernierref01_Mul.f k l0 l1 = some r) :
  Calls Tryd.prog 44 #[.slice A0 l0.length c0, .slice A1 l1.length c1] w fun e w' => ∃ v0_ : Value, e = .returned (v0_) ∧ Kd.R (Kd.int .i64) 3 w' w.heap.size (fun _ => True) v0_ r ∧ Below w.heap.size w w' := by
 have R0 := Aside0.mk hr0; have C1 := Aside0.mk hc0; clear hr0 hc0; have R1 := Aside0.mk hr1; have C2 := Aside0.mk hc1; clear hr1 hc1; have HB := Aside0.mk (Below.refl w.heap.size w); have H := h; rw [vernierref01_Mul.f] at H; clear h; obtain ⟨ji3, j1⟩ : ∃ j_ : Int, (wrap64 ((wrap64 ((l0.length : Int) + (l1.length : Int))) + 1)) = j_ := ⟨_, rfl⟩; replace H : (if 0 ≤ (ji3) then (if (ji3 : Int).toNat ≤ 35184372088832 then (vernierref01_Mul.l0 k l0 l1 (List.replicate (ji3 : Int).toNat 0) 0) else (none)) else (none)) = some r := by first | (rw [j1] at H; exact H) | (simp only [j1] at H ⊢; exact H)
 have hji3w : (IntKind.i64.wrap ((wrap64 ((l0.length : Int) + (l1.length : Int))) + 1)) = ji3 := (i64_w _).trans j1; by_cases c4 : 0 ≤ (ji3)
 ·
  rw [if_pos c4] at H; have c4b0 := eq_true c4; have c4b1 := decide_eq_true c4; clear c4; by_cases c5 : (ji3 : Int).toNat ≤ 35184372088832
  ·
   rw [if_pos c5] at H; have c5b0 := eq_true c5; have c5b1 := decide_eq_true c5; clear c5; obtain ⟨y551, hy551⟩ : ∃ y_ : List Int, y_ = (List.replicate (ji3 : Int).toNat 0) := ⟨_, rfl⟩; replace H : (vernierref01_Mul.l0 k l0 l1 y551 0) = some r := by first | (rw [hy551]; with_reducible exact H) | (have H2_ := (Option.bind_some _ _).symm.trans H; rw [hy551]; with_reducible exact H2_) | (have H2_ := (Option.bind_some _ _).symm.trans H; with_reducible exact H2_) | with_reducible exact H | (rw [hy551]; exact H) | exact H
   have Ny551 := Aside0.mk hy551; clear hy551; have H' := Aside0.mk H; clear H; go_enter Tryd.func44, Tryd.ntmps44; go_wp2_with (first | ((with_reducible refine gate_dst (N := 15) rfl ?_); refine Kd.R_make (Kd.int .i64) _ 3 rfl (N := 15) rfl 43 _ _ rfl ji3 rfl rfl Tryd.underlying43 (.int .i64 0) 8 info3 rfl (by decide) (by omega) 0 (ok := fun _ => True) (okp := fun _ => True) rfl (fun _ hk => hk) trivial (of_decide_eq_true (by first | (with_reducible assumption) | assumption)) (Nat.le_trans (Nat.mul_le_mul_right _ (of_decide_eq_true (by first | (with_reducible assumption) | assumption) : ji3.toNat ≤ 35184372088832)) (by omega)) (Below.refl _ _) (Nat.le_refl _) ?_; intro v552 w6 ho7 hb hg_ hnew_; clear hg_ hnew_; (first | rw [← Ny551.out] at ho7 | (simp only [Int.reduceToNat] at ho7; rw [← Ny551.out] at ho7)); have O0 := Aside0.mk (Kd.R_lower ho7 (below_size (bw_ HB))); replace HB := bs_ HB hb; clear hb ho7)); go_loopg [6] k (fun kq v6 w' => ∃ (x5_1 : List Int) (x6_1 : Int), v6 = .int .i64 x6_1 ∧ Aside0 (vernierref01_Mul.l0 kq l0 l1 x5_1 x6_1 = some r) ∧ Aside0 (kq ≤ k) ∧ Aside0 (Kd.R (Kd.int .i64) 3 w' w.heap.size (fun _ => True) v552 x5_1) ∧ Aside0 (Below w.heap.size w w')); case atStart => exact ⟨(y551), (0), rf_, H', ⟨Nat.le_refl _⟩, ⟨rl_ O0⟩, ⟨bw_ HB⟩⟩
   case round =>
    clear H'; (try clear c1); (try clear c4); (try clear c4b0); (try clear c4b1); (try clear c5); (try clear c5b0); (try clear c5b1); obtain ⟨x5_1, x6_1, rfl, HA, HK1, Q0, HB⟩ := hrel; cases gk with
    | zero => exact absurd HA.out (by simp [vernierref01_Mul.l0])
    | succ k1 =>
     have H := HA.out; clear HA; simp only [vernierref01_Mul.l0] at H; by_cases c8 : x6_1 < (l0.length : Int)
     ·
      rw [if_pos c8] at H; have c8b0 := decide_eq_true c8; clear c8; have H' := Aside0.mk H; clear H; go_wp2; go_loopg [7, 8] k1 (fun kq v7 v8 w' => ∃ (x5_2 : List Int) (x7_2 : Int) (x8_2 : Int), v7 = .int .i64 x7_2 ∧ v8 = .int .i64 x8_2 ∧ Aside0 (vernierref01_Mul.l1 kq l0 l1 x5_2 x6_1 x7_2 x8_2 = some r) ∧ Aside0 (kq ≤ k1) ∧ Aside0 (Kd.R (Kd.int .i64) 3 w' w.heap.size (fun _ => True) v552 x5_2) ∧ Aside0 (Below w.heap.size w w')); case atStart => exact ⟨(x5_1), (0), (0), rf_, rf_, H', ⟨Nat.le_refl _⟩, ⟨rl_ Q0⟩, ⟨bw_ HB⟩⟩
      case round =>
       clear H'; (try clear c1); (try clear c4); (try clear c4b0); (try clear c4b1); (try clear c5); (try clear c5b0); (try clear c5b1); (try clear c8); (try clear c8b0); obtain ⟨x5_2, x7_2, x8_2, rfl, rfl, HA, HK2, Q0, HB⟩ := hrel; cases gk with
       | zero => exact absurd HA.out (by simp [vernierref01_Mul.l1])
       | succ k2 =>
        have H := HA.out; clear HA; simp only [vernierref01_Mul.l1] at H; have C0 := Aside0.mk H; clear H; go_upto_region 7 with (fail); go_cut [29] (fun v29 wc => ∃ (kq : Nat) (x29_8 : Bool), v29 = .bool x29_8 ∧ Aside0 (vernierref01_Mul.j2 kq l0 l1 x5_2 x6_1 x7_2 x8_2 x29_8 = some r) ∧ Aside0 (kq ≤ k2) ∧ Aside0 (Kd.R (Kd.int .i64) 3 wc w.heap.size (fun _ => True) v552 x5_2) ∧ Aside0 (Below w.heap.size w wc))
        case first =>
         have H := C0.out; clear C0; by_cases c10 : x8_2 < (l1.length : Int)
         ·
          rw [if_pos c10] at H; have c10b0 := decide_eq_true c10; clear c10; (first | rw [c10b0] | (simp only [i64_w, i32_w]; rw [c10b0]) | skip); have H' := Aside0.mk H; clear H; go_wp2; go_meet; case rel => exact ⟨_, (true), rf_, H', ⟨by have := HK1.out; have := HK2.out; first | omega | exact Nat.le_refl _⟩, ⟨rl_ Q0⟩, ⟨bw_ HB⟩⟩
         rw [if_neg c10] at H; have c10b0 := decide_eq_false c10; clear c10; (first | rw [c10b0] | (simp only [i64_w, i32_w]; rw [c10b0]) | skip); have H' := Aside0.mk H; clear H; go_wp2; go_meet; case rel => exact ⟨_, (decide (x7_2 > 0)), rf_, H', ⟨by have := HK1.out; have := HK2.out; first | omega | exact Nat.le_refl _⟩, ⟨rl_ Q0⟩, ⟨bw_ HB⟩⟩
        case rest =>
         clear C0; (try clear c1); (try clear c4); (try clear c4b0); (try clear c4b1); (try clear c5); (try clear c5b0); (try clear c5b1); (try clear c8); (try clear c8b0); obtain ⟨kq, x29_8, rfl, HA, HJ8, Q0, HB⟩ := hcut; cases kq with
         | zero => exact absurd HA.out (by simp [vernierref01_Mul.j2])
         | succ kj8 =>
          have H := HA.out; clear HA; simp only [vernierref01_Mul.j2] at H; by_cases c11 : x29_8 = true
          ·
           subst c11; rw [if_pos rfl] at H; obtain ⟨ji12, j0⟩ : ∃ j_ : Int, (wrap64 (x6_1 + x8_2)) = j_ := ⟨_, rfl⟩; replace H : (if 0 ≤ (ji12) then (if (ji12) < (x5_2.length : Int) then (if x8_2 < (l1.length : Int) then (if 0 ≤ x6_1 then (if x6_1 < (l0.length : Int) then (if 0 ≤ x8_2 then (vernierref01_Mul.l1 kj8 l0 l1 (x5_2.set ((ji12) : Int).toNat (Int.tmod (wrap64 ((wrap64 (x7_2 + (rd x5_2 (ji12)))) + (wrap64 ((rd l0 x6_1) * (rd l1 x8_2))))) 65536)) x6_1 (wrap64 (Int.tdiv (wrap64 ((wrap64 (x7_2 + (rd x5_2 (ji12)))) + (wrap64 ((rd l0 x6_1) * (rd l1 x8_2))))) 65536)) (wrap64 (x8_2 + 1))) else (none)) else (none)) else (none)) else (vernierref01_Mul.l1 kj8 l0 l1 (x5_2.set ((ji12) : Int).toNat (Int.tmod (wrap64 (x7_2 + (rd x5_2 (ji12)))) 65536)) x6_1 (wrap64 (Int.tdiv (wrap64 (x7_2 + (rd x5_2 (ji12)))) 65536)) (wrap64 (x8_2 + 1)))) else (none)) else (none)) = some r := by first | (rw [j0] at H; exact H) | (simp only [j0] at H ⊢; exact H)
           have hji12w : (IntKind.i64.wrap (x6_1 + x8_2)) = ji12 := (i64_w _).trans j0; by_cases c13 : 0 ≤ (ji12)
           ·
            rw [if_pos c13] at H; have c13b0 := decide_eq_true c13; clear c13; by_cases c14 : (ji12) < (x5_2.length : Int)
            ·
             rw [if_pos c14] at H; have c14b0 := decide_eq_true c14; clear c14; by_cases c15 : x8_2 < (l1.length : Int)
             ·
              rw [if_pos c15] at H; have c15b0 := decide_eq_true c15; clear c15; by_cases c16 : 0 ≤ x6_1
              ·
               rw [if_pos c16] at H; have c16b0 := decide_eq_true c16; clear c16; by_cases c17 : x6_1 < (l0.length : Int)
               ·
                rw [if_pos c17] at H; have c17b0 := decide_eq_true c17; clear c17; by_cases c18 : 0 ≤ x8_2
                ·
                 rw [if_pos c18] at H; have c18b0 := decide_eq_true c18; clear c18; obtain ⟨y560, hy560⟩ : ∃ y_ : List Int, y_ = (x5_2.set ((ji12) : Int).toNat (Int.tmod (wrap64 ((wrap64 (x7_2 + (rd x5_2 (ji12)))) + (wrap64 ((rd l0 x6_1) * (rd l1 x8_2))))) 65536)) := ⟨_, rfl⟩; replace H : (vernierref01_Mul.l1 kj8 l0 l1 y560 x6_1 (wrap64 (Int.tdiv (wrap64 ((wrap64 (x7_2 + (rd x5_2 (ji12)))) + (wrap64 ((rd l0 x6_1) * (rd l1 x8_2))))) 65536)) (wrap64 (x8_2 + 1))) = some r := by first | (rw [hy560]; with_reducible exact H) | (have H2_ := (Option.bind_some _ _).symm.trans H; rw [hy560]; with_reducible exact H2_) | (have H2_ := (Option.bind_some _ _).symm.trans H; with_reducible exact H2_) | with_reducible exact H | (rw [hy560]; exact H) | exact H
                 have Ny560 := Aside0.mk hy560; clear hy560; have H' := Aside0.mk H; clear H; obtain ⟨a1, c3, e2⟩ := Kd.R_slice Q0.out; subst e2; have p557 : 0 ≤ ((ji12) : Int) := of_decide_eq_true (by first | (with_reducible assumption) | assumption); have q557 : (ji12) < (x5_2.length : Int) := of_decide_eq_true (by first | (with_reducible assumption) | assumption); obtain ⟨ad557, e557, hx557_0⟩ := Kd.at_int (Kd.R_reads' Q0.out).2.2 (ji12) p557 q557; cases e557
                 replace p557 := eq_true p557; replace q557 := eq_true q557; (try go_wp2); replace Q0 := Aside0.mk (Kd.R_drew Q0.out); replace HB := Aside0.mk (below_drew1 HB.out); have p558 : 0 ≤ (x6_1 : Int) := of_decide_eq_true (by first | (with_reducible assumption) | assumption); have q558 : x6_1 < (l0.length : Int) := of_decide_eq_true (by first | (with_reducible assumption) | assumption); obtain ⟨ad558, e558, hx558_0⟩ := Kd.at_int R0.out x6_1 p558 q558; have hw558_0 := hx558_0; cases e558
                 replace hx558_0 := (HB.out.cell (World.block_lt_of_cell? w _ hx558_0)).trans hx558_0; replace p558 := eq_true p558; replace q558 := eq_true q558; have p559 : 0 ≤ (x8_2 : Int) := of_decide_eq_true (by first | (with_reducible assumption) | assumption); have q559 : x8_2 < (l1.length : Int) := of_decide_eq_true (by first | (with_reducible assumption) | assumption); obtain ⟨ad559, e559, hx559_0⟩ := Kd.at_int R1.out x8_2 p559 q559; have hw559_0 := hx559_0; cases e559
                 replace hx559_0 := (HB.out.cell (World.block_lt_of_cell? w _ hx559_0)).trans hx559_0; replace p559 := eq_true p559; replace q559 := eq_true q559; refine start_ (n := 12) (S := fun w' => w'.cell? (ad558.add (x6_1).toNat) = some (.int .i64 (rd l0 x6_1)) ∧ w'.cell? (ad559.add (x8_2).toNat) = some (.int .i64 (rd l1 x8_2))) (ds := []) #[false, false, false, false, false, false, false, false, false, false, false, false] (by kernel_rfl) rfl rfl ⟨((HB.out.cell (World.block_lt_of_cell? w _ hw558_0)).trans hw558_0), ((HB.out.cell (World.block_lt_of_cell? w _ hw559_0)).trans hw559_0)⟩ (fun hHeld => ?_); refine with_tabW vernierref01_Mul.tab11 vernierref01_Mul.bits11 (fun HT_ HW_ => ?_); generalize wc.drew = w21 at Q0 HB hx558_0 hx559_0 hHeld ⊢; refine pure_ (i := 0) (N := some 44) (v := ?_) (a' := ?_) #[true, false, false, false, false, false, false, false, false, false, false, false] rfl rfl (any_of HT_.out (by kernel_rfl)) (fun _ _ _ h => h) (Or.inl ⟨by rfl, ?_⟩) ?_ ?_; rotate_left
                 ·
                  intro w'
                  go_simp; with_reducible rfl
                 rotate_left
                 ·
                  simp only [sp_]; rfl
                 refine pure_ (i := 1) (N := some 45) (v := ?_) (a' := ?_) #[true, true, false, false, false, false, false, false, false, false, false, false] rfl rfl (any_of HT_.out (by kernel_rfl)) (fun _ _ _ h => h) (Or.inl ⟨by rfl, ?_⟩) ?_ ?_; rotate_left
                 ·
                  intro w'
                  go_simp; with_reducible rfl
                 rotate_left
                 ·
                  simp only [sp_]; rfl
                 refine pure_ (i := 2) (N := some 46) (v := ?_) (a' := ?_) #[true, true, true, false, false, false, false, false, false, false, false, false] rfl rfl (any_of HT_.out (by kernel_rfl)) (fun _ _ _ h => h) (Or.inl ⟨by rfl, ?_⟩) ?_ ?_; rotate_left
                 ·
                  intro w'
                  go_simp; with_reducible rfl
                 rotate_left
                 ·
                  simp only [sp_]; rfl
                 refine pure_ (i := 3) (N := some 47) (v := ?_) (a' := ?_) #[true, true, true, true, false, false, false, false, false, false, false, false] rfl rfl (any_of HT_.out (by kernel_rfl)) (fun _ _ _ h => h) (Or.inl ⟨by rfl, ?_⟩) ?_ ?_; rotate_left
                 ·
                  intro w'
                  go_simp; with_reducible rfl
                 rotate_left
                 ·
                  simp only [sp_]; rfl
                 refine pure_ (i := 5) (N := some 49) (v := ?_) (a' := ?_) #[true, true, true, true, false, true, false, false, false, false, false, false] rfl rfl (any_of HT_.out (by kernel_rfl)) (fun _ _ _ h => h) (Or.inl ⟨by rfl, ?_⟩) ?_ ?_; rotate_left
                 ·
                  intro w'
                  go_simp; with_reducible rfl
                 rotate_left
                 ·
                  simp only [sp_]; rfl
                 refine pure_ (i := 6) (N := some 50) (v := ?_) (a' := ?_) #[true, true, true, true, false, true, true, false, false, false, false, false] rfl rfl (any_of HT_.out (by kernel_rfl)) (fun _ _ _ h => h) (Or.inl ⟨by rfl, ?_⟩) ?_ ?_; rotate_left
                 ·
                  intro w'
                  go_simp; with_reducible rfl
                 rotate_left
                 ·
                  simp only [sp_]; rfl
                 refine pure_ (i := 7) (N := some 51) (v := ?_) (a' := ?_) #[true, true, true, true, false, true, true, true, false, false, false, false] rfl rfl (any_of HT_.out (by kernel_rfl)) (fun _ _ _ h => h) (Or.inl ⟨by rfl, ?_⟩) ?_ ?_; rotate_left
                 ·
                  intro w'
                  go_simp; with_reducible rfl
                 rotate_left
                 ·
                  simp only [sp_]; rfl
                 refine take_ (i := 4) (N := some 48) (v := ?_) (a' := ?_) #[true, true, true, true, true, true, true, true, false, false, false, false] rfl rfl (take_ofW HT_.out HW_.out (by kernel_rfl)) (fun _ _ _ h => h) (Or.inl ⟨by rfl, ?_⟩) hHeld ?_ ?_; rotate_left
                 ·
                  rintro w' ⟨s0, s1⟩; go_simp; with_reducible rfl
                 rotate_left
                 ·
                  simp only [sp_]; rfl
                 refine take_ (i := 8) (N := some 52) (v := ?_) (a' := ?_) #[true, true, true, true, true, true, true, true, true, false, false, false] rfl rfl (take_ofW HT_.out HW_.out (by kernel_rfl)) (fun _ _ _ h => h) (Or.inl ⟨by rfl, ?_⟩) hHeld ?_ ?_; rotate_left
                 ·
                  rintro w' ⟨s0, s1⟩; go_simp; with_reducible rfl
                 rotate_left
                 ·
                  simp only [sp_]; rfl
                 refine pure_ (i := 9) (N := some 53) (v := ?_) (a' := ?_) #[true, true, true, true, true, true, true, true, true, true, false, false] rfl rfl (any_of HT_.out (by kernel_rfl)) (fun _ _ _ h => h) (Or.inl ⟨by rfl, ?_⟩) ?_ ?_; rotate_left
                 ·
                  intro w'
                  go_simp; with_reducible rfl
                 rotate_left
                 ·
                  simp only [sp_]; rfl
                 refine pure_ (i := 10) (N := some 54) (v := ?_) (a' := ?_) #[true, true, true, true, true, true, true, true, true, true, true, false] rfl rfl (any_of HT_.out (by kernel_rfl)) (fun _ _ _ h => h) (Or.inl ⟨by rfl, ?_⟩) ?_ ?_; rotate_left
                 ·
                  intro w'
                  go_simp; with_reducible rfl
                 rotate_left
                 ·
                  simp only [sp_]; rfl
                 refine pure_ (i := 11) (N := some 7) (v := ?_) (a' := ?_) #[true, true, true, true, true, true, true, true, true, true, true, true] rfl rfl (any_of HT_.out (by kernel_rfl)) (fun _ _ _ h => h) (Or.inl ⟨by rfl, ?_⟩) ?_ ?_; rotate_left
                 ·
                  intro w'
                  go_simp; with_reducible rfl
                 rotate_left
                 ·
                  simp only [sp_]; rfl
                 refine done_ (done_of HT_.out (by kernel_rfl)) ?_; have p19 : 0 ≤ ((ji12) : Int) := of_decide_eq_true (by first | (with_reducible assumption) | assumption); have q19 : ((ji12) : Int) < ((x5_2.length : Int) : Int) := of_decide_eq_true (by first | (with_reducible assumption) | assumption); obtain ⟨go19, c7, e0, g0, gl19, cl19, HG19⟩ := Kd.R_form Q0.out (by omega); (first | cases e0 | (injection e0 with ea_ en_ ec_; (first | subst ea_ | (injection ea_ with ea_; subst ea_)); subst ec_; clear en_)); have GB19 := Aside0.mk g0; have GG19 := Aside0.mk HG19; clear g0 gl19 HG19; (first | simp only [add_plain] at hx557_0 | skip); obtain ⟨hx19_0, hf19_0⟩ := Kd.R_celln 0 Q0.out ((ji12) : Int) p19 q19; replace p19 := eq_true p19; replace q19 := eq_true q19; obtain ⟨hy22_, hz22_⟩ := Kd.R_celln 0 Q0.out ((ji12) : Int) (of_decide_eq_true (by first | (with_reducible assumption) | assumption)) (of_decide_eq_true (by first | (with_reducible assumption) | assumption)); have HP22 := Kd.R_putg Q0.out ((ji12) : Int) (Int.tmod (wrap64 ((wrap64 (x7_2 + (rd x5_2 (ji12)))) + (wrap64 ((rd l0 x6_1) * (rd l1 x8_2))))) 65536); (try go_wp2_with (first | ((with_reducible refine gate_store (t := 3) (p := 61) rfl ?_); refine store_event (t := 3) (p := 61) (v := ?vo_w23) (w1 := (w21.setCell ⟨go19, ((ji12) : Int).toNat, none⟩ (.int .i64 (Int.tmod (wrap64 ((wrap64 (x7_2 + (rd x5_2 (ji12)))) + (wrap64 ((rd l0 x6_1) * (rd l1 x8_2))))) 65536)))) ?hg ?ho ?hn ?hr ?_; (case ho => rfl); (case hg => rfl); (case hn => rfl); (case hr => first | (go_simp; done) | (go_simp; rfl)); intro w23 hw; have hg : w21.grownBy w23 (some go19) := (by rw [hw]; exact HP22.2); have hp_ : Kd.R (Kd.int .i64) 3 w23 w.heap.size (fun _ => True) (.slice (some ⟨go19, 0, none⟩) x5_2.length c3) y560 := (by rw [hw, Ny560.out]; exact HP22.1); clear HP22; replace Q0 := Aside0.mk (hp_); replace HB := Aside0.mk ((by rw [hw]; exact below_set (HB.out) GB19.out : Below w.heap.size w w23)); clear hg hw hp_))); go_roundg kj8; case measure => have := HK1.out; have := HK2.out; have := HJ8.out; omega
                 case rel => exact ⟨(y560), (wrap64 (Int.tdiv (wrap64 ((wrap64 (x7_2 + (rd x5_2 (ji12)))) + (wrap64 ((rd l0 x6_1) * (rd l1 x8_2))))) 65536)), (wrap64 (x8_2 + 1)), (by first | rfl | (simp; done) | (simp only [← j0] <;> (first | rfl | simp)) | (simp [*]; done)), rf_, H', ⟨by have := HK1.out; have := HK2.out; have := HJ8.out; omega⟩, ⟨rl_ Q0⟩, ⟨bw_ HB⟩⟩
                rw [if_neg c18] at H; exact absurd H (by simp)
               rw [if_neg c17] at H; exact absurd H (by simp)
              rw [if_neg c16] at H; exact absurd H (by simp)
             rw [if_neg c15] at H; have c15b0 := decide_eq_false c15; clear c15; obtain ⟨y561, hy561⟩ : ∃ y_ : List Int, y_ = (x5_2.set ((ji12) : Int).toNat (Int.tmod (wrap64 (x7_2 + (rd x5_2 (ji12)))) 65536)) := ⟨_, rfl⟩; replace H : (vernierref01_Mul.l1 kj8 l0 l1 y561 x6_1 (wrap64 (Int.tdiv (wrap64 (x7_2 + (rd x5_2 (ji12)))) 65536)) (wrap64 (x8_2 + 1))) = some r := by first | (rw [hy561]; with_reducible exact H) | (have H2_ := (Option.bind_some _ _).symm.trans H; rw [hy561]; with_reducible exact H2_) | (have H2_ := (Option.bind_some _ _).symm.trans H; with_reducible exact H2_) | with_reducible exact H | (rw [hy561]; exact H) | exact H
             have Ny561 := Aside0.mk hy561; clear hy561; have H' := Aside0.mk H; clear H; obtain ⟨a2, c6, e3⟩ := Kd.R_slice Q0.out; subst e3; have p557 : 0 ≤ ((ji12) : Int) := of_decide_eq_true (by first | (with_reducible assumption) | assumption); have q557 : (ji12) < (x5_2.length : Int) := of_decide_eq_true (by first | (with_reducible assumption) | assumption); obtain ⟨ad557, e557, hx557_0⟩ := Kd.at_int (Kd.R_reads' Q0.out).2.2 (ji12) p557 q557; cases e557
             replace p557 := eq_true p557; replace q557 := eq_true q557; have p24 : 0 ≤ ((ji12) : Int) := of_decide_eq_true (by first | (with_reducible assumption) | assumption); have q24 : ((ji12) : Int) < ((x5_2.length : Int) : Int) := of_decide_eq_true (by first | (with_reducible assumption) | assumption); obtain ⟨go24, c9, e1, g1, gl24, cl24, HG24⟩ := Kd.R_form Q0.out (by omega); (first | cases e1 | (injection e1 with ea_ en_ ec_; (first | subst ea_ | (injection ea_ with ea_; subst ea_)); subst ec_; clear en_)); have GB24 := Aside0.mk g1; have GG24 := Aside0.mk HG24; clear g1 gl24 HG24; (first | simp only [add_plain] at hx557_0 | skip); obtain ⟨hx24_0, hf24_0⟩ := Kd.R_celln 0 Q0.out ((ji12) : Int) p24 q24; replace p24 := eq_true p24; replace q24 := eq_true q24; have HP26 := Kd.R_putg Q0.out ((ji12) : Int) (Int.tmod (wrap64 (x7_2 + (rd x5_2 (ji12)))) 65536); go_wp2_with (first | ((with_reducible refine gate_store (t := 3) (p := 61) rfl ?_); refine store_event (t := 3) (p := 61) (v := ?vo_w27) (w1 := (wc.setCell ⟨go24, ((ji12) : Int).toNat, none⟩ (.int .i64 (Int.tmod (wrap64 (x7_2 + (rd x5_2 (ji12)))) 65536)))) ?hg ?ho ?hn ?hr ?_; (case ho => rfl); (case hg => rfl); (case hn => rfl); (case hr => first | (go_simp; done) | (go_simp; rfl)); intro w27 hw; have hg : wc.grownBy w27 (some go24) := (by rw [hw]; exact HP26.2); have hp_ : Kd.R (Kd.int .i64) 3 w27 w.heap.size (fun _ => True) (.slice (some ⟨go24, 0, none⟩) x5_2.length c6) y561 := (by rw [hw, Ny561.out]; exact HP26.1); clear HP26; replace Q0 := Aside0.mk (hp_); replace HB := Aside0.mk ((by rw [hw]; exact below_set (HB.out) GB24.out : Below w.heap.size w w27)); clear hg hw hp_)); go_roundg kj8; case measure => have := HK1.out; have := HK2.out; have := HJ8.out; omega
             case rel => exact ⟨(y561), (wrap64 (Int.tdiv (wrap64 (x7_2 + (rd x5_2 (ji12)))) 65536)), (wrap64 (x8_2 + 1)), (by first | rfl | (simp; done) | (simp only [← j0] <;> (first | rfl | simp)) | (simp [*]; done)), rf_, H', ⟨by have := HK1.out; have := HK2.out; have := HJ8.out; omega⟩, ⟨rl_ Q0⟩, ⟨bw_ HB⟩⟩
            rw [if_neg c14] at H; exact absurd H (by simp)
           rw [if_neg c13] at H; exact absurd H (by simp)
          replace c11 := Bool.eq_false_iff.mpr c11; subst c11; rw [if_neg nt_] at H; have H' := Aside0.mk H; clear H; go_wp2; go_roundg kj8; case measure => have := HK1.out; have := HK2.out; have := HJ8.out; omega
          case rel => exact ⟨(x5_2), (wrap64 (x6_1 + 1)), rf_, H', ⟨by have := HK1.out; have := HK2.out; have := HJ8.out; omega⟩, ⟨rl_ Q0⟩, ⟨bw_ HB⟩⟩
     rw [if_neg c8] at H; have c8b0 := decide_eq_false c8; clear c8; replace H := bo_ H; obtain ⟨t554, A28, H⟩ := H; replace H : (some t554) = some r := H; obtain rfl := Option.some.inj H; obtain ⟨a0, c2, e4⟩ := Kd.R_slice Q0.out; subst e4; go_wp2_with (first | ((with_reducible refine gate_callee (f := 75) rfl ?_); refine gl_ (some 65) rfl rfl Tryd.func75 (by kernel_rfl) rfl #[.slice a0 x5_1.length c2] rfl ?_; (with_reducible refine (vernierref01_cut.calls k1 (fun k_ => some k_ = (.slice a0 x5_1.length c2 : Value).ownBlock) (.slice a0 x5_1.length c2) x5_1 t554 w _ ?side1 ?side2 A28.out).mono ?_); (case side1 => repeat (first | (with_reducible first | exact HB.out | apply below_alloc | apply pw_below_drewN | apply below_drew1) | exact HB.out)); (case side2 => exact Kd.R_tight rfl Q0.out); rintro e w30 ⟨v555, rfl, ho0, hb, hkp⟩; refine ⟨_, rfl, ?_⟩; have O1 := Aside0.mk (Kd.R_mono (ok' := fun k_ => True) ho0 (fun k_ hk_ => trivial)); replace HB := Aside0.mk (hb); clear Q0; (try clear hb hkp ho0))); go_ret; exact ⟨_, by first | rfl | (simp [errW_none, errW_some] <;> rfl) | (simp only [← j1]; first | rfl | (simp [errW_none, errW_some] <;> rfl)) | (simp [*, errW_none, errW_some] <;> rfl), rl_ O1, bw_ HB⟩
  rw [if_neg c5] at H; exact absurd H (by simp)
 rw [if_neg c4] at H; exact absurd H (by simp)
def vernierref01_Shl.l0 : Nat → List Int → Int → List Int → Int → Int → Option (List Int)
 | 0, _, _, _, _, _ => none
 | k + 1, x0, x1, x5, x6, x7 => if x7 < (Int.tmod x1 16) then (vernierref01_Shl.l0 k x0 x1 x5 (wrap64 (2 * x6)) (wrap64 (x7 + 1))) else ((vernierref01_Mul.f k x0 (([x6] : List Int))).bind fun t568 => (if x5.length + t568.length < 17592186044416 then ((vernierref01_cut.f k (x5 ++ t568)).bind fun t574 => (some t574)) else (none)))
def vernierref01_Shl.f (k : Nat) (l0 : List Int) (a1 : Int) : Option (List Int) := if 0 ≤ (wrap64 (Int.tdiv a1 16)) then (if (wrap64 (Int.tdiv a1 16) : Int).toNat ≤ 35184372088832 then (vernierref01_Shl.l0 k l0 a1 (List.replicate (wrap64 (Int.tdiv a1 16) : Int).toNat 0) 1 0) else (none)) else (none)
set_option maxHeartbeats 8000000 in
set_option maxRecDepth 100000 in
theorem vernierref01_Shl.calls (k : Nat) (A0 : Option Addr) (c0 : Nat) (l0 : List Int) (a1 : Int) (r : List Int) (w : World) (hr0 : Kd.C (Kd.int .i64) w A0 l0.length l0) (hc0 : l0.length ≤ c0) (h : vernierref01_Shl.f k l0 a1 = some r) :
  Calls Tryd.prog 42 #[.slice A0 l0.length c0, .int .i64 a1] w fun e w' => ∃ v0_ : Value, e = .returned (v0_) ∧ Kd.R (Kd.int .i64) 3 w' w.heap.size (fun _ => True) v0_ r ∧ Below w.heap.size w w' := by
 have R0 := Aside0.mk hr0; have C0 := Aside0.mk hc0; clear hr0 hc0; have HB := Aside0.mk (Below.refl w.heap.size w); have H := h; rw [vernierref01_Shl.f] at H; clear h; obtain ⟨ji3, j0⟩ : ∃ j_ : Int, (wrap64 (Int.tdiv a1 16)) = j_ := ⟨_, rfl⟩; replace H : (if 0 ≤ (ji3) then (if (ji3 : Int).toNat ≤ 35184372088832 then (vernierref01_Shl.l0 k l0 a1 (List.replicate (ji3 : Int).toNat 0) 1 0) else (none)) else (none)) = some r := by first | (rw [j0] at H; exact H) | (simp only [j0] at H ⊢; exact H)
 have hji3w : (IntKind.i64.wrap (Int.tdiv a1 16)) = ji3 := (i64_w _).trans j0; by_cases c4 : 0 ≤ (ji3)
 ·
  rw [if_pos c4] at H; have c4b0 := eq_true c4; have c4b1 := decide_eq_true c4; clear c4; by_cases c5 : (ji3 : Int).toNat ≤ 35184372088832
  ·
   rw [if_pos c5] at H; have c5b0 := eq_true c5; have c5b1 := decide_eq_true c5; clear c5; obtain ⟨y562, hy562⟩ : ∃ y_ : List Int, y_ = (List.replicate (ji3 : Int).toNat 0) := ⟨_, rfl⟩; replace H : (vernierref01_Shl.l0 k l0 a1 y562 1 0) = some r := by first | (rw [hy562]; with_reducible exact H) | (have H2_ := (Option.bind_some _ _).symm.trans H; rw [hy562]; with_reducible exact H2_) | (have H2_ := (Option.bind_some _ _).symm.trans H; with_reducible exact H2_) | with_reducible exact H | (rw [hy562]; exact H) | exact H
   have Ny562 := Aside0.mk hy562; clear hy562; have H' := Aside0.mk H; clear H; go_enter Tryd.func42, Tryd.ntmps42; go_wp2_with (first | ((with_reducible refine gate_dst (N := 10) rfl ?_); refine Kd.R_make (Kd.int .i64) _ 3 rfl (N := 10) rfl 43 _ _ rfl ji3 rfl rfl Tryd.underlying43 (.int .i64 0) 8 info3 rfl (by decide) (by omega) 0 (ok := fun _ => True) (okp := fun _ => True) rfl (fun _ hk => hk) trivial (of_decide_eq_true (by first | (with_reducible assumption) | assumption)) (Nat.le_trans (Nat.mul_le_mul_right _ (of_decide_eq_true (by first | (with_reducible assumption) | assumption) : ji3.toNat ≤ 35184372088832)) (by omega)) (Below.refl _ _) (Nat.le_refl _) ?_; intro v563 w6 ho7 hb hg_ hnew_; clear hg_ hnew_; (first | rw [← Ny562.out] at ho7 | (simp only [Int.reduceToNat] at ho7; rw [← Ny562.out] at ho7)); have O3 := Aside0.mk (Kd.R_lower ho7 (below_size (bw_ HB))); replace HB := bs_ HB hb; clear hb ho7)); go_loopg [6, 7] k (fun kq v6 v7 w' => ∃ (x6_1 : Int) (x7_1 : Int), v6 = .int .i64 x6_1 ∧ v7 = .int .i64 x7_1 ∧ Aside0 (vernierref01_Shl.l0 kq l0 a1 y562 x6_1 x7_1 = some r) ∧ Aside0 (kq ≤ k) ∧ Aside0 (Kd.R (Kd.int .i64) 3 w' w.heap.size (fun _ => True) v563 y562) ∧ Aside0 (Below w.heap.size w w')); case atStart => exact ⟨(1), (0), rf_, rf_, H', ⟨Nat.le_refl _⟩, ⟨rl_ O3⟩, ⟨bw_ HB⟩⟩
   case round =>
    clear H'; (try clear c4); (try clear c4b0); (try clear c4b1); (try clear c5); (try clear c5b0); (try clear c5b1); obtain ⟨x6_1, x7_1, rfl, rfl, HA, HK1, Q0, HB⟩ := hrel; cases gk with
    | zero => exact absurd HA.out (by simp [vernierref01_Shl.l0])
    | succ k1 =>
     have H := HA.out; clear HA; simp only [vernierref01_Shl.l0] at H; by_cases c8 : x7_1 < (Int.tmod a1 16)
     ·
      rw [if_pos c8] at H; have c8b0 := decide_eq_true c8; clear c8; have H' := Aside0.mk H; clear H; go_wp2; go_roundg k1; case measure => have := HK1.out; omega
      case rel => exact ⟨(wrap64 (2 * x6_1)), (wrap64 (x7_1 + 1)), rf_, rf_, H', ⟨by have := HK1.out; omega⟩, ⟨rl_ Q0⟩, ⟨bw_ HB⟩⟩
     rw [if_neg c8] at H; have c8b0 := decide_eq_false c8; clear c8; obtain ⟨y565, hy565⟩ : ∃ y_ : List Int, y_ = (([x6_1] : List Int)) := ⟨_, rfl⟩; replace H : ((vernierref01_Mul.f k1 l0 y565).bind fun t568 => (if y562.length + t568.length < 17592186044416 then ((vernierref01_cut.f k1 (y562 ++ t568)).bind fun t574 => (some t574)) else (none))) = some r := by first | (rw [hy565]; with_reducible exact H) | (have H2_ := (Option.bind_some _ _).symm.trans H; rw [hy565]; with_reducible exact H2_) | (have H2_ := (Option.bind_some _ _).symm.trans H; with_reducible exact H2_) | with_reducible exact H | (rw [hy565]; exact H) | exact H
     have Ny565 := Aside0.mk hy565; clear hy565; replace H := bo_ H; obtain ⟨t568, A9, H⟩ := H; (try dsimp only at H); by_cases c10 : y562.length + t568.length < 17592186044416
     ·
      rw [if_pos c10] at H; have LMc10 := Aside0.mk c10; clear c10; obtain ⟨y571, hy571⟩ : ∃ y_ : List Int, y_ = (y562 ++ t568) := ⟨_, rfl⟩; replace H : ((vernierref01_cut.f k1 y571).bind fun t574 => (some t574)) = some r := by first | (rw [hy571]; with_reducible exact H) | (have H2_ := (Option.bind_some _ _).symm.trans H; rw [hy571]; with_reducible exact H2_) | (have H2_ := (Option.bind_some _ _).symm.trans H; with_reducible exact H2_) | with_reducible exact H | (rw [hy571]; exact H) | exact H
      have Ny571 := Aside0.mk hy571; clear hy571; replace H := bo_ H; obtain ⟨t574, A11, H⟩ := H; replace H : (some t574) = some r := H; obtain rfl := Option.some.inj H; go_wp2_with (first | ((with_reducible refine gate_dst (N := 22) rfl ?_); refine Kd.R_lit (Kd.int .i64) _ 3 ?hg (N := 22) ?hd (xs := ([x6_1] : List Int)) (inner := [.int .i64 x6_1]) (ok := fun _ => True) (okp := fun _ => True) ?hr ?hp (fun _ hk => hk) trivial (Below.refl _ _) (Nat.le_refl _) (by simp) ?_; (case hd => rfl); (case hg => rfl); (case hr => first | (go_simp; done) | (go_simp; rfl)); (case hp => exact (Reps.one (show Kd.M (Kd.int .i64) _ _ _ x6_1 [.int .i64 x6_1] from rfl) (Reps.none _ _))); intro v566 w12 ho13 hb hg_ hnew_; clear hg_ hnew_; (first | rw [← Ny565.out] at ho13 | (simp only [Int.reduceToNat] at ho13; rw [← Ny565.out] at ho13)); have O0 := Aside0.mk (Kd.R_lower (Kd.R_new' ho13 (Kd.R_lt (rl_ Q0))) (below_size (bw_ HB))); replace Q0 := Aside0.mk (Kd.R_elder' (rl_ Q0) (Kd.R_base ho13) hb); replace HB := bs_ HB hb; clear hb ho13; obtain ⟨a0, c1, e0⟩ := Kd.R_slice O0.out; subst e0) | ((with_reducible refine gate_callee (f := 44) rfl ?_); refine gl_ (some 23) rfl rfl Tryd.func44 (by kernel_rfl) rfl #[.slice A0 l0.length c0, .slice a0 y565.length c1] rfl ?_; (with_reducible refine (vernierref01_Mul.calls k1 _ _ l0 _ _ y565 t568 _ ?side1 ?side2 ?side3 ?side4 A9.out).mono ?_); (case side1 => exact cl_ (Kd.C_below R0.out HB.out)); (case side2 => exact C0.out); (case side3 => repeat (first | exact (Kd.R_reads' O0.out).2.2 | (with_reducible refine Kd.C_alloc ?_ _) | (with_reducible refine Kd.C_drewN ?_ _) | (with_reducible refine Kd.C_drew ?_))); (case side4 => exact (Kd.R_reads' O0.out).2.1); rintro e w15 ⟨v569, rfl, ho0, hb⟩; refine ⟨_, rfl, ?_⟩; have O1 := Aside0.mk (Kd.R_lower (Kd.R_new' (Kd.R_new' ho0 (Kd.R_lt (rl_ Q0))) (Kd.R_lt (rl_ O0))) (below_size (bw_ HB))); replace Q0 := Aside0.mk (Kd.R_elder' (rl_ Q0) (Kd.R_base ho0) hb); replace O0 := Aside0.mk (Kd.R_elder' (rl_ O0) (Kd.R_base ho0) hb); replace HB := bs_ HB hb; (try clear hb ho0); obtain ⟨a2, c2, e1⟩ := Kd.R_slice O1.out; subst e1) | ((with_reducible refine gate_builtin (b := .append) (xs := #[.tmp 19, .tmp 23]) rfl ?_); at_builtin; refine Kd.R_append_rows (Kd.int .i64) (w0 := w) w.heap.size rfl (.tmp 19) (.tmp 23) 43 3 (.int .i64 0) 8 rfl Tryd.underlying43 info3 rfl (by decide) (by omega) v563 y562 t568 _ _ _ (fun k_ => some k_ ≠ (.slice a0 y565.length c1 : Value).ownBlock ∧ some k_ ≠ (.slice a2 t568.length c2 : Value).ownBlock) (fun _ => False) rfl rfl ?aO ?aR (fun _ _ h => h) (fun _ h => h.elim) ?aF ?aB ?aS ?aL ?_; (case aR => repeat (first | exact (Kd.R_reads' O1.out).2.2 | (with_reducible refine Kd.C_alloc ?_ _) | (with_reducible refine Kd.C_drewN ?_ _) | (with_reducible refine Kd.C_drew ?_))); (case aB => exact (bw_ HB)); (case aF => exact (fun k_ hk => ⟨Kd.fresh' (Kd.R_lt (rl_ O0)) k_ hk, Kd.fresh' (Kd.R_lt (rl_ O1)) k_ hk⟩)); (case aO => exact (by (with_reducible repeat (first | apply Kd.R_alloc | apply Kd.R_drewN | apply Kd.R_drew)); exact Kd.R_mono Q0.out (fun _ hk => ⟨hk.1.2, hk.2⟩))); (case aS => exact (below_size (bw_ HB))); (case aL => have := LMc10.out; omega); intro v572 w16 ho hb hg hat; rw [← Ny571.out] at ho; replace O0 := Aside0.mk (Kd.R_after (ok := (fun k_ => some k_ ≠ (.slice a2 t568.length c2 : Value).ownBlock)) (by (with_reducible repeat (first | apply Kd.R_alloc | apply Kd.R_drewN | apply Kd.R_drew)); exact Kd.R_mono O0.out (fun _ hk => ⟨hk.2, hk.1.2⟩)) hg hat); replace O1 := Aside0.mk (Kd.R_after (ok := (fun k_ => some k_ ≠ (.slice a0 y565.length c1 : Value).ownBlock)) (by (with_reducible repeat (first | apply Kd.R_alloc | apply Kd.R_drewN | apply Kd.R_drew)); exact Kd.R_mono O1.out (fun _ hk => ⟨hk.2, hk.1.2⟩)) hg hat); replace HB := Aside0.mk (hb); have O2 := Aside0.mk (ho); clear Q0; clear ho hb hg hat; obtain ⟨a3, c3, e2⟩ := Kd.R_slice O2.out; subst e2) | ((with_reducible refine gate_callee (f := 75) rfl ?_); refine gl_ (some 25) rfl rfl Tryd.func75 (by kernel_rfl) rfl #[.slice a3 y571.length c3] rfl ?_; (with_reducible refine (vernierref01_cut.calls k1 (fun k_ => some k_ = (.slice a3 y571.length c3 : Value).ownBlock) (.slice a3 y571.length c3) y571 t574 w _ ?side1 ?side2 A11.out).mono ?_); (case side1 => repeat (first | (with_reducible first | exact HB.out | apply below_alloc | apply pw_below_drewN | apply below_drew1) | exact HB.out)); (case side2 => exact Kd.R_tight rfl O2.out); rintro e w19 ⟨v575, rfl, ho0, hb, hkp⟩; refine ⟨_, rfl, ?_⟩; have O4 := Aside0.mk (Kd.R_mono (ok' := fun k_ => some k_ ≠ (.slice a0 y565.length c1 : Value).ownBlock ∧ some k_ ≠ (.slice a2 t568.length c2 : Value).ownBlock) ho0 (fun k_ hk_ => ⟨Or.elim hk_ (fun hs_ => fun e_ => (((O0.out).1 k_ e_.symm).2) hs_) (fun hn_ => (Kd.fresh' (Kd.R_lt (rl_ O0)) k_ hn_)), Or.elim hk_ (fun hs_ => fun e_ => (((O1.out).1 k_ e_.symm).2) hs_) (fun hn_ => (Kd.fresh' (Kd.R_lt (rl_ O1)) k_ hn_))⟩)); replace O0 := Aside0.mk (Kd.R_mono (ok' := fun k_ => some k_ ≠ (.slice a2 t568.length c2 : Value).ownBlock ∧ some k_ ≠ (v575 : Value).ownBlock) (Kd.R_keptB (O0.out) hkp (fun k_ hk_ hs_ => (hk_.2) hs_)) (fun k_ hk_ => ⟨hk_.1.1, fun e_ => Or.elim (ho0.1 k_ e_.symm) (fun hs_ => hk_.2.1 hs_) (fun hn_ => Nat.not_le.2 hk_.2.2 hn_)⟩)); replace O1 := Aside0.mk (Kd.R_mono (ok' := fun k_ => some k_ ≠ (.slice a0 y565.length c1 : Value).ownBlock ∧ some k_ ≠ (v575 : Value).ownBlock) (Kd.R_keptB (O1.out) hkp (fun k_ hk_ hs_ => (hk_.2) hs_)) (fun k_ hk_ => ⟨hk_.1.1, fun e_ => Or.elim (ho0.1 k_ e_.symm) (fun hs_ => hk_.2.1 hs_) (fun hn_ => Nat.not_le.2 hk_.2.2 hn_)⟩)); replace HB := Aside0.mk (hb); clear O2; (try clear hb hkp ho0))); go_ret; exact ⟨_, by first | rfl | (simp [errW_none, errW_some] <;> rfl) | (simp only [← j0]; first | rfl | (simp [errW_none, errW_some] <;> rfl)) | (simp [*, errW_none, errW_some] <;> rfl), by refine rz_ ?_; exact Kd.R_mono O4.out (fun _ hk => trivial), bw_ HB⟩
     rw [if_neg c10] at H; exact absurd H (by simp)
  rw [if_neg c5] at H; exact absurd H (by simp)
 rw [if_neg c4] at H; exact absurd H (by simp)
def vernierref01_Cmp.l0 : Nat → List Int → List Int → Int → Option (Int)
 | 0, _, _, _ => none
 | k + 1, x0, x1, x5 => if x5 ≥ 0 then (if 0 ≤ x5 then (if x5 < (x0.length : Int) then (if x5 < (x1.length : Int) then (if (rd x0 x5) < (rd x1 x5) then (some (-1)) else (if (rd x0 x5) > (rd x1 x5) then (some 1) else (vernierref01_Cmp.l0 k x0 x1 (wrap64 (x5 - 1))))) else (none)) else (none)) else (none)) else (some 0)
def vernierref01_Cmp.f (k : Nat) (l0 : List Int) (l1 : List Int) : Option (Int) := if (l0.length : Int) = (l1.length : Int) then (vernierref01_Cmp.l0 k l0 l1 (wrap64 ((l0.length : Int) - 1))) else (if (l0.length : Int) < (l1.length : Int) then (some (-1)) else (some 1))
set_option maxHeartbeats 8000000 in
set_option maxRecDepth 100000 in
theorem vernierref01_Cmp.calls (k : Nat) (A0 : Option Addr) (c0 : Nat) (l0 : List Int) (A1 : Option Addr) (c1 : Nat) (l1 : List Int) (r : Int) (w : World) (hr0 : Kd.C (Kd.int .i64) w A0 l0.length l0) (hc0 : l0.length ≤ c0) (hr1 : Kd.C (Kd.int .i64) w A1 l1.length l1) (hc1 : l1.length ≤ c1) (h : vernierref01_Cmp.f k l0 l1 = some r) :
  Calls Tryd.prog 78 #[.slice A0 l0.length c0, .slice A1 l1.length c1] w fun e w' => e = .returned (.int .i64 r) ∧ Drawn0 w w' := by
 have R0 := Aside0.mk hr0; have C0 := Aside0.mk hc0; clear hr0 hc0; have R1 := Aside0.mk hr1; have C1 := Aside0.mk hc1; clear hr1 hc1; have H := h; rw [vernierref01_Cmp.f] at H; clear h; by_cases c3 : (l0.length : Int) = (l1.length : Int)
 ·
  rw [if_pos c3] at H; obtain ⟨c3b0, c3b1⟩ := q1_ c3; have c3b2 : (l0.length == l1.length) = true := by first | simpa using c3 | (simp at c3 ⊢; omega)
  clear c3; have H' := Aside0.mk H; clear H; go_enter Tryd.func78, Tryd.ntmps78; go_wp2; repeat (go_quiet (fail); try go_wp2)
  go_loopg [5] k (fun kq v5 w' => ∃ (x5_1 : Int), v5 = .int .i64 x5_1 ∧ Aside0 (vernierref01_Cmp.l0 kq l0 l1 x5_1 = some r) ∧ Aside0 (kq ≤ k) ∧ Drawn0 w w'); case atStart => exact ⟨(wrap64 ((l0.length : Int) - 1)), rf_, H', ⟨Nat.le_refl _⟩, dr_⟩
  case round =>
   clear H'; (try clear c1); (try clear c3); (try clear c3b0); (try clear c3b1); (try clear c3b2); obtain ⟨x5_1, rfl, HA, HK1, ⟨m1, rfl⟩⟩ := hrel; cases gk with
   | zero => exact absurd HA.out (by simp [vernierref01_Cmp.l0])
   | succ k1 =>
    have H := HA.out; clear HA; simp only [vernierref01_Cmp.l0] at H; by_cases c4 : x5_1 ≥ 0
    ·
     rw [if_pos c4] at H; have c4b0 : decide (0 ≤ x5_1) = true := decide_eq_true c4; clear c4; by_cases c5 : 0 ≤ x5_1
     ·
      rw [if_pos c5] at H; have c5b0 := decide_eq_true c5; clear c5; by_cases c6 : x5_1 < (l0.length : Int)
      ·
       rw [if_pos c6] at H; have c6b0 := decide_eq_true c6; clear c6; by_cases c7 : x5_1 < (l1.length : Int)
       ·
        rw [if_pos c7] at H; have c7b0 := decide_eq_true c7; clear c7; by_cases c8 : (rd l0 x5_1) < (rd l1 x5_1)
        ·
         rw [if_pos c8] at H; have c8b0 := decide_eq_true c8; clear c8; obtain rfl := Option.some.inj H; have p577 : 0 ≤ (x5_1 : Int) := of_decide_eq_true (by first | (with_reducible assumption) | assumption); have q577 : x5_1 < (l0.length : Int) := of_decide_eq_true (by first | (with_reducible assumption) | assumption); obtain ⟨ad577, e577, hx577_0⟩ := Kd.at_int R0.out x5_1 p577 q577; cases e577
         replace p577 := eq_true p577; replace q577 := eq_true q577; have p578 : 0 ≤ (x5_1 : Int) := of_decide_eq_true (by first | (with_reducible assumption) | assumption); have q578 : x5_1 < (l1.length : Int) := of_decide_eq_true (by first | (with_reducible assumption) | assumption); obtain ⟨ad578, e578, hx578_0⟩ := Kd.at_int R1.out x5_1 p578 q578; cases e578
         replace p578 := eq_true p578; replace q578 := eq_true q578; go_wp2; repeat (go_quiet (fail); try go_wp2)
         go_ret; exact ⟨rf_, dr_⟩
        rw [if_neg c8] at H; have c8b0 := decide_eq_false c8; clear c8; by_cases c9 : (rd l0 x5_1) > (rd l1 x5_1)
        ·
         rw [if_pos c9] at H; have c9b0 : decide ((rd l1 x5_1) < (rd l0 x5_1)) = true := decide_eq_true c9; clear c9; obtain rfl := Option.some.inj H; have p577 : 0 ≤ (x5_1 : Int) := of_decide_eq_true (by first | (with_reducible assumption) | assumption); have q577 : x5_1 < (l0.length : Int) := of_decide_eq_true (by first | (with_reducible assumption) | assumption); obtain ⟨ad577, e577, hx577_0⟩ := Kd.at_int R0.out x5_1 p577 q577; cases e577
         replace p577 := eq_true p577; replace q577 := eq_true q577; have p578 : 0 ≤ (x5_1 : Int) := of_decide_eq_true (by first | (with_reducible assumption) | assumption); have q578 : x5_1 < (l1.length : Int) := of_decide_eq_true (by first | (with_reducible assumption) | assumption); obtain ⟨ad578, e578, hx578_0⟩ := Kd.at_int R1.out x5_1 p578 q578; cases e578
         replace p578 := eq_true p578; replace q578 := eq_true q578; have p579 : 0 ≤ (x5_1 : Int) := of_decide_eq_true (by first | (with_reducible assumption) | assumption); have q579 : x5_1 < (l0.length : Int) := of_decide_eq_true (by first | (with_reducible assumption) | assumption); obtain ⟨ad579, e579, hx579_0⟩ := Kd.at_int R0.out x5_1 p579 q579; obtain rfl : ad577 = ad579 := (by injection e579); replace p579 := eq_true p579; replace q579 := eq_true q579; have p580 : 0 ≤ (x5_1 : Int) := of_decide_eq_true (by first | (with_reducible assumption) | assumption); have q580 : x5_1 < (l1.length : Int) := of_decide_eq_true (by first | (with_reducible assumption) | assumption); obtain ⟨ad580, e580, hx580_0⟩ := Kd.at_int R1.out x5_1 p580 q580; obtain rfl : ad578 = ad580 := (by injection e580); replace p580 := eq_true p580; replace q580 := eq_true q580; go_wp2; repeat (go_quiet (fail); try go_wp2)
         go_ret; exact ⟨rf_, dr_⟩
        rw [if_neg c9] at H; have c9b0 : decide ((rd l1 x5_1) < (rd l0 x5_1)) = false := decide_eq_false c9; clear c9; have H' := Aside0.mk H; clear H; have p577 : 0 ≤ (x5_1 : Int) := of_decide_eq_true (by first | (with_reducible assumption) | assumption); have q577 : x5_1 < (l0.length : Int) := of_decide_eq_true (by first | (with_reducible assumption) | assumption); obtain ⟨ad577, e577, hx577_0⟩ := Kd.at_int R0.out x5_1 p577 q577; cases e577
        replace p577 := eq_true p577; replace q577 := eq_true q577; have p578 : 0 ≤ (x5_1 : Int) := of_decide_eq_true (by first | (with_reducible assumption) | assumption); have q578 : x5_1 < (l1.length : Int) := of_decide_eq_true (by first | (with_reducible assumption) | assumption); obtain ⟨ad578, e578, hx578_0⟩ := Kd.at_int R1.out x5_1 p578 q578; cases e578
        replace p578 := eq_true p578; replace q578 := eq_true q578; have p579 : 0 ≤ (x5_1 : Int) := of_decide_eq_true (by first | (with_reducible assumption) | assumption); have q579 : x5_1 < (l0.length : Int) := of_decide_eq_true (by first | (with_reducible assumption) | assumption); obtain ⟨ad579, e579, hx579_0⟩ := Kd.at_int R0.out x5_1 p579 q579; obtain rfl : ad577 = ad579 := (by injection e579); replace p579 := eq_true p579; replace q579 := eq_true q579; have p580 : 0 ≤ (x5_1 : Int) := of_decide_eq_true (by first | (with_reducible assumption) | assumption); have q580 : x5_1 < (l1.length : Int) := of_decide_eq_true (by first | (with_reducible assumption) | assumption); obtain ⟨ad580, e580, hx580_0⟩ := Kd.at_int R1.out x5_1 p580 q580; obtain rfl : ad578 = ad580 := (by injection e580); replace p580 := eq_true p580; replace q580 := eq_true q580; go_wp2; repeat (go_quiet (fail); try go_wp2)
        go_roundg k1; case measure => have := HK1.out; omega
        case rel => exact ⟨(wrap64 (x5_1 - 1)), rf_, H', ⟨by have := HK1.out; omega⟩, dr_⟩
       rw [if_neg c7] at H; exact absurd H (by simp)
      rw [if_neg c6] at H; exact absurd H (by simp)
     rw [if_neg c5] at H; exact absurd H (by simp)
    rw [if_neg c4] at H; have c4b0 : decide (0 ≤ x5_1) = false := decide_eq_false c4; clear c4; obtain rfl := Option.some.inj H; go_wp2; repeat (go_quiet (fail); try go_wp2)
    go_ret; exact ⟨rf_, dr_⟩
 rw [if_neg c3] at H; obtain ⟨c3b0, c3b1⟩ := q0_ c3; have c3b2 : (l0.length == l1.length) = false := by first | simpa using c3 | (simp at c3 ⊢; omega)
 by_cases c10 : (l0.length : Int) < (l1.length : Int)
 ·
  rw [if_pos c10] at H; have c10b0 := decide_eq_true c10; have c10b1 : decide (l0.length < l1.length) = true := decide_eq_true (Int.ofNat_lt.mp c10); clear c10; obtain rfl := Option.some.inj H; go_enter Tryd.func78, Tryd.ntmps78; go_wp2; repeat (go_quiet (fail); try go_wp2)
  go_ret; exact ⟨rf_, dr_⟩
 rw [if_neg c10] at H; have c10b0 := decide_eq_false c10; have c10b1 : decide (l0.length < l1.length) = false := decide_eq_false (fun h => c10 (Int.ofNat_lt.mpr h)); clear c10; obtain rfl := Option.some.inj H; go_enter Tryd.func78, Tryd.ntmps78; go_wp2; repeat (go_quiet (fail); try go_wp2)
 go_ret; exact ⟨rf_, dr_⟩
end Go.Proofs.YtjgdpjbkmcjbcaaDoor.PG
