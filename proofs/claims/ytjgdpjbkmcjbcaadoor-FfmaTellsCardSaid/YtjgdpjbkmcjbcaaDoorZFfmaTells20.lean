/- A part of a proof. -/
import Derived.Test.YtjgdpjbkmcjbcaaDoorZFfmaTells19
namespace Go.Proofs.YtjgdpjbkmcjbcaaDoor.PG
open Go.RowKit Go.Proofs.YtjgdpjbkmcjbcaaDoorW.PrintWords Go.Proofs.YtjgdpjbkmcjbcaaDoorW.PrintLast Go.Proofs.YtjgdpjbkmcjbcaaDoorW.PrintMore
attribute [local go_sem] max2_int min2_int max_two min_two max_three min_three max_four min_four
set_option linter.unusedVariables false
set_option linter.unusedSimpArgs false
attribute [local go_sem] fld139_1
mutual
def nat_Sub.l0 : Nat → List Int → List Int → List Int → Int → Int → Int → Option (List Int)
 | 0, _, _, _, _, _, _ => none
 | k + 1, x0, x1, x5, x6, x18, x19 => if x19 < x18 then (if 0 ≤ x19 then (if x19 < (x0.length : Int) then ((nat_at.f x1 x19).bind fun t154 => ((bits_Sub64.f (rd x0 x19) t154 x6).bind fun bt155 => (if x19 < (x5.length : Int) then (nat_Sub.l0 k x0 x1 (x5.set (x19 : Int).toNat bt155.1) bt155.2 x18 (wrap64 (x19 + 1))) else (none)))) else (none)) else (none)) else ((nat_size.f k x5).bind fun t158 => (if 0 ≤ t158 then (if t158 ≤ (x5.length : Int) then (some (x5.take (t158 : Int).toNat)) else (none)) else (none)))
def nat_Sub.l1 : Nat → List Int → List Int → List Int → Int → Int → Int → Option (List Int)
 | 0, _, _, _, _, _, _ => none
 | k + 1, x0, x1, x5, x6, x18, x19 => if x19 < x18 then (if 0 ≤ x19 then (if x19 < (x0.length : Int) then ((nat_at.f x1 x19).bind fun t166 => ((bits_Sub64.f (rd x0 x19) t166 x6).bind fun bt167 => (if x19 < (x5.length : Int) then (nat_Sub.l1 k x0 x1 (x5.set (x19 : Int).toNat bt167.1) bt167.2 x18 (wrap64 (x19 + 1))) else (none)))) else (none)) else (none)) else ((nat_size.f k x5).bind fun t170 => (if 0 ≤ t170 then (if t170 ≤ (x5.length : Int) then (some (x5.take (t170 : Int).toNat)) else (none)) else (none)))
end
def nat_Sub.f (k : Nat) (l0 : List Int) (l1 : List Int) : Option (List Int) := (nat_Cmp.f k l0 l1).bind fun t149 => (if t149 < 0 then (if 0 ≤ (l1.length : Int) then (if ((l1.length : Int) : Int).toNat ≤ 35184372088832 then ((some (List.replicate ((l1.length : Int) : Int).toNat 0 : List Int)).bind fun y150 => (nat_Sub.l0 k l1 l0 y150 0 (y150.length : Int) 0)) else (none)) else (none)) else (if 0 ≤ (l0.length : Int) then (if ((l0.length : Int) : Int).toNat ≤ 35184372088832 then ((some (List.replicate ((l0.length : Int) : Int).toNat 0 : List Int)).bind fun y162 => (nat_Sub.l1 k l0 l1 y162 0 (y162.length : Int) 0)) else (none)) else (none)))
def nat_Sub.T8 : Bool × List (List Nat × List Nat) := (true, [([], []), ([], []), ([], []), ([], []), ([2, 3], [2, 3]), ([4], [4]), ([], []), ([], []), ([6, 7], [6, 7]), ([], []), ([5, 8, 9, 8], [5, 8, 9]), ([10], [10]), ([11], [11]), ([11], [11]), ([0, 1, 0, 1, 2, 3, 4, 5, 6, 7, 8, 9, 10, 11, 12], [0, 1]), ([14, 12, 10, 0, 1, 2, 3, 4, 5, 6, 7, 8, 9, 10, 11, 12], [12, 14]), ([13, 15, 0, 1, 2, 3, 4, 5, 6, 7, 8, 9, 10, 11, 12, 13, 14, 15], [9, 13])])
def nat_Sub.B8 : List Nat := [0, 0, 0, 0, 12, 28, 0, 0, 192, 0, 1020, 2044, 4092, 4092, 8191, 24575, 65535]
theorem nat_Sub.tab8 : rtab .any (opsOf Tryd.f103 8) = nat_Sub.T8 := by kernel_rfl
theorem nat_Sub.bits8 : waitsOk nat_Sub.T8.2 nat_Sub.B8 = true := by kernel_rfl
set_option maxHeartbeats 8000000 in
set_option maxRecDepth 100000 in
theorem nat_Sub.calls (k : Nat) (A0 : Option Addr) (c0 : Nat) (l0 : List Int) (A1 : Option Addr) (c1 : Nat) (l1 : List Int) (r : List Int) (w : World) (hr0 : Kd.C (Kd.int .u64) w A0 l0.length l0) (hc0 : l0.length ≤ c0) (hr1 : Kd.C (Kd.int .u64) w A1 l1.length l1) (hc1 : l1.length ≤ c1) (h : nat_Sub.f k l0 l1 = some r) :
  Calls Tryd.prog 103 #[.slice A0 l0.length c0, .slice A1 l1.length c1] w fun e w' => ∃ v0_ : Value, e = .returned (v0_) ∧ Kd.R (Kd.int .u64) 34 w' w.heap.size (fun _ => True) v0_ r ∧ Below w.heap.size w w' := by
 have R0 := Aside0.mk hr0; have C0 := Aside0.mk hc0; clear hr0 hc0; have R1 := Aside0.mk hr1; have C1 := Aside0.mk hc1; clear hr1 hc1; have HB := Aside0.mk (Below.refl w.heap.size w); have H := h; rw [nat_Sub.f] at H; clear h; replace H := bo_ H; obtain ⟨t149, A3, H⟩ := H; (try dsimp only at H); by_cases c4 : t149 < 0
 ·
  rw [if_pos c4] at H; have c4b0 := decide_eq_true c4; clear c4; by_cases c5 : 0 ≤ (l1.length : Int)
  ·
   rw [if_pos c5] at H; have c5b0 := eq_true c5; have c5b1 := decide_eq_true c5; clear c5; by_cases c6 : ((l1.length : Int) : Int).toNat ≤ 35184372088832
   ·
    rw [if_pos c6] at H; have c6b0 := eq_true c6; have c6b1 := decide_eq_true c6; clear c6; obtain ⟨y150, hy150⟩ : ∃ y_ : List Int, y_ = (List.replicate ((l1.length : Int) : Int).toNat 0) := ⟨_, rfl⟩; replace H : (nat_Sub.l0 k l1 l0 y150 0 (y150.length : Int) 0) = some r := by first | (rw [hy150]; with_reducible exact H) | (have H2_ := (Option.bind_some _ _).symm.trans H; rw [hy150]; with_reducible exact H2_) | (have H2_ := (Option.bind_some _ _).symm.trans H; with_reducible exact H2_) | with_reducible exact H | (rw [hy150]; exact H) | exact H
    have Ny150 := Aside0.mk hy150; clear hy150; have H' := Aside0.mk H; clear H; go_enter Tryd.func103, Tryd.ntmps103; go_wp2_with (first | ((with_reducible refine gate_callee (f := 76) rfl ?_); refine gl_ (some 10) rfl rfl Tryd.func76 (by kernel_rfl) rfl #[.slice A0 l0.length c0, .slice A1 l1.length c1] rfl ?_; (with_reducible refine (nat_Cmp.calls k _ _ l0 _ _ l1 t149 _ ?side1 ?side2 ?side3 ?side4 A3.out).mono ?_); (case side1 => exact cl_ R0.out); (case side2 => exact C0.out); (case side3 => exact cl_ R1.out); (case side4 => exact C1.out); rintro e w7 ⟨rfl, hb⟩; refine ⟨_, rfl, ?_⟩; replace HB := bs_ HB hb; (try clear hb)) | ((with_reducible refine gate_dst (N := 16) rfl ?_); refine Kd.R_make (Kd.int .u64) _ 34 rfl (N := 16) rfl 22 _ _ rfl (l1.length : Int) rfl rfl Tryd.underlying22 (.int .u64 0) 8 info34 rfl (by decide) (by omega) 0 (ok := fun _ => True) (okp := fun _ => True) rfl (fun _ hk => hk) trivial (of_decide_eq_true (by first | (with_reducible assumption) | assumption)) (Nat.le_trans (Nat.mul_le_mul_right _ (of_decide_eq_true (by first | (with_reducible assumption) | assumption) : (l1.length : Int).toNat ≤ 35184372088832)) (by omega)) (Below.refl _ _) (Nat.le_refl _) ?_; intro v151 w8 ho9 hb hg_ hnew_; clear hg_ hnew_; (first | rw [← Ny150.out] at ho9 | (simp only [Int.reduceToNat] at ho9; rw [← Ny150.out] at ho9)); have O0 := Aside0.mk (Kd.R_lower ho9 (below_size (bw_ HB))); replace HB := bs_ HB hb; clear hb ho9; obtain ⟨a0, c2, e2⟩ := Kd.R_slice O0.out; subst e2)); go_loopg [6, 19] k (fun kq v6 v19 w' => ∃ (x5_1 : List Int) (x6_1 : Int) (x19_1 : Int), v6 = .int .u64 x6_1 ∧ v19 = .int .i64 x19_1 ∧ Aside0 (nat_Sub.l0 kq l1 l0 x5_1 x6_1 (y150.length : Int) x19_1 = some r) ∧ Aside0 (kq ≤ k) ∧ Aside0 (Kd.R (Kd.int .u64) 34 w' w.heap.size (fun _ => True) (.slice a0 y150.length c2) x5_1) ∧ Aside0 (Below w.heap.size w w')); case atStart => exact ⟨(y150), (0), (0), rf_, rf_, H', ⟨Nat.le_refl _⟩, ⟨rl_ O0⟩, ⟨bw_ HB⟩⟩
    case round =>
     clear H'; (try clear c1); (try clear c4); (try clear c4b0); (try clear c5); (try clear c5b0); (try clear c5b1); (try clear c6); (try clear c6b0); (try clear c6b1); obtain ⟨x5_1, x6_1, x19_1, rfl, rfl, HA, HK1, Q0, HB⟩ := hrel; have hl5_1 := (Kd.R_reads' Q0.out).1; rw [hl5_1] at Q0; (try simp only [hl5_1]); cases gk with
     | zero => exact absurd HA.out (by simp [nat_Sub.l0])
     | succ k1 =>
      have H := HA.out; clear HA; simp only [nat_Sub.l0] at H; by_cases c11 : x19_1 < (y150.length : Int)
      ·
       rw [if_pos c11] at H; have c11b0 := decide_eq_true c11; (try simp only [hl5_1] at c11b0); clear c11; by_cases c12 : 0 ≤ x19_1
       ·
        rw [if_pos c12] at H; have c12b0 := decide_eq_true c12; (try simp only [hl5_1] at c12b0); clear c12; by_cases c13 : x19_1 < (l1.length : Int)
        ·
         rw [if_pos c13] at H; have c13b0 := decide_eq_true c13; (try simp only [hl5_1] at c13b0); clear c13; replace H := bo_ H; obtain ⟨t154, A14, H⟩ := H; (try dsimp only at H); replace H := bo_ H; obtain ⟨⟨t155, t156⟩, A15, H⟩ := H; (try dsimp only at H); by_cases c16 : x19_1 < (x5_1.length : Int)
         ·
          rw [if_pos c16] at H; have c16b0 := decide_eq_true c16; (try simp only [hl5_1] at c16b0); clear c16; obtain ⟨y157, hy157⟩ : ∃ y_ : List Int, y_ = (x5_1.set (x19_1 : Int).toNat t155) := ⟨_, rfl⟩; replace H : (nat_Sub.l0 k1 l1 l0 y157 t156 (y150.length : Int) (wrap64 (x19_1 + 1))) = some r := by first | (rw [hy157]; with_reducible exact H) | (have H2_ := (Option.bind_some _ _).symm.trans H; rw [hy157]; with_reducible exact H2_) | (have H2_ := (Option.bind_some _ _).symm.trans H; with_reducible exact H2_) | with_reducible exact H | (rw [hy157]; exact H) | exact H
          have Ny157 := Aside0.mk hy157; clear hy157; have H' := Aside0.mk H; clear H; (try go_wp2); replace Q0 := Aside0.mk (Kd.R_drew Q0.out); replace HB := Aside0.mk (below_drew1 HB.out); have p153 : 0 ≤ (x19_1 : Int) := of_decide_eq_true (by first | (with_reducible assumption) | assumption); have q153 : x19_1 < (l1.length : Int) := of_decide_eq_true (by first | (with_reducible assumption) | assumption); obtain ⟨ad153, e153, hx153_0⟩ := Kd.at_int R1.out x19_1 p153 q153; have hw153_0 := hx153_0; cases e153
          replace hx153_0 := (HB.out.cell (World.block_lt_of_cell? w _ hx153_0)).trans hx153_0; replace p153 := eq_true p153; replace q153 := eq_true q153; refine start_ (n := 17) (S := fun w' => w'.cell? (ad153.add (x19_1).toNat) = some (.int .u64 (rd l1 x19_1))) (ds := [15]) #[false, false, false, false, false, false, false, false, false, false, false, false, false, false, false, false, false] (by kernel_rfl) rfl rfl (((HB.out.cell (World.block_lt_of_cell? w _ hw153_0)).trans hw153_0)) (fun hHeld => ?_); refine with_tabW nat_Sub.tab8 nat_Sub.bits8 (fun HT_ HW_ => ?_); generalize wr.drew = w18 at Q0 HB hx153_0 hHeld ⊢; refine pure_ (i := 0) (N := some 23) (v := ?_) (a' := ?_) #[true, false, false, false, false, false, false, false, false, false, false, false, false, false, false, false, false] rfl rfl (any_of HT_.out (by kernel_rfl)) (fun _ _ _ h => h) (Or.inl ⟨by rfl, ?_⟩) ?_ ?_; rotate_left
          ·
           intro w'
           go_simp; with_reducible rfl
          rotate_left
          ·
           simp only [sp_]; rfl
          refine pure_ (i := 1) (N := some 24) (v := ?_) (a' := ?_) #[true, true, false, false, false, false, false, false, false, false, false, false, false, false, false, false, false] rfl rfl (any_of HT_.out (by kernel_rfl)) (fun _ _ _ h => h) (Or.inl ⟨by rfl, ?_⟩) ?_ ?_; rotate_left
          ·
           intro w'
           go_simp; with_reducible rfl
          rotate_left
          ·
           simp only [sp_]; rfl
          refine pure_ (i := 2) (N := some 25) (v := ?_) (a' := ?_) #[true, true, true, false, false, false, false, false, false, false, false, false, false, false, false, false, false] rfl rfl (any_of HT_.out (by kernel_rfl)) (fun _ _ _ h => h) (Or.inl ⟨by rfl, ?_⟩) ?_ ?_; rotate_left
          ·
           intro w'
           go_simp; with_reducible rfl
          rotate_left
          ·
           simp only [sp_]; rfl
          refine pure_ (i := 3) (N := some 26) (v := ?_) (a' := ?_) #[true, true, true, true, false, false, false, false, false, false, false, false, false, false, false, false, false] rfl rfl (any_of HT_.out (by kernel_rfl)) (fun _ _ _ h => h) (Or.inl ⟨by rfl, ?_⟩) ?_ ?_; rotate_left
          ·
           intro w'
           go_simp; with_reducible rfl
          rotate_left
          ·
           simp only [sp_]; rfl
          refine pure_ (i := 4) (N := some 27) (v := ?_) (a' := ?_) #[true, true, true, true, true, false, false, false, false, false, false, false, false, false, false, false, false] rfl rfl (any_of HT_.out (by kernel_rfl)) (fun _ _ _ h => h) (Or.inl ⟨by rfl, ?_⟩) ?_ ?_; rotate_left
          ·
           intro w'
           go_simp; with_reducible rfl
          rotate_left
          ·
           simp only [sp_]; rfl
          refine pure_ (i := 6) (N := some 29) (v := ?_) (a' := ?_) #[true, true, true, true, true, false, true, false, false, false, false, false, false, false, false, false, false] rfl rfl (any_of HT_.out (by kernel_rfl)) (fun _ _ _ h => h) (Or.inl ⟨by rfl, ?_⟩) ?_ ?_; rotate_left
          ·
           intro w'
           go_simp; with_reducible rfl
          rotate_left
          ·
           simp only [sp_]; rfl
          refine pure_ (i := 7) (N := some 30) (v := ?_) (a' := ?_) #[true, true, true, true, true, false, true, true, false, false, false, false, false, false, false, false, false] rfl rfl (any_of HT_.out (by kernel_rfl)) (fun _ _ _ h => h) (Or.inl ⟨by rfl, ?_⟩) ?_ ?_; rotate_left
          ·
           intro w'
           go_simp; with_reducible rfl
          rotate_left
          ·
           simp only [sp_]; rfl
          refine pure_ (i := 9) (N := some 32) (v := ?_) (a' := ?_) #[true, true, true, true, true, false, true, true, false, true, false, false, false, false, false, false, false] rfl rfl (any_of HT_.out (by kernel_rfl)) (fun _ _ _ h => h) (Or.inl ⟨by rfl, ?_⟩) ?_ ?_; rotate_left
          ·
           intro w'
           go_simp; with_reducible rfl
          rotate_left
          ·
           simp only [sp_]; rfl
          refine take_ (i := 5) (N := some 28) (v := ?_) (a' := ?_) #[true, true, true, true, true, true, true, true, false, true, false, false, false, false, false, false, false] rfl rfl (take_ofW HT_.out HW_.out (by kernel_rfl)) (fun _ _ _ h => h) (Or.inl ⟨by rfl, ?_⟩) hHeld ?_ ?_; rotate_left
          ·
           intro w' s0
           go_simp; with_reducible rfl
          rotate_left
          ·
           simp only [sp_]; rfl
          refine one_ (i := 8) (N := some 31) #[true, true, true, true, true, true, true, true, true, true, false, false, false, false, false, false, false] rfl rfl (one_of HT_.out (by kernel_rfl)) (by decide) (fun K hK => ?_); refine goes_ Tryd.func69 (by kernel_rfl) rfl #[.slice A0 l0.length c0, .int .i64 x19_1] (by rfl) rfl rfl (by (try simp only [List.map_toArray, List.map_cons, List.map_nil]); first | done | rfl | (simp only [List.length_drop, List.length_take]; rfl)) ?_; with_reducible refine (nat_at.calls _ _ l0 x19_1 t154 _ ?side1 ?side2 A14.out).mono ?_
          (case side1 => exact cl_ (Kd.C_below R0.out HB.out)); (case side2 => exact C0.out); rintro e w' ⟨rfl, ⟨nd, rfl⟩⟩; refine ⟨_, rfl, ?_⟩; refine hK.out _ _ (((HB.out.cell (World.block_lt_of_cell? w _ hw153_0)).trans hw153_0)) (fun hHeld => ?_); clear hK K; refine norm_ (a' := ?_) ?_ ?_; rotate_left
          ·
           show Act.put _ (some 31) _ = _
           simp only [sp_]; rfl
          refine one_ (i := 10) (N := some 33) #[true, true, true, true, true, true, true, true, true, true, true, false, false, false, false, false, false] rfl rfl (one_of HT_.out (by kernel_rfl)) (by decide) (fun K hK => ?_); refine goesXS_ #[.int .u64 (rd l1 x19_1), .int .u64 t154, .int .u64 x6_1] (by rfl) rfl rfl (by (try simp only [List.map_toArray, List.map_cons, List.map_nil]); first | done | rfl) ?_; with_reducible refine (bits_Sub64.calls (rd l1 x19_1) t154 x6_1 t155 t156 _ A15.out).mono ?_
          rintro e w' ⟨rfl, ⟨nd, rfl⟩⟩; refine ⟨_, rfl, ?_⟩; have p17 : 0 ≤ (x19_1 : Int) := of_decide_eq_true (by first | (with_reducible assumption) | assumption); have q17 : (x19_1 : Int) < ((x5_1.length : Int) : Int) := of_decide_eq_true (by first | (with_reducible assumption) | assumption); obtain ⟨go17, c7, e0, g0, gl17, cl17, HG17⟩ := Kd.R_form Q0.out (by omega); (first | cases e0 | (injection e0 with ea_ en_ ec_; (first | subst ea_ | (injection ea_ with ea_; subst ea_)); subst ec_; clear en_)); have GB17 := Aside0.mk g0; have GG17 := Aside0.mk HG17; clear g0 gl17 HG17; obtain ⟨hx17_0, hf17_0⟩ := Kd.R_celln 0 Q0.out (x19_1 : Int) p17 q17; replace p17 := eq_true p17; replace q17 := eq_true q17; have HP19 := Kd.R_putn Q0.out (x19_1 : Int) t155; rw [← Ny157.out] at HP19; have HQ19 := Aside0.mk HP19; clear HP19; refine hK.out _ _ (((HB.out.cell (World.block_lt_of_cell? w _ hw153_0)).trans hw153_0)) (fun hHeld => ?_); clear hK K; refine norm_ (a' := ?_) ?_ ?_; rotate_left
          ·
           show Act.put _ (some 33) _ = _
           simp only [sp_]; rfl
          refine pure_ (i := 11) (N := some 22) (v := ?_) (a' := ?_) #[true, true, true, true, true, true, true, true, true, true, true, true, false, false, false, false, false] rfl rfl (any_of HT_.out (by kernel_rfl)) (fun _ _ _ h => h) (Or.inl ⟨by rfl, ?_⟩) ?_ ?_; rotate_left
          ·
           intro w'
           go_simp; with_reducible rfl
          rotate_left
          ·
           simp only [sp_]; rfl
          refine pure_ (i := 12) (N := some 34) (v := ?_) (a' := ?_) #[true, true, true, true, true, true, true, true, true, true, true, true, true, false, false, false, false] rfl rfl (any_of HT_.out (by kernel_rfl)) (fun _ _ _ h => h) (Or.inl ⟨by rfl, ?_⟩) ?_ ?_; rotate_left
          ·
           intro w'
           go_simp; with_reducible rfl
          rotate_left
          ·
           simp only [sp_]; rfl
          refine pure_ (i := 13) (N := some 35) (v := ?_) (a' := ?_) #[true, true, true, true, true, true, true, true, true, true, true, true, true, true, false, false, false] rfl rfl (any_of HT_.out (by kernel_rfl)) (fun _ _ _ h => h) (Or.inl ⟨by rfl, ?_⟩) ?_ ?_; rotate_left
          ·
           intro w'
           go_simp; with_reducible rfl
          rotate_left
          ·
           simp only [sp_]; rfl
          refine pure_ (i := 14) (N := some 36) (v := ?_) (a' := ?_) #[true, true, true, true, true, true, true, true, true, true, true, true, true, true, true, false, false] rfl rfl (any_of HT_.out (by kernel_rfl)) (fun _ _ _ h => h) (Or.inl ⟨by rfl, ?_⟩) ?_ ?_; rotate_left
          ·
           intro w'
           go_simp; with_reducible rfl
          rotate_left
          ·
           simp only [sp_]; rfl
          refine last_ (i := 15) (N := none) #[true, true, true, true, true, true, true, true, true, true, true, true, true, true, true, true, false] rfl rfl (one_of HT_.out (by kernel_rfl)) (by decide) (fun K hK => ?_); refine skip_ (w1 := ?_) (by rfl) rfl ?_ ?_; rotate_left
          ·
           go_simp; rfl
          refine hK.out _ _ ?_; clear hK K; refine pure_ (i := 16) (N := some 6) (v := ?_) (a' := ?_) #[true, true, true, true, true, true, true, true, true, true, true, true, true, true, true, true, true] rfl rfl (any_of HT_.out (by kernel_rfl)) (fun _ _ _ h => h) (Or.inl ⟨by rfl, ?_⟩) ?_ ?_; rotate_left
          ·
           intro w'
           go_simp; with_reducible rfl
          rotate_left
          ·
           simp only [sp_]; rfl
          refine done_ (done_of HT_.out (by kernel_rfl)) ?_; (try go_wp2); (try simp only [← hl5_1]); go_roundg k1; case measure => have := HK1.out; omega
          case rel => exact ⟨(y157), (t156), (wrap64 (x19_1 + 1)), rf_, rf_, H', ⟨by have := HK1.out; omega⟩, ⟨by (try simp only [hl5_1]); refine rz_ ?_; exact HQ19.out⟩, ⟨bw_ HB⟩⟩
         rw [if_neg c16] at H; exact absurd H (by simp)
        rw [if_neg c13] at H; exact absurd H (by simp)
       rw [if_neg c12] at H; exact absurd H (by simp)
      rw [if_neg c11] at H; have c11b0 := decide_eq_false c11; (try simp only [hl5_1] at c11b0); clear c11; replace H := bo_ H; obtain ⟨t158, A20, H⟩ := H; (try dsimp only at H); by_cases c21 : 0 ≤ t158
      ·
       rw [if_pos c21] at H; have c21b0 := eq_true c21; have c21b1 := decide_eq_true c21; (try simp only [hl5_1] at c21b1); clear c21; by_cases c22 : t158 ≤ (x5_1.length : Int)
       ·
        rw [if_pos c22] at H; have c22b0 := eq_true c22; have c22b1 := decide_eq_true c22; (try simp only [hl5_1] at c22b1); clear c22; obtain ⟨y159, hy159⟩ : ∃ y_ : List Int, y_ = (x5_1.take (t158 : Int).toNat) := ⟨_, rfl⟩; replace H : (some y159) = some r := by first | (rw [hy159]; with_reducible exact H) | (have H2_ := (Option.bind_some _ _).symm.trans H; rw [hy159]; with_reducible exact H2_) | (have H2_ := (Option.bind_some _ _).symm.trans H; with_reducible exact H2_) | with_reducible exact H | (rw [hy159]; exact H) | exact H
        have Ny159 := Aside0.mk hy159; clear hy159; obtain rfl := Option.some.inj H; go_wp2_with (first | ((with_reducible refine gate_callee (f := 59) rfl ?_); refine gl_ (some 40) rfl rfl Tryd.func59 (by kernel_rfl) rfl #[.slice a0 x5_1.length c2] rfl ?_; (with_reducible refine (nat_size.calls k1 _ _ x5_1 t158 _ ?side1 ?side2 A20.out).mono ?_); (case side1 => repeat (first | exact (Kd.R_reads' Q0.out).2.2 | (with_reducible refine Kd.C_alloc ?_ _) | (with_reducible refine Kd.C_drewN ?_ _) | (with_reducible refine Kd.C_drew ?_))); (case side2 => exact (Kd.R_reads' Q0.out).2.1); rintro e w' ⟨rfl, ⟨nd, rfl⟩⟩; refine ⟨_, rfl, ?_⟩; have q23 : (t158 : Int) ≤ ((x5_1.length : Int) : Int) := of_decide_eq_true (by first | (with_reducible assumption) | assumption); obtain ⟨i023, hi023, _, hsz23, _⟩ := info_parts info34; have hcut23 := cut_to (P := Tryd.prog) 22 34 .i64 Tryd.underlying22 hi023 a0 x5_1.length c2 t158 (of_decide_eq_true (by first | (with_reducible assumption) | assumption)) q23 (Kd.R_reads' Q0.out).2.1; have hr23 := Kd.R_take (m := (t158 : Int).toNat) Q0.out (by omega); have hy23 : y159.length = (t158 : Int).toNat := (by rw [Ny159.out, List.length_take]; omega); rw [← Ny159.out] at hr23; rw [← hy23] at hr23 hcut23; clear hy23 hi023 hsz23 Q0; have O2 := Aside0.mk hr23; clear hr23; replace q23 := eq_true q23)); go_ret; exact ⟨_, er_, rl_ O2, bw_ HB⟩
       rw [if_neg c22] at H; exact absurd H (by simp)
      rw [if_neg c21] at H; exact absurd H (by simp)
   rw [if_neg c6] at H; exact absurd H (by simp)
  rw [if_neg c5] at H; exact absurd H (by simp)
 rw [if_neg c4] at H; have c4b0 := decide_eq_false c4; clear c4; by_cases c24 : 0 ≤ (l0.length : Int)
 ·
  rw [if_pos c24] at H; have c24b0 := eq_true c24; have c24b1 := decide_eq_true c24; clear c24; by_cases c25 : ((l0.length : Int) : Int).toNat ≤ 35184372088832
  ·
   rw [if_pos c25] at H; have c25b0 := eq_true c25; have c25b1 := decide_eq_true c25; clear c25; obtain ⟨y162, hy162⟩ : ∃ y_ : List Int, y_ = (List.replicate ((l0.length : Int) : Int).toNat 0) := ⟨_, rfl⟩; replace H : (nat_Sub.l1 k l0 l1 y162 0 (y162.length : Int) 0) = some r := by first | (rw [hy162]; with_reducible exact H) | (have H2_ := (Option.bind_some _ _).symm.trans H; rw [hy162]; with_reducible exact H2_) | (have H2_ := (Option.bind_some _ _).symm.trans H; with_reducible exact H2_) | with_reducible exact H | (rw [hy162]; exact H) | exact H
   have Ny162 := Aside0.mk hy162; clear hy162; have H' := Aside0.mk H; clear H; go_enter Tryd.func103, Tryd.ntmps103; go_wp2_with (first | ((with_reducible refine gate_callee (f := 76) rfl ?_); refine gl_ (some 10) rfl rfl Tryd.func76 (by kernel_rfl) rfl #[.slice A0 l0.length c0, .slice A1 l1.length c1] rfl ?_; (with_reducible refine (nat_Cmp.calls k _ _ l0 _ _ l1 t149 _ ?side1 ?side2 ?side3 ?side4 A3.out).mono ?_); (case side1 => exact cl_ R0.out); (case side2 => exact C0.out); (case side3 => exact cl_ R1.out); (case side4 => exact C1.out); rintro e w26 ⟨rfl, hb⟩; refine ⟨_, rfl, ?_⟩; replace HB := bs_ HB hb; (try clear hb)) | ((with_reducible refine gate_dst (N := 16) rfl ?_); refine Kd.R_make (Kd.int .u64) _ 34 rfl (N := 16) rfl 22 _ _ rfl (l0.length : Int) rfl rfl Tryd.underlying22 (.int .u64 0) 8 info34 rfl (by decide) (by omega) 0 (ok := fun _ => True) (okp := fun _ => True) rfl (fun _ hk => hk) trivial (of_decide_eq_true (by first | (with_reducible assumption) | assumption)) (Nat.le_trans (Nat.mul_le_mul_right _ (of_decide_eq_true (by first | (with_reducible assumption) | assumption) : (l0.length : Int).toNat ≤ 35184372088832)) (by omega)) (Below.refl _ _) (Nat.le_refl _) ?_; intro v163 w27 ho28 hb hg_ hnew_; clear hg_ hnew_; (first | rw [← Ny162.out] at ho28 | (simp only [Int.reduceToNat] at ho28; rw [← Ny162.out] at ho28)); have O1 := Aside0.mk (Kd.R_lower ho28 (below_size (bw_ HB))); replace HB := bs_ HB hb; clear hb ho28; obtain ⟨a1, c3, e3⟩ := Kd.R_slice O1.out; subst e3)); go_loopg [6, 19] k (fun kq v6 v19 w' => ∃ (x5_1 : List Int) (x6_1 : Int) (x19_1 : Int), v6 = .int .u64 x6_1 ∧ v19 = .int .i64 x19_1 ∧ Aside0 (nat_Sub.l1 kq l0 l1 x5_1 x6_1 (y162.length : Int) x19_1 = some r) ∧ Aside0 (kq ≤ k) ∧ Aside0 (Kd.R (Kd.int .u64) 34 w' w.heap.size (fun _ => True) (.slice a1 y162.length c3) x5_1) ∧ Aside0 (Below w.heap.size w w')); case atStart => exact ⟨(y162), (0), (0), rf_, rf_, H', ⟨Nat.le_refl _⟩, ⟨rl_ O1⟩, ⟨bw_ HB⟩⟩
   case round =>
    clear H'; (try clear c1); (try clear c4); (try clear c4b0); (try clear c24); (try clear c24b0); (try clear c24b1); (try clear c25); (try clear c25b0); (try clear c25b1); obtain ⟨x5_1, x6_1, x19_1, rfl, rfl, HA, HK1, Q0, HB⟩ := hrel; have hl5_1 := (Kd.R_reads' Q0.out).1; rw [hl5_1] at Q0; (try simp only [hl5_1]); cases gk with
    | zero => exact absurd HA.out (by simp [nat_Sub.l1])
    | succ k1 =>
     have H := HA.out; clear HA; simp only [nat_Sub.l1] at H; by_cases c30 : x19_1 < (y162.length : Int)
     ·
      rw [if_pos c30] at H; have c30b0 := decide_eq_true c30; (try simp only [hl5_1] at c30b0); clear c30; by_cases c31 : 0 ≤ x19_1
      ·
       rw [if_pos c31] at H; have c31b0 := decide_eq_true c31; (try simp only [hl5_1] at c31b0); clear c31; by_cases c32 : x19_1 < (l0.length : Int)
       ·
        rw [if_pos c32] at H; have c32b0 := decide_eq_true c32; (try simp only [hl5_1] at c32b0); clear c32; replace H := bo_ H; obtain ⟨t166, A33, H⟩ := H; (try dsimp only at H); replace H := bo_ H; obtain ⟨⟨t167, t168⟩, A34, H⟩ := H; (try dsimp only at H); by_cases c35 : x19_1 < (x5_1.length : Int)
        ·
         rw [if_pos c35] at H; have c35b0 := decide_eq_true c35; (try simp only [hl5_1] at c35b0); clear c35; obtain ⟨y169, hy169⟩ : ∃ y_ : List Int, y_ = (x5_1.set (x19_1 : Int).toNat t167) := ⟨_, rfl⟩; replace H : (nat_Sub.l1 k1 l0 l1 y169 t168 (y162.length : Int) (wrap64 (x19_1 + 1))) = some r := by first | (rw [hy169]; with_reducible exact H) | (have H2_ := (Option.bind_some _ _).symm.trans H; rw [hy169]; with_reducible exact H2_) | (have H2_ := (Option.bind_some _ _).symm.trans H; with_reducible exact H2_) | with_reducible exact H | (rw [hy169]; exact H) | exact H
         have Ny169 := Aside0.mk hy169; clear hy169; have H' := Aside0.mk H; clear H; (try go_wp2); replace Q0 := Aside0.mk (Kd.R_drew Q0.out); replace HB := Aside0.mk (below_drew1 HB.out); have p165 : 0 ≤ (x19_1 : Int) := of_decide_eq_true (by first | (with_reducible assumption) | assumption); have q165 : x19_1 < (l0.length : Int) := of_decide_eq_true (by first | (with_reducible assumption) | assumption); obtain ⟨ad165, e165, hx165_0⟩ := Kd.at_int R0.out x19_1 p165 q165; have hw165_0 := hx165_0; cases e165
         replace hx165_0 := (HB.out.cell (World.block_lt_of_cell? w _ hx165_0)).trans hx165_0; replace p165 := eq_true p165; replace q165 := eq_true q165; refine start_ (n := 17) (S := fun w' => w'.cell? (ad165.add (x19_1).toNat) = some (.int .u64 (rd l0 x19_1))) (ds := [15]) #[false, false, false, false, false, false, false, false, false, false, false, false, false, false, false, false, false] (by kernel_rfl) rfl rfl (((HB.out.cell (World.block_lt_of_cell? w _ hw165_0)).trans hw165_0)) (fun hHeld => ?_); refine with_tabW nat_Sub.tab8 nat_Sub.bits8 (fun HT_ HW_ => ?_); generalize wr.drew = w37 at Q0 HB hx165_0 hHeld ⊢; refine pure_ (i := 0) (N := some 23) (v := ?_) (a' := ?_) #[true, false, false, false, false, false, false, false, false, false, false, false, false, false, false, false, false] rfl rfl (any_of HT_.out (by kernel_rfl)) (fun _ _ _ h => h) (Or.inl ⟨by rfl, ?_⟩) ?_ ?_; rotate_left
         ·
          intro w'
          go_simp; with_reducible rfl
         rotate_left
         ·
          simp only [sp_]; rfl
         refine pure_ (i := 1) (N := some 24) (v := ?_) (a' := ?_) #[true, true, false, false, false, false, false, false, false, false, false, false, false, false, false, false, false] rfl rfl (any_of HT_.out (by kernel_rfl)) (fun _ _ _ h => h) (Or.inl ⟨by rfl, ?_⟩) ?_ ?_; rotate_left
         ·
          intro w'
          go_simp; with_reducible rfl
         rotate_left
         ·
          simp only [sp_]; rfl
         refine pure_ (i := 2) (N := some 25) (v := ?_) (a' := ?_) #[true, true, true, false, false, false, false, false, false, false, false, false, false, false, false, false, false] rfl rfl (any_of HT_.out (by kernel_rfl)) (fun _ _ _ h => h) (Or.inl ⟨by rfl, ?_⟩) ?_ ?_; rotate_left
         ·
          intro w'
          go_simp; with_reducible rfl
         rotate_left
         ·
          simp only [sp_]; rfl
         refine pure_ (i := 3) (N := some 26) (v := ?_) (a' := ?_) #[true, true, true, true, false, false, false, false, false, false, false, false, false, false, false, false, false] rfl rfl (any_of HT_.out (by kernel_rfl)) (fun _ _ _ h => h) (Or.inl ⟨by rfl, ?_⟩) ?_ ?_; rotate_left
         ·
          intro w'
          go_simp; with_reducible rfl
         rotate_left
         ·
          simp only [sp_]; rfl
         refine pure_ (i := 4) (N := some 27) (v := ?_) (a' := ?_) #[true, true, true, true, true, false, false, false, false, false, false, false, false, false, false, false, false] rfl rfl (any_of HT_.out (by kernel_rfl)) (fun _ _ _ h => h) (Or.inl ⟨by rfl, ?_⟩) ?_ ?_; rotate_left
         ·
          intro w'
          go_simp; with_reducible rfl
         rotate_left
         ·
          simp only [sp_]; rfl
         refine pure_ (i := 6) (N := some 29) (v := ?_) (a' := ?_) #[true, true, true, true, true, false, true, false, false, false, false, false, false, false, false, false, false] rfl rfl (any_of HT_.out (by kernel_rfl)) (fun _ _ _ h => h) (Or.inl ⟨by rfl, ?_⟩) ?_ ?_; rotate_left
         ·
          intro w'
          go_simp; with_reducible rfl
         rotate_left
         ·
          simp only [sp_]; rfl
         refine pure_ (i := 7) (N := some 30) (v := ?_) (a' := ?_) #[true, true, true, true, true, false, true, true, false, false, false, false, false, false, false, false, false] rfl rfl (any_of HT_.out (by kernel_rfl)) (fun _ _ _ h => h) (Or.inl ⟨by rfl, ?_⟩) ?_ ?_; rotate_left
         ·
          intro w'
          go_simp; with_reducible rfl
         rotate_left
         ·
          simp only [sp_]; rfl
         refine pure_ (i := 9) (N := some 32) (v := ?_) (a' := ?_) #[true, true, true, true, true, false, true, true, false, true, false, false, false, false, false, false, false] rfl rfl (any_of HT_.out (by kernel_rfl)) (fun _ _ _ h => h) (Or.inl ⟨by rfl, ?_⟩) ?_ ?_; rotate_left
         ·
          intro w'
          go_simp; with_reducible rfl
         rotate_left
         ·
          simp only [sp_]; rfl
         refine take_ (i := 5) (N := some 28) (v := ?_) (a' := ?_) #[true, true, true, true, true, true, true, true, false, true, false, false, false, false, false, false, false] rfl rfl (take_ofW HT_.out HW_.out (by kernel_rfl)) (fun _ _ _ h => h) (Or.inl ⟨by rfl, ?_⟩) hHeld ?_ ?_; rotate_left
         ·
          intro w' s0
          go_simp; with_reducible rfl
         rotate_left
         ·
          simp only [sp_]; rfl
         refine one_ (i := 8) (N := some 31) #[true, true, true, true, true, true, true, true, true, true, false, false, false, false, false, false, false] rfl rfl (one_of HT_.out (by kernel_rfl)) (by decide) (fun K hK => ?_); refine goes_ Tryd.func69 (by kernel_rfl) rfl #[.slice A1 l1.length c1, .int .i64 x19_1] (by rfl) rfl rfl (by (try simp only [List.map_toArray, List.map_cons, List.map_nil]); first | done | rfl | (simp only [List.length_drop, List.length_take]; rfl)) ?_; with_reducible refine (nat_at.calls _ _ l1 x19_1 t166 _ ?side1 ?side2 A33.out).mono ?_
         (case side1 => exact cl_ (Kd.C_below R1.out HB.out)); (case side2 => exact C1.out); rintro e w' ⟨rfl, ⟨nd, rfl⟩⟩; refine ⟨_, rfl, ?_⟩; refine hK.out _ _ (((HB.out.cell (World.block_lt_of_cell? w _ hw165_0)).trans hw165_0)) (fun hHeld => ?_); clear hK K; refine norm_ (a' := ?_) ?_ ?_; rotate_left
         ·
          show Act.put _ (some 31) _ = _
          simp only [sp_]; rfl
         refine one_ (i := 10) (N := some 33) #[true, true, true, true, true, true, true, true, true, true, true, false, false, false, false, false, false] rfl rfl (one_of HT_.out (by kernel_rfl)) (by decide) (fun K hK => ?_); refine goesXS_ #[.int .u64 (rd l0 x19_1), .int .u64 t166, .int .u64 x6_1] (by rfl) rfl rfl (by (try simp only [List.map_toArray, List.map_cons, List.map_nil]); first | done | rfl) ?_; with_reducible refine (bits_Sub64.calls (rd l0 x19_1) t166 x6_1 t167 t168 _ A34.out).mono ?_
         rintro e w' ⟨rfl, ⟨nd, rfl⟩⟩; refine ⟨_, rfl, ?_⟩; have p36 : 0 ≤ (x19_1 : Int) := of_decide_eq_true (by first | (with_reducible assumption) | assumption); have q36 : (x19_1 : Int) < ((x5_1.length : Int) : Int) := of_decide_eq_true (by first | (with_reducible assumption) | assumption); obtain ⟨go36, c8, e1, g1, gl36, cl36, HG36⟩ := Kd.R_form Q0.out (by omega); (first | cases e1 | (injection e1 with ea_ en_ ec_; (first | subst ea_ | (injection ea_ with ea_; subst ea_)); subst ec_; clear en_)); have GB36 := Aside0.mk g1; have GG36 := Aside0.mk HG36; clear g1 gl36 HG36; obtain ⟨hx36_0, hf36_0⟩ := Kd.R_celln 0 Q0.out (x19_1 : Int) p36 q36; replace p36 := eq_true p36; replace q36 := eq_true q36; have HP38 := Kd.R_putn Q0.out (x19_1 : Int) t167; rw [← Ny169.out] at HP38; have HQ38 := Aside0.mk HP38; clear HP38; refine hK.out _ _ (((HB.out.cell (World.block_lt_of_cell? w _ hw165_0)).trans hw165_0)) (fun hHeld => ?_); clear hK K; refine norm_ (a' := ?_) ?_ ?_; rotate_left
         ·
          show Act.put _ (some 33) _ = _
          simp only [sp_]; rfl
         refine pure_ (i := 11) (N := some 22) (v := ?_) (a' := ?_) #[true, true, true, true, true, true, true, true, true, true, true, true, false, false, false, false, false] rfl rfl (any_of HT_.out (by kernel_rfl)) (fun _ _ _ h => h) (Or.inl ⟨by rfl, ?_⟩) ?_ ?_; rotate_left
         ·
          intro w'
          go_simp; with_reducible rfl
         rotate_left
         ·
          simp only [sp_]; rfl
         refine pure_ (i := 12) (N := some 34) (v := ?_) (a' := ?_) #[true, true, true, true, true, true, true, true, true, true, true, true, true, false, false, false, false] rfl rfl (any_of HT_.out (by kernel_rfl)) (fun _ _ _ h => h) (Or.inl ⟨by rfl, ?_⟩) ?_ ?_; rotate_left
         ·
          intro w'
          go_simp; with_reducible rfl
         rotate_left
         ·
          simp only [sp_]; rfl
         refine pure_ (i := 13) (N := some 35) (v := ?_) (a' := ?_) #[true, true, true, true, true, true, true, true, true, true, true, true, true, true, false, false, false] rfl rfl (any_of HT_.out (by kernel_rfl)) (fun _ _ _ h => h) (Or.inl ⟨by rfl, ?_⟩) ?_ ?_; rotate_left
         ·
          intro w'
          go_simp; with_reducible rfl
         rotate_left
         ·
          simp only [sp_]; rfl
         refine pure_ (i := 14) (N := some 36) (v := ?_) (a' := ?_) #[true, true, true, true, true, true, true, true, true, true, true, true, true, true, true, false, false] rfl rfl (any_of HT_.out (by kernel_rfl)) (fun _ _ _ h => h) (Or.inl ⟨by rfl, ?_⟩) ?_ ?_; rotate_left
         ·
          intro w'
          go_simp; with_reducible rfl
         rotate_left
         ·
          simp only [sp_]; rfl
         refine last_ (i := 15) (N := none) #[true, true, true, true, true, true, true, true, true, true, true, true, true, true, true, true, false] rfl rfl (one_of HT_.out (by kernel_rfl)) (by decide) (fun K hK => ?_); refine skip_ (w1 := ?_) (by rfl) rfl ?_ ?_; rotate_left
         ·
          go_simp; rfl
         refine hK.out _ _ ?_; clear hK K; refine pure_ (i := 16) (N := some 6) (v := ?_) (a' := ?_) #[true, true, true, true, true, true, true, true, true, true, true, true, true, true, true, true, true] rfl rfl (any_of HT_.out (by kernel_rfl)) (fun _ _ _ h => h) (Or.inl ⟨by rfl, ?_⟩) ?_ ?_; rotate_left
         ·
          intro w'
          go_simp; with_reducible rfl
         rotate_left
         ·
          simp only [sp_]; rfl
         refine done_ (done_of HT_.out (by kernel_rfl)) ?_; (try go_wp2); (try simp only [← hl5_1]); go_roundg k1; case measure => have := HK1.out; omega
         case rel => exact ⟨(y169), (t168), (wrap64 (x19_1 + 1)), rf_, rf_, H', ⟨by have := HK1.out; omega⟩, ⟨by (try simp only [hl5_1]); refine rz_ ?_; exact HQ38.out⟩, ⟨bw_ HB⟩⟩
        rw [if_neg c35] at H; exact absurd H (by simp)
       rw [if_neg c32] at H; exact absurd H (by simp)
      rw [if_neg c31] at H; exact absurd H (by simp)
     rw [if_neg c30] at H; have c30b0 := decide_eq_false c30; (try simp only [hl5_1] at c30b0); clear c30; replace H := bo_ H; obtain ⟨t170, A39, H⟩ := H; (try dsimp only at H); by_cases c40 : 0 ≤ t170
     ·
      rw [if_pos c40] at H; have c40b0 := eq_true c40; have c40b1 := decide_eq_true c40; (try simp only [hl5_1] at c40b1); clear c40; by_cases c41 : t170 ≤ (x5_1.length : Int)
      ·
       rw [if_pos c41] at H; have c41b0 := eq_true c41; have c41b1 := decide_eq_true c41; (try simp only [hl5_1] at c41b1); clear c41; obtain ⟨y171, hy171⟩ : ∃ y_ : List Int, y_ = (x5_1.take (t170 : Int).toNat) := ⟨_, rfl⟩; replace H : (some y171) = some r := by first | (rw [hy171]; with_reducible exact H) | (have H2_ := (Option.bind_some _ _).symm.trans H; rw [hy171]; with_reducible exact H2_) | (have H2_ := (Option.bind_some _ _).symm.trans H; with_reducible exact H2_) | with_reducible exact H | (rw [hy171]; exact H) | exact H
       have Ny171 := Aside0.mk hy171; clear hy171; obtain rfl := Option.some.inj H; go_wp2_with (first | ((with_reducible refine gate_callee (f := 59) rfl ?_); refine gl_ (some 40) rfl rfl Tryd.func59 (by kernel_rfl) rfl #[.slice a1 x5_1.length c3] rfl ?_; (with_reducible refine (nat_size.calls k1 _ _ x5_1 t170 _ ?side1 ?side2 A39.out).mono ?_); (case side1 => repeat (first | exact (Kd.R_reads' Q0.out).2.2 | (with_reducible refine Kd.C_alloc ?_ _) | (with_reducible refine Kd.C_drewN ?_ _) | (with_reducible refine Kd.C_drew ?_))); (case side2 => exact (Kd.R_reads' Q0.out).2.1); rintro e w' ⟨rfl, ⟨nd, rfl⟩⟩; refine ⟨_, rfl, ?_⟩; have q42 : (t170 : Int) ≤ ((x5_1.length : Int) : Int) := of_decide_eq_true (by first | (with_reducible assumption) | assumption); obtain ⟨i042, hi042, _, hsz42, _⟩ := info_parts info34; have hcut42 := cut_to (P := Tryd.prog) 22 34 .i64 Tryd.underlying22 hi042 a1 x5_1.length c3 t170 (of_decide_eq_true (by first | (with_reducible assumption) | assumption)) q42 (Kd.R_reads' Q0.out).2.1; have hr42 := Kd.R_take (m := (t170 : Int).toNat) Q0.out (by omega); have hy42 : y171.length = (t170 : Int).toNat := (by rw [Ny171.out, List.length_take]; omega); rw [← Ny171.out] at hr42; rw [← hy42] at hr42 hcut42; clear hy42 hi042 hsz42 Q0; have O3 := Aside0.mk hr42; clear hr42; replace q42 := eq_true q42)); go_ret; exact ⟨_, er_, rl_ O3, bw_ HB⟩
      rw [if_neg c41] at H; exact absurd H (by simp)
     rw [if_neg c40] at H; exact absurd H (by simp)
  rw [if_neg c25] at H; exact absurd H (by simp)
 rw [if_neg c24] at H; exact absurd H (by simp)
end Go.Proofs.YtjgdpjbkmcjbcaaDoor.PG
