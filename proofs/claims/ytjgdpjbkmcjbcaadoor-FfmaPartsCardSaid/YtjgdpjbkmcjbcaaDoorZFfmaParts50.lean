/- Parts of a proof. -/
import Derived.Test.YtjgdpjbkmcjbcaaDoorZFfmaParts49
import Derived.Test.YtjgdpjbkmcjbcaaDoorZFfmaParts44
section
namespace Go.Proofs.YtjgdpjbkmcjbcaaDoor.PG
open Go.RowKit Go.Proofs.YtjgdpjbkmcjbcaaDoorW.PrintWords Go.Proofs.YtjgdpjbkmcjbcaaDoorW.PrintLast Go.Proofs.YtjgdpjbkmcjbcaaDoorW.PrintMore Go.Proofs.YtjgdpjbkmcjbcaaDoor.Num Go.Proofs.YtjgdpjbkmcjbcaaDoor.Flt
set_option linter.unusedVariables false
set_option linter.unusedSimpArgs false
theorem few_loop {b : List Int} {D : Int} {nb : Nat} (hb : Nd b D nb) (hD : 0 < D) (hnb : nb ≤ 100000000) : ∀ (j : Nat) (a : List Int) (A q : Int) (na : Nat), j ≤ 60 → Nd a A na → na ≤ 100000000 → A < 2 ^ j * D → 0 ≤ q → (q + 1) * 2 ^ j ≤ 1152921504606846976 →
  Ev (fun k => vernierref01_Few.l0 k a b q ((j : Int) - 1)) (q * 2 ^ j + A / D, dg 65536 (A % D))
 | 0, a, A, q, na, hj, ha, hna, hlt, hq, hq' => by
  have h0 := ha.nonneg
  have hlt' : A < D := by rw [Int.pow_zero, Int.one_mul] at hlt; exact hlt
  rw [Int.ediv_eq_zero_of_lt h0 hlt', Int.emod_eq_of_lt h0 hlt', ← ha.eq, Int.pow_zero, Int.mul_one, Int.add_zero]
  refine Ev.step (f := fun _ => some (q, a)) (fun k => ?_) (Ev.now _)
  simp only [vernierref01_Few.l0]
  rw [if_neg (by omega)]
 | j + 1, a, A, q, na, hj, ha, hna, hlt, hq, hq' => by
  have h0 := ha.nonneg
  obtain ⟨e1, n1⟩ := hb.shl j (by omega) (by omega)
  have e2 := ha.cmp n1 (by omega) (by omega)
  have hp := two_pow_pos j
  have hS : 0 < 2 ^ j * D := Int.mul_pos hp hD
  have ej : ((j + 1 : Nat) : Int) - 1 = (j : Int) := by omega
  rw [Int.pow_succ] at hlt hq' ⊢
  have hqj : (q + 1) * 2 ^ j * 2 ≤ 1152921504606846976 := by rw [Int.mul_assoc]; exact hq'
  have hq1 : q + 1 ≤ (q + 1) * 2 ^ j := by
   have : (q + 1) * 1 ≤ (q + 1) * 2 ^ j := Int.mul_le_mul_of_nonneg_left (by omega) (by omega)
   omega
  have hq2 : q + 1 ≤ 576460752303423488 := by omega
  have w1 : IntKind.u64.wrap (2 * q) = 2 * q := u64w (by omega) (by omega)
  have w2 : IntKind.u64.wrap (2 * q + 1) = 2 * q + 1 := u64w (by omega) (by omega)
  have wj : wrap64 ((j : Int) - 1) = (j : Int) - 1 := w64 (by omega) (by omega)
  rw [ej]
  by_cases c : 2 ^ j * D ≤ A
  ·
   obtain ⟨e3, n3⟩ := ha.sub (100000000 + 100) (n1.mono (m := 100000000 + 100) (by omega)) (by omega) (by omega) (by omega)
   have en : (((A - 2 ^ j * D).natAbs : Nat) : Int) = A - 2 ^ j * D := by omega
   rw [en] at e3 n3
   have n4 : Nd (dg 65536 (A - 2 ^ j * D)) (A - 2 ^ j * D) na := ha.dg_le (by omega) (by omega)
   have ih := few_loop hb hD hnb j _ _ (2 * q + 1) na (by omega) n4 hna (by
    have : 2 ^ j * 2 * D = 2 ^ j * D + 2 ^ j * D := by grind
    omega) (by omega) (by
    have : (2 * q + 1 + 1) * 2 ^ j = (q + 1) * 2 ^ j * 2 := by grind
    omega)
   have er : (2 * q + 1) * 2 ^ j + (A - 2 ^ j * D) / D = q * (2 ^ j * 2) + A / D := by
    have : A / D = (A - 2 ^ j * D) / D + 2 ^ j := by
     have := Int.add_mul_ediv_right (A - 2 ^ j * D) (2 ^ j) (show D ≠ 0 by omega)
     rw [← this]
     congr 1
     omega
    rw [this]
    grind
   have em : (A - 2 ^ j * D) % D = A % D := by
    have := Int.add_mul_emod_self_right (A - 2 ^ j * D) (2 ^ j) D
    rw [← this]
    congr 1
    omega
   rw [er, em] at ih
   refine Ev.step (f := fun k => (vernierref01_Shl.f k b (j : Int)).bind fun t => (vernierref01_Cmp.f k a t).bind fun c => if c ≥ 0 then (vernierref01_Sub.f k a t).bind fun s => vernierref01_Few.l0 k s b (2 * q + 1) ((j : Int) - 1) else vernierref01_Few.l0 k a b (2 * q) ((j : Int) - 1)) (fun k => ?_) ?_
   ·
    simp only [vernierref01_Few.l0]
    rw [if_pos (by omega), w1, w2, wj]
   ·
    refine Ev.bind e1 (Ev.bind e2 (Ev.congr (fun k => if_pos ?_) (Ev.bind e3 ih)))
    by_cases hz : sgn (A - 2 ^ j * D) < 0
    ·
     have := sgn_neg_iff.1 hz; omega
    ·
     omega
  ·
   have ih := few_loop hb hD hnb j a A (2 * q) na (by omega) ha hna (by omega) (by omega) (by
    have : (2 * q + 1) * 2 ^ j ≤ (q + 1) * 2 ^ j * 2 := by
     have : (q + 1) * 2 ^ j * 2 = (2 * q + 1) * 2 ^ j + 2 ^ j := by grind
     omega
    omega)
   have er : 2 * q * 2 ^ j + A / D = q * (2 ^ j * 2) + A / D := by grind
   rw [er] at ih
   refine Ev.step (f := fun k => (vernierref01_Shl.f k b (j : Int)).bind fun t => (vernierref01_Cmp.f k a t).bind fun c => if c ≥ 0 then (vernierref01_Sub.f k a t).bind fun s => vernierref01_Few.l0 k s b (2 * q + 1) ((j : Int) - 1) else vernierref01_Few.l0 k a b (2 * q) ((j : Int) - 1)) (fun k => ?_) ?_
   ·
    simp only [vernierref01_Few.l0]
    rw [if_pos (by omega), w1, w2, wj]
   ·
    refine Ev.bind e1 (Ev.bind e2 (Ev.congr (fun k => if_neg ?_) ih))
    have := sgn_neg_iff.2 (show A - 2 ^ j * D < 0 by omega)
    omega
theorem few_ev {a b : List Int} {A D : Int} {na nb : Nat} (ha : Nd a A na) (hb : Nd b D nb) (hD : 0 < D) (hna : na ≤ 100000000) (hnb : nb ≤ 100000000) (hlt : A < up2 60 * D) : Ev (fun k => vernierref01_Few.f k a b) (A / D, dg 65536 (A % D)) := by
 have e60 : up2 60 = 2 ^ 60 := by decide
 have := few_loop hb hD hnb 60 a A 0 na (by omega) ha hna (by rw [← e60]; exact hlt) (by omega) (by decide)
 rw [Int.zero_mul, Int.zero_add] at this
 exact this
theorem rz_some (neg : Bool) : vernierref06_Zero.f neg = some (rzero neg) := by cases neg <;> rfl
theorem rinf_some (neg : Bool) : vernierref06_Inf.f neg = some (rinf neg) := by
 have := rzero_or neg
 unfold vernierref06_Inf.f
 rw [rz_some]
 simp only [Option.bind_some]
 rw [u64w (by omega) (by omega)]
 rfl
theorem big_ev (neg : Bool) (mode : Int) : Ev (fun k => vernierref06_big.f k neg mode) (rover neg mode) := by
 have hr := rinf_range neg
 have ew : IntKind.u64.wrap (rinf neg - 1) = rinf neg - 1 := u64w (by omega) (by omega)
 have t1 : Ev (fun k => vernierref06_big.j0 k neg true) (rinf neg - 1, 20) := Ev.step (f := fun _ => some (rinf neg - 1, 20)) (fun k => by simp only [vernierref06_big.j0]; rw [if_pos trivial, rinf_some]; simp only [Option.bind_some]; rw [ew]) (Ev.now _)
 have t2 : Ev (fun k => vernierref06_big.j0 k neg false) (rinf neg, 20) := Ev.step (f := fun _ => some (rinf neg, 20)) (fun k => by simp only [vernierref06_big.j0]; rw [if_neg (by decide), rinf_some]; rfl) (Ev.now _)
 unfold vernierref06_big.f rover
 by_cases a2 : mode = 2
 ·
  rw [if_pos (.inl a2)]
  exact Ev.congr (fun k => if_pos a2) t1
 ·
  by_cases a3 : mode = 3
  ·
   cases neg
   ·
    rw [if_neg (by simp; omega)]
    exact Ev.congr (fun k => ((if_neg a2).trans (if_pos a3)).trans ((if_neg (by decide)).trans (if_neg (by omega)))) t2
   ·
    rw [if_pos (.inr (.inl ⟨a3, rfl⟩))]
    exact Ev.congr (fun k => ((if_neg a2).trans (if_pos a3)).trans (if_pos rfl)) t1
  ·
   by_cases a4 : mode = 4
   ·
    cases neg
    ·
     rw [if_pos (.inr (.inr ⟨a4, rfl⟩))]
     exact Ev.congr (fun k => ((if_neg a2).trans (if_neg a3)).trans (if_pos a4)) t1
    ·
     rw [if_neg (by simp; omega)]
     exact Ev.congr (fun k => ((if_neg a2).trans (if_neg a3)).trans (if_pos a4)) t2
   ·
    rw [if_neg (by simp [a2, a3, a4])]
    exact Ev.congr (fun k => ((if_neg a2).trans (if_neg a3)).trans (if_neg a4)) t2
theorem Nd.one1 : Nd [1] 1 1 := Nd.one (by decide) (by decide)
theorem shift_ev {l : List Int} {N : Int} {n : Nat} (h : Nd l N n) (hn : n ≤ 1000000) (a : Int) (h0 : -4000000 ≤ a) (h1 : a ≤ 4000000) :
  Ev (fun k => vernierref06_shift.f k l [1] a) (dg 65536 (N * up2 a), dg 65536 (up2 (-a))) ∧ Nd (dg 65536 (N * up2 a)) (N * up2 a) 2000000 ∧ Nd (dg 65536 (up2 (-a))) (up2 (-a)) 2000000 := by
 unfold vernierref06_shift.f
 by_cases c : 0 ≤ a
 ·
  obtain ⟨m, rfl⟩ := Int.eq_ofNat_of_zero_le c
  obtain ⟨e1, n1⟩ := h.shl m (by omega) (by omega)
  have ea : N * up2 (m : Int) = 2 ^ m * N := by rw [up2_nat, Int.mul_comm]
  have eb : up2 (-(m : Int)) = 1 := up2_neg (by omega)
  rw [ea, eb, ← Nd.one1.eq]
  exact ⟨Ev.congr (fun k => if_pos (by omega)) (Ev.bind e1 (Ev.now _)), n1.mono (by omega), Nd.one1.mono (by omega)⟩
 ·
  obtain ⟨m, hm⟩ : ∃ m : Nat, -a = m := ⟨(-a).toNat, by omega⟩
  obtain ⟨e1, n1⟩ := Nd.one1.shl m (by omega) (by omega)
  have ea : N * up2 a = N := by rw [up2_neg (by omega), Int.mul_one]
  have eb : up2 (-a) = 2 ^ m * 1 := by rw [hm, up2_nat, Int.mul_one]
  rw [ea, eb, ← h.eq]
  refine ⟨Ev.congr (fun k => if_neg (by omega)) ?_, h.mono (by omega), n1.mono (by omega)⟩
  rw [w64 (by omega) (by omega), hm]
  exact Ev.bind e1 (Ev.now _)
theorem qx_parts (N x e : Int) : qx N x e = (N * up2 (x - e) / up2 (e - x), decide (up2 (e - x) ≤ 2 * (N * up2 (x - e) % up2 (e - x))), decide (N * up2 (x - e) % up2 (e - x) ≠ 0 ∧ 2 * (N * up2 (x - e) % up2 (e - x)) ≠ up2 (e - x))) := rfl
theorem rtail {l : List Int} {N : Int} {n : Nat} (h : Nd l N n) (hN : 0 < N) (hn : n ≤ 1000000) (neg : Bool) (x mode e t q : Int) (r d : List Int) {R D : Int} (hr : Nd r R 2000000) (hd : Nd d D 2000000) (hR : R < D) (hx : -3000000 ≤ x) (hx' : x ≤ 3000000)
  (he : -1074 ≤ e) (he' : e ≤ 100000) (hq : 0 ≤ q) (hq' : q < 9007199254740992) : Ev (fun k => vernierref06_Round.j2 k neg l [1] x mode e q r d t false)
   (rfin neg e (q, decide (D ≤ 2 * R), decide (R ≠ 0 ∧ 2 * R ≠ D)) (decide (bitsOf N + x - 1 < -1022)) mode) := by
 have hR0 := hr.nonneg
 have hz := rzero_or neg
 obtain ⟨e1, n1, m1⟩ := shift_ev h hn (x + 1022) (by omega) (by omega)
 have e2 := n1.cmp m1 (by omega) (by omega)
 obtain ⟨e3, n3⟩ := hr.shl 1 (by omega) (by omega)
 have e4 := n3.cmp hd (by omega) (by omega)
 rw [show (2 : Int) ^ 1 * R = 2 * R by omega] at e3 e4
 have ht : (sgn (N * up2 (x + 1022) - up2 (-(x + 1022))) < 0) ↔ bitsOf N + x - 1 < -1022 := by
  rw [sgn_neg_iff]
  constructor
  ·
   intro hlt
   by_cases c : bitsOf N + x - 1 < -1022
   ·
    exact c
   ·
    have := ad_ge (N := N) (x := x) (e := -1022) (m := 0) hN (by omega) (by omega)
    rw [up2_neg (a := 0) (by omega), Int.one_mul, show x - -1022 = x + 1022 by omega, show -1022 - x = -(x + 1022) by omega] at this
    omega
  ·
   intro c
   have := ad_lt (N := N) (x := x) (e := -1022) (m := 0) (by omega) (by omega) (by omega)
   rw [up2_neg (a := 0) (by omega), Int.one_mul, show x - -1022 = x + 1022 by omega, show -1022 - x = -(x + 1022) by omega] at this
   omega
 have hlen : ((r.length : Int) > 0) ↔ R ≠ 0 := by
  have := dg_nil (B := 65536) one_lt_D hR0
  rw [← hr.eq] at this
  constructor
  ·
   intro hl hz
   rw [this.2 hz] at hl
   simp at hl
  ·
   intro hz
   have : r ≠ [] := fun e => hz (this.1 e)
   have := List.length_pos_iff.2 this
   omega
 have hh : (sgn (2 * R - D) ≥ 0) ↔ D ≤ 2 * R := by
  constructor
  ·
   intro a
   by_cases c : D ≤ 2 * R
   ·
    exact c
   ·
    have := sgn_neg_iff.2 (show 2 * R - D < 0 by omega); omega
  ·
   intro a
   by_cases c : sgn (2 * R - D) < 0
   ·
    have := sgn_neg_iff.1 c; omega
   ·
    omega
 have hg : (sgn (2 * R - D) > 0) ↔ D < 2 * R := by rw [sgn_pos_iff]; omega
 have hs0 : (sgn (2 * R - D) = 0) ↔ 2 * R = D := by rw [sgn_zero_iff]; omega
 have j7 : ∀ (q2 e2 fl : Int) (b : Bool), 0 ≤ q2 → q2 < 9007199254740992 → -1074 ≤ e2 → (b = true ↔ 4503599627370496 ≤ q2 ∧ 971 < e2) → Ev (fun k => vernierref06_Round.j7 k neg mode e2 q2 fl b) (if 4503599627370496 ≤ q2 ∧ 971 < e2 then rover neg mode else (rput neg q2 e2, fl)) := by
  intro q2 e2 fl b a0 a1 a2 hb
  cases b
  ·
   have hno : ¬ (4503599627370496 ≤ q2 ∧ 971 < e2) := fun h => Bool.false_ne_true (hb.2 h)
   rw [if_neg hno]
   refine Ev.step (f := fun _ => some (rput neg q2 e2, fl)) (fun k => ?_) (Ev.now _)
   simp only [vernierref06_Round.j7]
   rw [if_neg (by decide), rz_some]
   simp only [Option.bind_some]
   unfold rput
   by_cases c : q2 < 4503599627370496
   ·
    rw [if_pos c, if_pos c, u64w (by omega) (by omega)]
   ·
    rw [if_neg c, if_neg c, w64 (by omega) (by omega), u64w (x := e2 + 1075) (by omega) (by omega), u64w (x := (e2 + 1075) * 4503599627370496) (by omega) (by omega), u64w (x := rzero neg + (e2 + 1075) * 4503599627370496) (by omega) (by omega), u64w (x := rzero neg + (e2 + 1075) * 4503599627370496 + q2) (by omega) (by omega), u64w (by omega) (by omega)]
    congr 2
    omega
  ·
   rw [if_pos (hb.1 rfl)]
   refine Ev.step (f := fun k => (vernierref06_big.f k neg mode).bind fun t => some (t.1, t.2)) (fun k => ?_) (Ev.bind (big_ev neg mode) (Ev.now _))
   simp only [vernierref06_Round.j7]
   rw [if_pos trivial]
 have j6 : ∀ (q2 e2 fl : Int), 0 ≤ q2 → q2 < 9007199254740992 → -1074 ≤ e2 → Ev (fun k => vernierref06_Round.j6 k neg mode e2 q2 fl) (if 4503599627370496 ≤ q2 ∧ 971 < e2 then rover neg mode else (rput neg q2 e2, fl)) := by
  intro q2 e2 fl a0 a1 a2
  by_cases c : 4503599627370496 ≤ q2
  ·
   refine Ev.step (f := fun k => vernierref06_Round.j7 k neg mode e2 q2 fl (decide (e2 > 971))) (fun k => ?_) (j7 q2 e2 fl _ a0 a1 a2 ?_)
   ·
    simp only [vernierref06_Round.j6]
    rw [if_pos (by omega)]
   ·
    rw [decide_eq_true_eq]; omega
  ·
   refine Ev.step (f := fun k => vernierref06_Round.j7 k neg mode e2 q2 fl false) (fun k => ?_) (j7 q2 e2 fl _ a0 a1 a2 ?_)
   ·
    simp only [vernierref06_Round.j6]
    rw [if_neg (by omega)]
   ·
    constructor
    ·
     intro h; cases h
    ·
     intro h; omega
 have j5 : ∀ (q1 fl : Int), 0 ≤ q1 → q1 ≤ 9007199254740992 → Ev (fun k => vernierref06_Round.j5 k neg mode e q1 fl)
   (if 4503599627370496 ≤ (if 9007199254740992 ≤ q1 then q1 / 2 else q1) ∧ 971 < (if 9007199254740992 ≤ q1 then e + 1 else e) then rover neg mode else (rput neg (if 9007199254740992 ≤ q1 then q1 / 2 else q1) (if 9007199254740992 ≤ q1 then e + 1 else e), fl)) := by
  intro q1 fl a0 a1
  by_cases c : 9007199254740992 ≤ q1
  ·
   simp only [if_pos c]
   refine Ev.step (f := fun k => vernierref06_Round.j6 k neg mode (e + 1) (q1 / 2) fl) (fun k => ?_) (j6 (q1 / 2) (e + 1) fl (by omega) (by omega) (by omega))
   simp only [vernierref06_Round.j5]
   rw [if_pos (by omega), w64 (by omega) (by omega), tdiv_nn a0, u64w (by omega) (by omega)]
  ·
   simp only [if_neg c]
   refine Ev.step (f := fun k => vernierref06_Round.j6 k neg mode e q1 fl) (fun k => ?_) (j6 q1 e fl (by omega) (by omega) (by omega))
   simp only [vernierref06_Round.j5]
   rw [if_neg (by omega)]
 have j4 : ∀ (q1 : Int) (b : Bool), 0 ≤ q1 → q1 ≤ 9007199254740992 → Ev (fun k => vernierref06_Round.j4 k neg mode e q1 b (decide (sgn (N * up2 (x + 1022) - up2 (-(x + 1022))) < 0)))
   (if 4503599627370496 ≤ (if 9007199254740992 ≤ q1 then q1 / 2 else q1) ∧ 971 < (if 9007199254740992 ≤ q1 then e + 1 else e) then rover neg mode else (rput neg (if 9007199254740992 ≤ q1 then q1 / 2 else q1) (if 9007199254740992 ≤ q1 then e + 1 else e), if b = true then (if decide (bitsOf N + x - 1 < -1022) = true then 24 else 16) else 0)) := by
  intro q1 b a0 a1
  have et : decide (sgn (N * up2 (x + 1022) - up2 (-(x + 1022))) < 0) = decide (bitsOf N + x - 1 < -1022) := decide_eq_decide.2 ht
  rw [et]
  cases b
  ·
   refine Ev.step (f := fun k => vernierref06_Round.j5 k neg mode e q1 0) (fun k => ?_) ?_
   ·
    simp only [vernierref06_Round.j4]
    rw [if_neg (by decide)]
   ·
    have := j5 q1 0 a0 a1
    rwa [if_neg (show ¬ (false = true) by decide)]
  ·
   by_cases c : bitsOf N + x - 1 < -1022
   ·
    refine Ev.step (f := fun k => vernierref06_Round.j5 k neg mode e q1 24) (fun k => ?_) ?_
    ·
     simp only [vernierref06_Round.j4]
     rw [if_pos trivial, if_pos (decide_eq_true c)]
    ·
     have := j5 q1 24 a0 a1
     rwa [if_pos rfl, if_pos (decide_eq_true c)]
   ·
    refine Ev.step (f := fun k => vernierref06_Round.j5 k neg mode e q1 16) (fun k => ?_) ?_
    ·
     simp only [vernierref06_Round.j4]
     rw [if_pos trivial, if_neg (by simp; omega)]
    ·
     have := j5 q1 16 a0 a1
     rwa [if_pos rfl, if_neg (show ¬ (decide (bitsOf N + x - 1 < -1022) = true) by simp; omega)]
 have hx1 : (decide (D ≤ 2 * R) = true ∨ decide (R ≠ 0 ∧ 2 * R ≠ D) = true) ↔ decide ((r.length : Int) > 0) = true := by
  rw [decide_eq_true_eq, decide_eq_true_eq, decide_eq_true_eq, hlen]
  have := hd.nonneg
  omega
 have j3 : ∀ u : Bool, u = rup neg q (decide (D ≤ 2 * R)) (decide (R ≠ 0 ∧ 2 * R ≠ D)) mode → Ev (fun k => vernierref06_Round.j3 k neg mode e q (decide ((r.length : Int) > 0)) (decide (sgn (N * up2 (x + 1022) - up2 (-(x + 1022))) < 0)) u)
   (rfin neg e (q, decide (D ≤ 2 * R), decide (R ≠ 0 ∧ 2 * R ≠ D)) (decide (bitsOf N + x - 1 < -1022)) mode) := by
  intro u hu
  unfold rfin
  simp only
  rw [← hu]
  have ef : (if decide (D ≤ 2 * R) = true ∨ decide (R ≠ 0 ∧ 2 * R ≠ D) = true then (if decide (bitsOf N + x - 1 < -1022) = true then (24 : Int) else 16) else 0) = (if decide ((r.length : Int) > 0) = true then (if decide (bitsOf N + x - 1 < -1022) = true then (24 : Int) else 16) else 0) := by
   by_cases c : decide ((r.length : Int) > 0) = true
   ·
    rw [if_pos c, if_pos (hx1.2 c)]
   ·
    rw [if_neg c, if_neg (fun h => c (hx1.1 h))]
  rw [ef]
  cases u
  ·
   refine Ev.step (f := fun k => vernierref06_Round.j4 k neg mode e q (decide ((r.length : Int) > 0)) (decide (sgn (N * up2 (x + 1022) - up2 (-(x + 1022))) < 0))) (fun k => ?_) ?_
   ·
    simp only [vernierref06_Round.j3]
    rw [if_neg (by decide)]
   ·
    have := j4 q (decide ((r.length : Int) > 0)) hq (by omega)
    rw [if_neg (show ¬ (false = true) by decide)]
    exact this
  ·
   refine Ev.step (f := fun k => vernierref06_Round.j4 k neg mode e (q + 1) (decide ((r.length : Int) > 0)) (decide (sgn (N * up2 (x + 1022) - up2 (-(x + 1022))) < 0))) (fun k => ?_) ?_
   ·
    simp only [vernierref06_Round.j3]
    rw [if_pos trivial, u64w (by omega) (by omega)]
   ·
    have := j4 (q + 1) (decide ((r.length : Int) > 0)) (by omega) (by omega)
    rw [if_pos (show true = true from rfl)]
    exact this
 have w1 : wrap64 (x + 1022) = x + 1022 := w64 (by omega) (by omega)
 refine Ev.step (f := fun k => (vernierref06_shift.f k l [1] (x + 1022)).bind fun bt606 => ((vernierref01_Cmp.f k bt606.1 bt606.2).bind fun t612 => ((vernierref01_Shl.f k r 1).bind fun t613 => ((vernierref01_Cmp.f k t613 d).bind fun t616 =>
  (if mode = 1 then (vernierref06_Round.j3 k neg mode e q (decide ((r.length : Int) > 0)) (decide (t612 < 0)) (decide (t616 ≥ 0))) else (if mode = 2 then (vernierref06_Round.j3 k neg mode e q (decide ((r.length : Int) > 0)) (decide (t612 < 0)) false) else (if mode = 3 then (if (r.length : Int) > 0 then (vernierref06_Round.j3 k neg mode e q (decide ((r.length : Int) > 0)) (decide (t612 < 0)) (!neg)) else (vernierref06_Round.j3 k neg mode e q (decide ((r.length : Int) > 0)) (decide (t612 < 0)) false)) else (if mode = 4 then (if (r.length : Int) > 0 then (vernierref06_Round.j3 k neg mode e q (decide ((r.length : Int) > 0)) (decide (t612 < 0)) neg) else (vernierref06_Round.j3 k neg mode e q (decide ((r.length : Int) > 0)) (decide (t612 < 0)) false)) else (if t616 > 0 then (vernierref06_Round.j3 k neg mode e q (decide ((r.length : Int) > 0)) (decide (t612 < 0)) true) else (if t616 = 0 then (vernierref06_Round.j3 k neg mode e q (decide ((r.length : Int) > 0)) (decide (t612 < 0)) ((Int.tmod q 2) == 1)) else (vernierref06_Round.j3 k neg mode e q (decide ((r.length : Int) > 0)) (decide (t612 < 0)) false))))))))))) (fun k => ?_) ?_
 ·
  simp only [vernierref06_Round.j2]
  rw [if_neg (by decide), w1]
 refine Ev.bind e1 (Ev.bind e2 (Ev.bind e3 (Ev.bind e4 ?_)))
 have lenx : ((r.length : Int) > 0) ↔ (decide (D ≤ 2 * R) || decide (R ≠ 0 ∧ 2 * R ≠ D)) = true := by
  rw [Bool.or_eq_true, hx1, decide_eq_true_eq]
 by_cases a1 : mode = 1
 ·
  refine Ev.congr (fun k => if_pos a1) (j3 _ ?_)
  unfold rup
  rw [if_pos a1]
  exact decide_eq_decide.2 hh
 ·
  by_cases a2 : mode = 2
  ·
   refine Ev.congr (fun k => (if_neg a1).trans (if_pos a2)) (j3 _ ?_)
   unfold rup
   rw [if_neg a1, if_pos a2]
  ·
   by_cases a3 : mode = 3
   ·
    by_cases c : (r.length : Int) > 0
    ·
     refine Ev.congr (fun k => ((if_neg a1).trans (if_neg a2)).trans ((if_pos a3).trans (if_pos c))) (j3 _ ?_)
     unfold rup
     rw [if_neg a1, if_neg a2, if_pos a3, lenx.1 c, Bool.and_true]
    ·
     refine Ev.congr (fun k => ((if_neg a1).trans (if_neg a2)).trans ((if_pos a3).trans (if_neg c))) (j3 _ ?_)
     unfold rup
     rw [if_neg a1, if_neg a2, if_pos a3, Bool.eq_false_iff.2 (fun h => c (lenx.2 h)), Bool.and_false]
   ·
    by_cases a4 : mode = 4
    ·
     by_cases c : (r.length : Int) > 0
     ·
      refine Ev.congr (fun k => (((if_neg a1).trans (if_neg a2)).trans (if_neg a3)).trans ((if_pos a4).trans (if_pos c))) (j3 _ ?_)
      unfold rup
      rw [if_neg a1, if_neg a2, if_neg a3, if_pos a4, lenx.1 c, Bool.and_true]
     ·
      refine Ev.congr (fun k => (((if_neg a1).trans (if_neg a2)).trans (if_neg a3)).trans ((if_pos a4).trans (if_neg c))) (j3 _ ?_)
      unfold rup
      rw [if_neg a1, if_neg a2, if_neg a3, if_pos a4, Bool.eq_false_iff.2 (fun h => c (lenx.2 h)), Bool.and_false]
    ·
     have hrup : ∀ b : Bool, (b = true ↔ (D ≤ 2 * R ∧ ((R ≠ 0 ∧ 2 * R ≠ D) ∨ q % 2 = 1))) → b = rup neg q (decide (D ≤ 2 * R)) (decide (R ≠ 0 ∧ 2 * R ≠ D)) mode := by
      intro b hb
      unfold rup
      rw [if_neg a1, if_neg a2, if_neg a3, if_neg a4, Bool.eq_iff_iff, hb]
      simp only [Bool.and_eq_true, Bool.or_eq_true, decide_eq_true_eq]
     have hD0 := hd.nonneg
     by_cases c : sgn (2 * R - D) > 0
     ·
      refine Ev.congr (fun k => (((if_neg a1).trans (if_neg a2)).trans (if_neg a3)).trans ((if_neg a4).trans (if_pos c))) (j3 _ (hrup _ ?_))
      have := hg.1 c
      simp only [true_iff]
      omega
     ·
      by_cases c2 : sgn (2 * R - D) = 0
      ·
       refine Ev.congr (fun k => (((if_neg a1).trans (if_neg a2)).trans (if_neg a3)).trans ((if_neg a4).trans ((if_neg c).trans (if_pos c2)))) (j3 _ (hrup _ ?_))
       have := hs0.1 c2
       rw [tmod_nn hq, beq_iff_eq]
       omega
      ·
       refine Ev.congr (fun k => (((if_neg a1).trans (if_neg a2)).trans (if_neg a3)).trans ((if_neg a4).trans ((if_neg c).trans (if_neg c2)))) (j3 _ (hrup _ ?_))
       have g1 : ¬ D < 2 * R := fun h => c (hg.2 h)
       have g2 : ¬ 2 * R = D := fun h => c2 (hs0.2 h)
       simp only [Bool.false_eq_true, false_iff]
       omega
theorem rtry {l : List Int} {N : Int} {n : Nat} (h : Nd l N n) (hN : 0 < N) (hn : n ≤ 1000000) (x e : Int) (hx : -3000000 ≤ x) (hx' : x ≤ 3000000) (he : -1074 ≤ e) (he' : e ≤ 100000) (hlo : bitsOf N + x - 55 ≤ e) :
  Ev (fun k => vernierref06_shift.f k l [1] (x - e)) (dg 65536 (N * up2 (x - e)), dg 65536 (up2 (e - x))) ∧ Ev (fun k => vernierref01_Few.f k (dg 65536 (N * up2 (x - e))) (dg 65536 (up2 (e - x)))) (N * up2 (x - e) / up2 (e - x), dg 65536 (N * up2 (x - e) % up2 (e - x))) ∧
   Nd (dg 65536 (N * up2 (x - e) % up2 (e - x))) (N * up2 (x - e) % up2 (e - x)) 2000000 ∧ Nd (dg 65536 (up2 (e - x))) (up2 (e - x)) 2000000 := by
 obtain ⟨e1, n1, m1⟩ := shift_ev h hn (x - e) (by omega) (by omega)
 rw [show -(x - e) = e - x by omega] at e1 m1
 have hD := up2_pos (e - x)
 have hlt := ad_lt (N := N) (x := x) (e := e) (m := 55) (by omega) (by omega) hlo
 have h60 : up2 55 * up2 (e - x) ≤ up2 60 * up2 (e - x) := Int.mul_le_mul_of_nonneg_right (up2_mono (by omega)) (by omega)
 have e2 := few_ev n1 m1 hD (by omega) (by omega) (by omega)
 exact ⟨e1, e2, m1.dg_le (Int.emod_nonneg _ (by omega)) (Int.le_of_lt (Int.emod_lt_of_pos _ hD)), m1⟩
theorem rloop {l : List Int} {N : Int} {n : Nat} (h : Nd l N n) (hN : 0 < N) (hn : n ≤ 1000000) (neg : Bool) (x mode : Int) (hx : -3000000 ≤ x) (hx' : x ≤ 3000000) (hE : rexp (bitsOf N) x ≤ 90000) : ∀ (i : Nat) (e t : Int), e + i = rexp (bitsOf N) x → i ≤ 2 → -1074 ≤ e → 1 ≤ t → t + i < 9 →
  Ev (fun k => vernierref06_Round.l0 k neg l [1] x mode e (N * up2 (x - e) / up2 (e - x)) (dg 65536 (N * up2 (x - e) % up2 (e - x))) (dg 65536 (up2 (e - x))) t) (rnd neg N x mode)
 | 0, e, t, hi, hi2, he, ht, ht2 => by
  have hr := rexp_ge (bitsOf N) x
  obtain rfl : e = rexp (bitsOf N) x := by omega
  obtain ⟨e1, e2, n2, m2⟩ := rtry h hN hn x (rexp (bitsOf N) x) hx hx' (by omega) (by omega) (by omega)
  have hq := qx_lt (N := N) (x := x) (e := rexp (bitsOf N) x) (by omega) (by omega)
  rw [qx_parts] at hq
  simp only at hq
  refine Ev.step (f := fun k => vernierref06_Round.j2 k neg l [1] x mode (rexp (bitsOf N) x) (N * up2 (x - rexp (bitsOf N) x) / up2 (rexp (bitsOf N) x - x)) (dg 65536 (N * up2 (x - rexp (bitsOf N) x) % up2 (rexp (bitsOf N) x - x))) (dg 65536 (up2 (rexp (bitsOf N) x - x))) t false) (fun k => ?_) ?_
  ·
   simp only [vernierref06_Round.l0]
   rw [if_pos (by omega), if_neg (by omega), decide_eq_false (by omega)]
  ·
   have := rtail h hN hn neg x mode (rexp (bitsOf N) x) t _ _ _ n2 m2 (Int.emod_lt_of_pos _ (up2_pos _)) hx hx' (by omega) (by omega) hq.1 hq.2
   exact this
 | i + 1, e, t, hi, hi2, he, ht, ht2 => by
  have hr := rexp_ge (bitsOf N) x
  have hbig : 9007199254740992 ≤ N * up2 (x - e) / up2 (e - x) := Int.le_ediv_of_mul_le (up2_pos _) (ad_ge hN (m := 53) (by omega) (by omega))
  obtain ⟨e1, e2, n2, m2⟩ := rtry h hN hn x (e + 1) hx hx' (by omega) (by omega) (by omega)
  have w1 : wrap64 (e + 1) = e + 1 := w64 (by omega) (by omega)
  have w2 : wrap64 (x - (e + 1)) = x - (e + 1) := w64 (by omega) (by omega)
  have w3 : wrap64 (t + 1) = t + 1 := w64 (by omega) (by omega)
  have ih := rloop h hN hn neg x mode hx hx' hE i (e + 1) (t + 1) (by omega) (by omega) (by omega) (by omega) (by omega)
  generalize N * up2 (x - e) / up2 (e - x) = q at *
  generalize dg 65536 (N * up2 (x - e) % up2 (e - x)) = r at *
  generalize dg 65536 (up2 (e - x)) = d at *
  refine Ev.step (f := fun k => vernierref06_Round.j2 k neg l [1] x mode e q r d t true) (fun k => ?_) ?_
  ·
   simp only [vernierref06_Round.l0]
   rw [if_pos (by omega), if_neg (by omega), decide_eq_true (by omega)]
  ·
   refine Ev.step (f := fun k => (vernierref06_shift.f k l [1] (x - (e + 1))).bind fun bt586 => ((vernierref01_Few.f k bt586.1 bt586.2).bind fun bt592 => (vernierref06_Round.l0 k neg l [1] x mode (e + 1) bt592.1 bt592.2 bt586.2 (t + 1)))) (fun k => ?_) (Ev.bind e1 (Ev.bind e2 ih))
   simp only [vernierref06_Round.j2]
   rw [if_pos trivial, if_pos (by omega), w1, w2, w3]
theorem rj0 {l : List Int} {N : Int} {n : Nat} (h : Nd l N n) (hN : 0 < N) (hn : n ≤ 1000000) (neg : Bool) (x mode e : Int) (hx : -3000000 ≤ x) (hx' : x ≤ 3000000) (hE : rexp (bitsOf N) x ≤ 90000) (he : e = mx (bitsOf N - 1 + x - 54) (-1074)) : Ev (fun k => vernierref06_Round.j0 k neg l [1] x mode e) (rnd neg N x mode) := by
 have hr := rexp_ge (bitsOf N) x
 have he1 : -1074 ≤ e ∧ bitsOf N + x - 55 ≤ e ∧ (e = -1074 ∨ e = bitsOf N + x - 55) := by
  rw [he]
  unfold mx
  split <;> omega
 obtain ⟨i, hi⟩ : ∃ i : Nat, e + i = rexp (bitsOf N) x := ⟨(rexp (bitsOf N) x - e).toNat, by omega⟩
 obtain ⟨e1, e2, n2, m2⟩ := rtry h hN hn x e hx hx' (by omega) (by omega) (by omega)
 have w2 : wrap64 (x - e) = x - e := w64 (by omega) (by omega)
 have w3 : wrap64 (0 + 1) = 1 := (w64 (x := 0 + 1) (by omega) (by omega)).trans (by omega)
 have ih := rloop h hN hn neg x mode hx hx' hE i e 1 hi (by omega) (by omega) (by omega) (by omega)
 refine Ev.step (f := fun k => vernierref06_Round.l0 k neg l [1] x mode e 0 [] [] 0) (fun k => by simp only [vernierref06_Round.j0]) ?_
 refine Ev.step (f := fun k => vernierref06_Round.j2 k neg l [1] x mode e 0 [] [] 0 true) (fun k => ?_) ?_
 ·
  simp only [vernierref06_Round.l0]
  rw [if_pos (by omega), if_pos trivial]
 ·
  refine Ev.step (f := fun k => (vernierref06_shift.f k l [1] (x - e)).bind fun bt586 => ((vernierref01_Few.f k bt586.1 bt586.2).bind fun bt592 => (vernierref06_Round.l0 k neg l [1] x mode e bt592.1 bt592.2 bt586.2 1))) (fun k => ?_) (Ev.bind e1 (Ev.bind e2 ih))
  simp only [vernierref06_Round.j2]
  rw [if_pos trivial, if_neg (by omega), w2, w3]
theorem rround_ev {l : List Int} {N : Int} {n : Nat} (h : Nd l N n) (hN : 0 < N) (hn : n ≤ 100000) (neg : Bool) (x mode : Int) (hx : -1000000 ≤ x) (hx' : x ≤ 1000000) : Ev (fun k => vernierref06_Round.f k neg l [1] x mode) (rnd neg N x mode) := by
 have hb := bitsOf_pos hN
 have hb2 : bitsOf N ≤ 1600000 := bitsOf_le (by omega) (n := 1600000) (by
  have h1 := h.lt
  have h2 := pow_le (B := 65536) D_pos (m := n) (n := 100000) (by omega)
  have h3 : (2 : Int) ^ 1600000 = 65536 ^ 100000 := by
   rw [show (65536 : Int) = 2 ^ 16 by decide, ← Int.pow_mul]
  rw [h3]
  omega)
 have e1 := h.bits (by omega)
 have e2 := Nd.one1.bits (by omega)
 have b1 : bitsOf 1 = 1 := rfl
 rw [b1] at e2
 unfold vernierref06_Round.f
 refine Ev.bind e1 (Ev.bind e2 ?_)
 rw [w64 (x := bitsOf N - 1) (by omega) (by omega), w64 (x := bitsOf N - 1 + x) (by omega) (by omega), w64 (x := bitsOf N - 1 + x - 54) (by omega) (by omega)]
 by_cases c1 : bitsOf N - 1 + x > 2000
 ·
  refine Ev.congr (fun k => if_pos c1) ?_
  rw [rnd_great neg hN (by omega)]
  exact Ev.bind (big_ev neg mode) (Ev.now _)
 ·
  refine Ev.congr (fun k => if_neg c1) ?_
  by_cases c2 : bitsOf N - 1 + x < -3000
  ·
   refine Ev.congr (fun k => if_pos c2) ?_
   rw [rnd_tiny neg hN (by omega), ← rnd_tiny neg (N := 1) (x := -3000) (by decide) (by decide)]
   exact rj0 Nd.one1 (by decide) (by decide) neg (-3000) mode (-1074) (by decide) (by decide) (by decide) (by decide)
  ·
   refine Ev.congr (fun k => if_neg c2) ?_
   exact rj0 h hN (by omega) neg x mode _ (by omega) (by omega) (by have := rexp_ge (bitsOf N) x; omega) rfl
end Go.Proofs.YtjgdpjbkmcjbcaaDoor.PG
end
section
namespace Go.Proofs.YtjgdpjbkmcjbcaaDoor.PG
open Go.RowKit Go.Proofs.YtjgdpjbkmcjbcaaDoorW.PrintWords Go.Proofs.YtjgdpjbkmcjbcaaDoorW.PrintLast Go.Proofs.YtjgdpjbkmcjbcaaDoorW.PrintMore Go.Proofs.YtjgdpjbkmcjbcaaDoor.Num Go.Proofs.YtjgdpjbkmcjbcaaDoor.Flt
set_option linter.unusedVariables false
set_option linter.unusedSimpArgs false
def rsum (neg : Bool) (m p : Int) (other : Bool) (k q mode : Int) : Int × Int :=
 if sv neg (up2 (p - mn p q) * m) + sv other (up2 (q - mn p q) * k) = 0 then (if neg = other then rzero neg else rzero (decide (mode = 4)), 0)
 else rnd (decide (sv neg (up2 (p - mn p q) * m) + sv other (up2 (q - mn p q) * k) < 0)) ((sv neg (up2 (p - mn p q) * m) + sv other (up2 (q - mn p q) * k)).natAbs : Int) (mn p q) mode
def addS (a b mode : Int) : Int × Int :=
 if fcls a = 3 ∨ fcls b = 3 then (9221120237041090560, 0) else if fcls a = 2 ∧ fcls b = 2 ∧ a ≠ b then (9221120237041090560, 1) else if fcls a = 2 then (a, 0) else if fcls b = 2 then (b, 0)
 else rsum (fneg a) (fman a) (fxp a) (fneg b) (fman b) (fxp b) mode
theorem mn_le (a b : Int) : mn a b ≤ a ∧ mn a b ≤ b ∧ (mn a b = a ∨ mn a b = b) := by unfold mn; split <;> omega
theorem sv_tt (v : Int) : sv true v = -v := rfl
theorem sv_ff (v : Int) : sv false v = v := rfl
theorem rclass_ev {a : Int} (h0 : 0 ≤ a) (h1 : a < 18446744073709551616) : Ev (fun k => vernierref06_Class.f k a) (fcls a) := by
 have e1 : Int.tmod (IntKind.u64.wrap (Int.tdiv a 4503599627370496)) 2048 = fex a := by rw [tdiv_nn h0, u64w (by omega) (by omega), tmod_nn (by omega)]; rfl
 have e2 : Int.tmod a 4503599627370496 = ffr a := tmod_nn h0
 have r2 := ffr_range a
 unfold vernierref06_Class.f
 rw [e1, e2]
 unfold fcls
 by_cases c1 : fex a = 2047
 ·
  rw [if_pos c1]
  refine Ev.congr (fun k => if_pos c1) ?_
  by_cases c2 : ffr a = 0
  ·
   rw [if_pos c2]
   refine Ev.step (f := fun _ => some 2) (fun k => ?_) (Ev.now _)
   simp only [vernierref06_Class.j0]
   rw [if_neg (by simp [c2]), if_pos c1]
  ·
   rw [if_neg c2]
   refine Ev.step (f := fun _ => some 3) (fun k => ?_) (Ev.now _)
   simp only [vernierref06_Class.j0]
   rw [if_pos (decide_eq_true (by omega))]
 ·
  rw [if_neg c1]
  refine Ev.congr (fun k => if_neg c1) ?_
  refine Ev.step (f := fun _ => some (if fex a = 0 ∧ ffr a = 0 then 0 else 1)) (fun k => ?_) (Ev.now _)
  simp only [vernierref06_Class.j0]
  rw [if_neg (by decide), if_neg c1]
  by_cases c3 : fex a = 0
  ·
   by_cases c4 : ffr a = 0
   ·
    rw [if_pos c3, if_pos c4, if_pos ⟨c3, c4⟩]
   ·
    rw [if_pos c3, if_neg c4, if_neg (fun h => c4 h.2)]
  ·
   rw [if_neg c3, if_neg (fun h => c3 h.1)]
theorem rsplit_some {a : Int} (h0 : 0 ≤ a) (h1 : a < 18446744073709551616) : vernierref06_Split.f a = some (fneg a, fman a, fxp a) := by
 have e1 : Int.tmod (IntKind.u64.wrap (Int.tdiv a 4503599627370496)) 2048 = fex a := by rw [tdiv_nn h0, u64w (by omega) (by omega), tmod_nn (by omega)]; rfl
 have e2 : Int.tmod a 4503599627370496 = ffr a := tmod_nn h0
 have r1 := fex_range a
 have r2 := ffr_range a
 have e3 : decide (a ≥ 9223372036854775808) = fneg a := rfl
 unfold vernierref06_Split.f
 rw [e1, e2, e3, w64 (by omega) (by omega)]
 unfold fman fxp
 by_cases c : fex a = 0
 ·
  rw [if_pos c, if_pos c, if_pos c]
 ·
  rw [if_neg c, if_neg c, if_neg c, w64 (by omega) (by omega), u64w (by omega) (by omega)]
theorem word_ev {x : Int} (h0 : 0 ≤ x) (h1 : x < 18446744073709551616) : Ev (fun k => vernierref01_Word.f k x) (Num.dg 65536 x) ∧ Nd (Num.dg 65536 x) x 4 := by
 obtain ⟨e, n⟩ := (Nm.one (n := 1) h0 h1 (by omega)).of (by omega)
 refine ⟨?_, n⟩
 unfold vernierref01_Word.f
 exact Ev.bind e (Ev.now _)
theorem rsum_ev {lm lk : List Int} {m k : Int} (hm : Nd lm m 1000) (hk : Nd lk k 1000) (neg other : Bool) (p q mode : Int) (hp : -100000 ≤ p) (hp' : p ≤ 100000) (hq : -100000 ≤ q) (hq' : q ≤ 100000) :
  Ev (fun i => vernierref06_sum.f i neg lm p other lk q mode) (rsum neg m p other k q mode) := by
 have hmn := mn_le p q
 obtain ⟨a, ha⟩ : ∃ a : Nat, p - mn p q = a := ⟨(p - mn p q).toNat, by omega⟩
 obtain ⟨b, hb⟩ : ∃ b : Nat, q - mn p q = b := ⟨(q - mn p q).toNat, by omega⟩
 obtain ⟨e1, n1⟩ := hm.shl a (by omega) (by omega)
 obtain ⟨e2, n2⟩ := hk.shl b (by omega) (by omega)
 unfold rsum
 rw [ha, hb, up2_nat, up2_nat]
 have m0 := n1.nonneg
 have k0 := n2.nonneg
 have b1 : a / 16 + 1 + 1000 ≤ 20000 := by omega
 have b2 : b / 16 + 1 + 1000 ≤ 20000 := by omega
 generalize (2 : Int) ^ a * m = M at *
 generalize (2 : Int) ^ b * k = K at *
 obtain ⟨e3, n3⟩ := n1.add 20000 n2 b1 b2 (by omega)
 obtain ⟨e4, n4⟩ := n1.sub 20000 n2 b1 b2 (by omega)
 have e5 := n1.cmp n2 (by omega) (by omega)
 have wa : wrap64 (p - mn p q) = (a : Int) := by rw [w64 (by omega) (by omega), ha]
 have wb : wrap64 (q - mn p q) = (b : Int) := by rw [w64 (by omega) (by omega), hb]
 have hj : ∀ (s : Bool) (v : Int) (n : Nat), Nd (dg 65536 v) v n → n ≤ 100000 → 0 ≤ v → (v = 0 ↔ sv neg M + sv other K = 0) → (v ≠ 0 → v = ((sv neg M + sv other K).natAbs : Int) ∧ s = decide (sv neg M + sv other K < 0)) →
   Ev (fun i => vernierref06_sum.j0 i neg other mode (mn p q) (dg 65536 v) s) (if sv neg M + sv other K = 0 then (if neg = other then rzero neg else rzero (decide (mode = 4)), 0) else rnd (decide (sv neg M + sv other K < 0)) ((sv neg M + sv other K).natAbs : Int) (mn p q) mode) := by
  intro s v n hv hn v0 hz hs
  have hnil := dg_nil (B := 65536) one_lt_D v0
  by_cases c : v = 0
  ·
   rw [if_pos (hz.1 c)]
   refine Ev.step (f := fun _ => some (if neg = other then rzero neg else rzero (decide (mode = 4)), 0)) (fun i => ?_) (Ev.now _)
   simp only [vernierref06_sum.j0]
   rw [hnil.2 c, if_pos (by rfl)]
   by_cases d : neg = other
   ·
    rw [if_pos (by simp [d]), if_pos d, rz_some]
    rfl
   ·
    have em : (mode == 4) = decide (mode = 4) := by rw [Bool.eq_iff_iff]; simp
    rw [if_neg (by simp [d]), if_neg d, rz_some, em]
    rfl
  ·
   obtain ⟨s1, s2⟩ := hs c
   rw [if_neg (fun h => c (hz.2 h)), ← s1, ← s2]
   have hne : ¬ (((dg 65536 v).length : Int) = 0) := by
    intro h
    have : dg 65536 v = [] := List.length_eq_zero_iff.1 (by omega)
    exact c (hnil.1 this)
   have hr := rround_ev hv (by omega) hn s (mn p q) mode (by omega) (by omega)
   have ho : vernierref06_one.f = some [1] := rfl
   refine Ev.step (f := fun i => (vernierref06_Round.f i s (dg 65536 v) [1] (mn p q) mode).bind fun t => some (t.1, t.2)) (fun i => ?_) (Ev.bind hr (Ev.now _))
   simp only [vernierref06_sum.j0]
   rw [if_neg hne, ho]
   rfl
 unfold vernierref06_sum.f
 rw [wa, wb]
 refine Ev.bind e1 (Ev.bind e2 (Ev.bind e3 ?_))
 by_cases c : neg = other
 ·
  subst c
  refine Ev.congr (fun i => if_neg (by simp)) (hj neg (M + K) _ n3 (by omega) (by omega) ?_ ?_)
  ·
   cases neg <;> simp only [sv_tt, sv_ff] <;> omega
  ·
   intro h
   cases neg
   ·
    refine ⟨by simp only [sv_ff]; omega, ?_⟩
    rw [sv_ff, sv_ff, decide_eq_false (by omega)]
   ·
    refine ⟨by simp only [sv_tt]; omega, ?_⟩
    rw [sv_tt, sv_tt, decide_eq_true (by omega)]
 ·
  refine Ev.congr (fun i => if_pos (by simp [c])) ?_
  refine Ev.bind e4 (Ev.bind e5 ?_)
  have hz : (((M - K).natAbs : Nat) : Int) = 0 ↔ sv neg M + sv other K = 0 := by
   cases neg <;> cases other <;> first | exact absurd rfl c | (simp only [sv_tt, sv_ff]; omega)
  by_cases hlt : M < K
  ·
   refine Ev.congr (fun i => if_pos (sgn_neg_iff.2 (by omega))) (hj other _ _ n4 (by omega) (by omega) hz ?_)
   intro h
   cases neg <;> cases other <;> first | exact absurd rfl c | skip
   ·
    refine ⟨by simp only [sv_tt, sv_ff]; omega, ?_⟩
    rw [sv_tt, sv_ff, decide_eq_true (by omega)]
   ·
    refine ⟨by simp only [sv_tt, sv_ff]; omega, ?_⟩
    rw [sv_tt, sv_ff, decide_eq_false (by omega)]
  ·
   refine Ev.congr (fun i => if_neg (fun h => hlt (by have := sgn_neg_iff.1 h; omega))) (hj neg _ _ n4 (by omega) (by omega) hz ?_)
   intro h
   cases neg <;> cases other <;> first | exact absurd rfl c | skip
   ·
    refine ⟨by simp only [sv_tt, sv_ff]; omega, ?_⟩
    rw [sv_tt, sv_ff, decide_eq_false (by omega)]
   ·
    refine ⟨by simp only [sv_tt, sv_ff]; omega, ?_⟩
    rw [sv_tt, sv_ff, decide_eq_true (by omega)]
theorem radd_ev6 {a b : Int} (a0 : 0 ≤ a) (a1 : a < 18446744073709551616) (b0 : 0 ≤ b) (b1 : b < 18446744073709551616) (mode : Int) : Ev (fun k => vernierref06_Add.f k a b mode) (addS a b mode) := by
 have ca := fcls_range a
 have cb := fcls_range b
 obtain ⟨ma0, ma1⟩ := fman_range a
 obtain ⟨mb0, mb1⟩ := fman_range b
 have xa := fxp_range a
 have xb := fxp_range b
 have last : Ev (fun k => (vernierref06_Split.f a).bind fun bt646 => ((vernierref06_Split.f b).bind fun bt649 => ((vernierref01_Word.f k bt646.2.1).bind fun t652 => ((vernierref01_Word.f k bt649.2.1).bind fun t655 => ((vernierref06_sum.f k bt646.1 t652 bt646.2.2 bt649.1 t655 bt649.2.2 mode).bind fun bt658 => (some (bt658.1, bt658.2)))))))
   (rsum (fneg a) (fman a) (fxp a) (fneg b) (fman b) (fxp b) mode) := by
  rw [rsplit_some a0 a1, rsplit_some b0 b1]
  obtain ⟨e1, n1⟩ := word_ev ma0 (show fman a < 18446744073709551616 by omega)
  obtain ⟨e2, n2⟩ := word_ev mb0 (show fman b < 18446744073709551616 by omega)
  refine Ev.bind (a := (fneg a, fman a, fxp a)) (Ev.now _) (Ev.bind (a := (fneg b, fman b, fxp b)) (Ev.now _) (Ev.bind e1 (Ev.bind e2 (Ev.bind (rsum_ev (n1.mono (by omega)) (n2.mono (by omega)) (fneg a) (fneg b) (fxp a) (fxp b) mode (by omega) (by omega) (by omega) (by omega)) (Ev.now _)))))
 unfold vernierref06_Add.f
 refine Ev.bind (rclass_ev a0 a1) (Ev.bind (rclass_ev b0 b1) ?_)
 have jn : ∀ c : Bool, (c = true ↔ fcls a = 3 ∨ fcls b = 3) → Ev (fun k => vernierref06_Add.j0 k a b mode (fcls a) (fcls b) c) (addS a b mode) := by
  intro c hc
  unfold addS
  cases c
  ·
   rw [if_neg (fun h => Bool.false_ne_true (hc.2 h))]
   have j1 : ∀ d : Bool, (d = true ↔ fcls a = 2 ∧ fcls b = 2 ∧ a ≠ b) → Ev (fun k => vernierref06_Add.j1 k a b mode (fcls a) (fcls b) d) (if fcls a = 2 ∧ fcls b = 2 ∧ a ≠ b then (9221120237041090560, 1) else if fcls a = 2 then (a, 0) else if fcls b = 2 then (b, 0) else rsum (fneg a) (fman a) (fxp a) (fneg b) (fman b) (fxp b) mode) := by
    intro d hd
    cases d
    ·
     rw [if_neg (fun h => Bool.false_ne_true (hd.2 h))]
     by_cases c2 : fcls a = 2
     ·
      rw [if_pos c2]
      refine Ev.step (f := fun _ => some (a, 0)) (fun k => ?_) (Ev.now _)
      simp only [vernierref06_Add.j1]
      rw [if_neg (by decide), if_pos c2]
     ·
      rw [if_neg c2]
      by_cases c3 : fcls b = 2
      ·
       rw [if_pos c3]
       refine Ev.step (f := fun _ => some (b, 0)) (fun k => ?_) (Ev.now _)
       simp only [vernierref06_Add.j1]
       rw [if_neg (by decide), if_neg c2, if_pos c3]
      ·
       rw [if_neg c3]
       refine Ev.step (fun k => ?_) last
       simp only [vernierref06_Add.j1]
       rw [if_neg (by decide), if_neg c2, if_neg c3]
    ·
     rw [if_pos (hd.1 rfl)]
     refine Ev.step (f := fun _ => some (9221120237041090560, 1)) (fun k => ?_) (Ev.now _)
     simp only [vernierref06_Add.j1]
     rw [if_pos trivial]
   by_cases c2 : fcls a = 2
   ·
    by_cases c3 : fcls b = 2
    ·
     refine Ev.step (f := fun k => vernierref06_Add.j1 k a b mode (fcls a) (fcls b) (a != b)) (fun k => ?_) (j1 _ ?_)
     ·
      simp only [vernierref06_Add.j0]
      rw [if_neg (by decide), if_pos c2, if_pos c3]
     ·
      simp [c2, c3]
    ·
     refine Ev.step (f := fun k => vernierref06_Add.j1 k a b mode (fcls a) (fcls b) false) (fun k => ?_) (j1 _ ?_)
     ·
      simp only [vernierref06_Add.j0]
      rw [if_neg (by decide), if_pos c2, if_neg c3]
     ·
      simp [c3]
   ·
    refine Ev.step (f := fun k => vernierref06_Add.j1 k a b mode (fcls a) (fcls b) false) (fun k => ?_) (j1 _ ?_)
    ·
     simp only [vernierref06_Add.j0]
     rw [if_neg (by decide), if_neg c2]
    ·
     simp [c2]
  ·
   rw [if_pos (hc.1 rfl)]
   refine Ev.step (f := fun _ => some (9221120237041090560, 0)) (fun k => ?_) (Ev.now _)
   simp only [vernierref06_Add.j0]
   rw [if_pos trivial]
 by_cases c1 : fcls a = 3
 ·
  exact Ev.congr (fun k => if_pos c1) (jn true (by simp [c1]))
 ·
  refine Ev.congr (fun k => if_neg c1) (jn _ ?_)
  simp [c1]
end Go.Proofs.YtjgdpjbkmcjbcaaDoor.PG
end
section
namespace Go.Proofs.YtjgdpjbkmcjbcaaDoor.PG
open Go.RowKit Go.Proofs.YtjgdpjbkmcjbcaaDoorW.PrintWords Go.Proofs.YtjgdpjbkmcjbcaaDoorW.PrintLast Go.Proofs.YtjgdpjbkmcjbcaaDoorW.PrintMore Go.Proofs.YtjgdpjbkmcjbcaaDoor.Num Go.Proofs.YtjgdpjbkmcjbcaaDoor.Flt
set_option linter.unusedVariables false
set_option linter.unusedSimpArgs false
theorem u64_of_wf {a : Int} (h : (Lit.int .u64 a).wf = true) : 0 ≤ a ∧ a < 18446744073709551616 := by
 simp [Lit.wf, IntKind.min, IntKind.max, IntKind.signed, IntKind.bits] at h
 omega
end Go.Proofs.YtjgdpjbkmcjbcaaDoor.PG
end
section
namespace Go.Proofs.YtjgdpjbkmcjbcaaDoor.PG
open Go.RowKit Go.Proofs.YtjgdpjbkmcjbcaaDoorW.PrintWords Go.Proofs.YtjgdpjbkmcjbcaaDoorW.PrintLast Go.Proofs.YtjgdpjbkmcjbcaaDoorW.PrintMore Go.Proofs.YtjgdpjbkmcjbcaaDoor.Num Go.Proofs.YtjgdpjbkmcjbcaaDoor.Flt
set_option linter.unusedVariables false
set_option linter.unusedSimpArgs false
theorem low2 {l : List Int} {v : Int} {n : Nat} (h : Nm l v n) (hv : v < 18446744073709551616 * 18446744073709551616) : 0 ≤ rd l 1 ∧ rd l 1 < 18446744073709551616 ∧ 0 ≤ rd l 0 ∧ rd l 0 < 18446744073709551616 ∧ rd l 1 * 18446744073709551616 + rd l 0 = v := by
 have e0 : rd l 0 = l.getD 0 0 := rd_nat l 0
 have e1 : rd l 1 = l.getD 1 0 := rd_nat l 1
 rw [e0, e1]
 have d0 := h.dig.getD B_pos 0
 have d1 := h.dig.getD B_pos 1
 refine ⟨d1.1, d1.2, d0.1, d0.2, ?_⟩
 have hval := h.val
 match l, h, hval, d0, d1 with
 | [], h, hval, d0, d1 =>
  rw [← hval]
  rfl
 | [x], h, hval, d0, d1 =>
  simp only [V_cons, V_nil] at hval
  simp
  omega
 | x :: y :: r, h, hval, d0, d1 =>
  have hr := V_nonneg B_pos h.dig.tail.tail
  simp only [V_cons] at hval
  simp only [List.getD_cons_zero, List.getD_cons_succ] at d0 d1 ⊢
  generalize V 18446744073709551616 r = R at *
  have : R = 0 := by
   by_cases c : R = 0
   ·
    exact c
   ·
    exfalso
    omega
  subst this
  omega
theorem some_ev {l : List Int} {v : Int} {n : Nat} (h : Nm l v n) (hn : n ≤ 1000000) (N : Nat) (hN : N ≤ 65536) : Ev (fun k => parts_some.f k l (N : Int)) (decide (v % 2 ^ N ≠ 0)) := by
 obtain ⟨x1, y1⟩ := h.Shr N (by omega) hN
 obtain ⟨x2, y2⟩ := y1.Shl N (by omega) hN
 have x3 := h.cmp y2 (by omega) (by omega)
 have hd := Int.emod_add_mul_ediv v (2 ^ N)
 have e : (sgn (v - 2 ^ N * (v / 2 ^ N)) != 0) = decide (v % 2 ^ N ≠ 0) := by
  by_cases c : v % 2 ^ N = 0
  ·
   rw [sgn_zero_iff.2 (by omega), decide_eq_false (by omega)]
   rfl
  ·
   rw [decide_eq_true c, bne_iff_ne]
   intro g
   have := sgn_zero_iff.1 g
   omega
 unfold parts_some.f
 rw [← e]
 exact Ev.bind x1 (Ev.bind x2 (Ev.bind x3 (Ev.now _)))
theorem round_clamp (neg : Bool) {hi lo N : Int} (y : Int) (k : Nat) (more : Bool) (mode : Int) (h0 : 0 ≤ hi) (h1 : hi < 18446744073709551616) (l0 : 0 ≤ lo) (l1 : lo < 18446744073709551616) (hN : 0 < N) (hW : hi * 18446744073709551616 + lo = N / 2 ^ k) (hW0 : 0 < N / 2 ^ k)
  (hm : more = decide (N % 2 ^ k ≠ 0)) (hs : N % 2 ^ k ≠ 0 → 55 ≤ bitsOf (N / 2 ^ k)) : Ev (fun i => parts_Round.f i neg hi lo y more mode) (rnd neg N (rclamp y - k) mode) := by
 have e := round_raw neg y more mode h0 h1 l0 l1 (by rw [hW]; exact hW0)
 rw [hW] at e
 have es := rnd_sticky neg hN (rclamp y - k) k mode hW0 (fun h => .inl (hs h))
 rw [show rclamp y - (k : Int) + k = rclamp y by omega] at es
 rw [es]
 have e2 : (more && decide (55 ≤ bitsOf (N / 2 ^ k) ∨ rclamp y ≤ -1080)) = decide (N % 2 ^ k ≠ 0) := by
  rw [hm]
  by_cases c : N % 2 ^ k ≠ 0
  ·
   rw [decide_eq_true c, decide_eq_true (.inl (hs c))]
   rfl
  ·
   rw [decide_eq_false c]
   rfl
 rw [e2] at e
 exact e
theorem rnd_clamp (neg : Bool) {N : Int} (hN : 0 < N) (y : Int) (k : Nat) (mode : Int) (hk : (k : Int) < bitsOf N) (hb : bitsOf N ≤ k + 128) : rnd neg N (rclamp y - k) mode = rnd neg N (y - k) mode := by
 by_cases c : -16384 ≤ y ∧ y ≤ 16384
 ·
  rw [rclamp_id c.1 c.2]
 ·
  by_cases c1 : y < -16384
  ·
   have e : rclamp y = -16384 := by unfold rclamp mn mx; split <;> split <;> omega
   rw [e, rnd_tiny neg hN (by omega), rnd_tiny neg hN (by omega)]
  ·
   have e : rclamp y = 16384 := by unfold rclamp mn mx; split <;> split <;> omega
   rw [e, rnd_great neg hN (by omega), rnd_great neg hN (by omega)]
theorem wide_ev {l : List Int} {v : Int} (h : Nm l v 1024) (hv : 0 < v) (s : Bool) (e mode : Int) (he : -32768 ≤ e) (he' : e ≤ 32768) : Ev (fun k => parts_Wide.f k s l e mode) ((rnd s v e mode).1, (rnd s v e mode).2, 0) := by
 have hl := h.len
 have hb := h.bits (by omega)
 have hbp := bitsOf_pos hv
 have hb1 : bitsOf v ≤ 65536 := by
  have := bitsOf_le (Int.le_of_lt hv) (n := 64 * 1024) (by
   have := h.lt
   rw [show (18446744073709551616 : Int) = 2 ^ 64 by decide, ← Int.pow_mul] at this
   exact this)
  omega
 have eBB : (18446744073709551616 : Int) * 18446744073709551616 = 2 ^ 128 := by decide
 unfold parts_Wide.f
 refine Ev.congr (fun k => (if_neg (by omega)).trans ((if_neg (by omega)).trans (if_neg (by omega)))) (Ev.bind hb ?_)
 rw [w64 (x := bitsOf v - 128) (by omega) (by omega)]
 by_cases c : bitsOf v - 128 > 0
 ·
  obtain ⟨N, hN⟩ : ∃ N : Nat, bitsOf v - 128 = (N : Int) := ⟨(bitsOf v - 128).toNat, by omega⟩
  have hp := two_pow_pos N
  have hq : 0 < v / 2 ^ N := by
   have h1 := bitsOf_low hv
   have h2 : (2 : Int) ^ N ≤ v := Int.le_trans (two_pow_mono (by omega)) h1
   have := Int.le_ediv_of_mul_le hp (show 1 * (2 : Int) ^ N ≤ v by omega)
   omega
  have hcut := bitsOf_cut N hq
  have hlt : v / 2 ^ N < 18446744073709551616 * 18446744073709551616 := by
   rw [eBB]
   have := bitsOf_lt_pow (Int.le_of_lt hq)
   rwa [show (bitsOf (v / 2 ^ N)).toNat = 128 by omega] at this
  obtain ⟨x1, y1⟩ := h.Shr N (by omega) (by omega)
  obtain ⟨q0, q1, q2, q3, q4⟩ := low2 y1 hlt
  have hr := round_clamp s (e + N) N (decide (v % 2 ^ N ≠ 0)) mode q0 q1 q2 q3 hv q4 hq rfl (fun _ => by omega)
  rw [rnd_clamp s hv (e + N) N mode (by omega) (by omega), show e + (N : Int) - N = e by omega] at hr
  refine Ev.congr (fun k => if_pos c) ?_
  rw [hN, w64 (x := e + (N : Int)) (by omega) (by omega)]
  refine Ev.bind (some_ev h (by omega) N (by omega)) (Ev.bind x1 ?_)
  unfold parts_Wide.t
  exact Ev.bind hr (Ev.now _)
 ·
  have hlt : v < 18446744073709551616 * 18446744073709551616 := by
   rw [eBB]
   exact Int.lt_of_lt_of_le (bitsOf_lt_pow (Int.le_of_lt hv)) (two_pow_mono (by omega))
  obtain ⟨q0, q1, q2, q3, q4⟩ := low2 h hlt
  have e1 : v / 2 ^ 0 = v := by rw [Int.pow_zero, Int.ediv_one]
  have e2 : v % 2 ^ 0 = 0 := by rw [Int.pow_zero, Int.emod_one]
  have hr := round_clamp s e 0 false mode q0 q1 q2 q3 hv (by rw [e1]; exact q4) (by rw [e1]; exact hv) (by rw [e2]; rfl) (fun h => absurd e2 h)
  rw [rnd_clamp s hv e 0 mode (by omega) (by omega), show e - ((0 : Nat) : Int) = e by omega] at hr
  refine Ev.congr (fun k => if_neg c) ?_
  unfold parts_Wide.t
  exact Ev.bind hr (Ev.now _)
end Go.Proofs.YtjgdpjbkmcjbcaaDoor.PG
end
