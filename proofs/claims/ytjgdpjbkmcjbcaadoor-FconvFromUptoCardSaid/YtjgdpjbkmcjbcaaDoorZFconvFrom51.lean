/- Parts of a proof. -/
import Derived.Test.YtjgdpjbkmcjbcaaDoorZFconvFrom50
import Derived.Test.YtjgdpjbkmcjbcaaDoorZFconvFrom41
section
namespace Go.Proofs.YtjgdpjbkmcjbcaaDoor.PG
open Go.RowKit Go.Proofs.YtjgdpjbkmcjbcaaDoorW.PrintWords Go.Proofs.YtjgdpjbkmcjbcaaDoorW.PrintLast Go.Proofs.YtjgdpjbkmcjbcaaDoorW.PrintMore Go.Proofs.YtjgdpjbkmcjbcaaDoor.Num Go.Proofs.YtjgdpjbkmcjbcaaDoor.Flt
set_option linter.unusedVariables false
set_option linter.unusedSimpArgs false
theorem wval_nonneg (a mode : Int) : 0 ≤ wval a mode := by
 have mr := fman_range a
 unfold wval
 by_cases h : fxp a < 0
 ·
  rw [if_pos h]
  refine (wq_range (fneg a) mode mr.1 mr.2 ?_).1
  have := two_pow_mono (show 1 ≤ (-fxp a).toNat by omega)
  omega
 ·
  rw [if_neg h]
  exact Int.mul_nonneg mr.1 (Int.le_of_lt (two_pow_pos _))
theorem toint_j0 {t W fl : Int} (ht : fex t ≠ 2047) (h0 : 0 ≤ W) (h1 : W ≤ 4611686018427387904) (h : fman t * up2 (fxp t) = W * up2 (-fxp t)) :
  Ev (fun k => fconv_ToInt.j0 k fl (fneg t) (fman t) (fxp t) false) (sv (fneg t) W, fl) := by
 have mr := fman_range t
 have xr := fxp_range t
 have fs := fin_shape ht
 have fin : ∀ x : Int, x = W → ∀ b : Bool, (if b = true then some (wrap64 (-(wrap64 x)), fl) else some (wrap64 x, fl)) = some (sv b W, fl) := by
  intro x hx b
  rw [hx, w64 (x := W) (by omega) (by omega), w64 (x := -W) (by omega) (by omega)]
  cases b <;> rfl
 refine Ev.step (f := fun _ => some (sv (fneg t) W, fl)) (fun k => ?_) (Ev.now _)
 rw [fconv_ToInt.j0, if_neg (by decide)]
 by_cases hp : 0 ≤ fxp t
 ·
  obtain ⟨n, hn⟩ := Int.eq_ofNat_of_zero_le hp
  rw [up2_neg (a := -fxp t) (by omega), Int.mul_one, hn, up2_nat] at h
  have hm : 4503599627370496 ≤ fman t := by omega
  have hn10 : n ≤ 10 := by
   by_cases c : n ≤ 10
   ·
    exact c
   ·
    exfalso
    have e11 : (2 : Int) ^ 11 = 2048 := by decide
    have c1 := two_pow_mono (show 11 ≤ n by omega)
    have c2 : 4503599627370496 * 2048 ≤ fman t * 2 ^ n := Int.mul_le_mul hm (by omega) (by decide) (by omega)
    omega
  rw [hn, if_pos (by omega), if_pos (by omega), shl_u64 (by omega), h]
  exact fin _ (by omega) _
 ·
  obtain ⟨n, hn⟩ : ∃ n : Nat, -fxp t = (n : Int) := ⟨(-fxp t).toNat, by omega⟩
  rw [up2_neg (a := fxp t) (by omega), Int.mul_one, hn, up2_nat] at h
  have hP := two_pow_pos n
  rw [if_neg (by omega), w64 (x := -fxp t) (by omega) (by omega), hn]
  by_cases c : n < 64
  ·
   rw [if_pos (by omega), if_pos (by omega), shr_u64 (by omega)]
   exact fin _ (by rw [h]; exact Int.mul_ediv_cancel _ (by omega)) _
  ·
   rw [if_neg (by omega)]
   have hz : W = 0 := by
    by_cases z : W = 0
    ·
     exact z
    ·
     exfalso
     have e64 : (2 : Int) ^ 64 = 18446744073709551616 := by decide
     have c1 := two_pow_mono (show 64 ≤ n by omega)
     have c2 : 1 * 2 ^ n ≤ W * 2 ^ n := Int.mul_le_mul_of_nonneg_right (by omega) (by omega)
     omega
   rw [hz]
   cases fneg t <;> rfl
theorem toint_j0_out {t : Int} (fl : Int) : Ev (fun k => fconv_ToInt.j0 k fl (fneg t) (fman t) (fxp t) true) (0, 1) := by
 refine Ev.step (f := fun _ => some (0, 1)) (fun k => ?_) (Ev.now _)
 rw [fconv_ToInt.j0, if_pos rfl]
theorem toint_ev {a : Int} (a0 : 0 ≤ a) (a1 : a < 18446744073709551616) (hf : fex a ≠ 2047) (mode : Int) :
  Ev (fun k => fconv_ToInt.f k a mode) (if 4611686018427387904 < wval a mode then (0, 1) else (sv (fneg a) (wval a mode), if wfl a = true then 16 else 0)) := by
 obtain ⟨t, e1, t0, t1, t2, t3, t4⟩ := fwhole_ev a0 a1 hf mode
 obtain ⟨b, e2, b0, b1, b2, b3, b4, b5⟩ := from62
 obtain ⟨z, f, e3, z1, z2, z3⟩ := sub62 t0 t1 t3 b0 b1 b2 b3 b4 b5 t4
 have hs := split_some t0 t1 t3
 have hc := (fcls_fin (a := a)).2 hf
 have hw := wval_nonneg a mode
 unfold fconv_ToInt.f
 refine Ev.bind (class_ev a0 a1) (Ev.congr (fun k => if_neg (by omega)) ?_)
 refine Ev.bind e1 (Ev.bind e2 ?_)
 refine Ev.bind (g := fun _ => parts_Split.f t) (Ev.congr (fun _ => hs) (Ev.now _)) ?_
 rw [andNot_sign t0 t1]
 refine Ev.bind e3 ?_
 rw [← t2]
 rcases Int.lt_trichotomy (wval a mode) 4611686018427387904 with h | h | h
 ·
  have hz := z2 h
  rw [if_neg (show ¬ 4611686018427387904 < wval a mode by omega)]
  refine Ev.congr (fun k => if_neg (by omega)) ?_
  have e : (z / 9223372036854775808 == 0) = false := by
   have : z / 9223372036854775808 = 1 := by omega
   rw [this]
   rfl
  rw [e]
  exact toint_j0 t3 hw (by omega) t4
 ·
  rw [if_neg (show ¬ 4611686018427387904 < wval a mode by omega)]
  refine Ev.congr (fun k => if_pos (z1 h)) ?_
  exact toint_j0 t3 hw (by omega) t4
 ·
  have hz := z3 h
  rw [if_pos h]
  refine Ev.congr (fun k => if_neg (by omega)) ?_
  have e : (z / 9223372036854775808 == 0) = true := by
   have : z / 9223372036854775808 = 0 := by omega
   rw [this]
   rfl
  rw [e]
  exact toint_j0_out _
theorem alive13_ev : Ev (fun k => vernierlaw13_alive.f k) true := by
 have h := toint_ev (a := 4612811918334230528) (by decide) (by decide) (by decide) 0
 have e1 : wval 4612811918334230528 0 = 2 := by decide
 have e2 : wfl 4612811918334230528 = true := by decide
 have e3 : fneg 4612811918334230528 = false := by decide
 rw [e1, e2, e3, if_neg (by decide), if_pos rfl] at h
 unfold vernierlaw13_alive.f
 refine Ev.bind h (Ev.congr (fun k => if_pos rfl) ?_)
 exact Ev.now _
end Go.Proofs.YtjgdpjbkmcjbcaaDoor.PG
end
section
namespace Go.Proofs.YtjgdpjbkmcjbcaaDoor.PG
open Go.RowKit Go.Proofs.YtjgdpjbkmcjbcaaDoorW.PrintWords Go.Proofs.YtjgdpjbkmcjbcaaDoorW.PrintLast Go.Proofs.YtjgdpjbkmcjbcaaDoorW.PrintMore Go.Proofs.YtjgdpjbkmcjbcaaDoor.Num Go.Proofs.YtjgdpjbkmcjbcaaDoor.Flt
set_option linter.unusedVariables false
set_option linter.unusedSimpArgs false
theorem low2 {l : List Int} {v : Int} {n : Nat} (h : Nm l v n) (hv : v < 18446744073709551616 * 18446744073709551616) : 0 ≤ rd l 1 ∧ rd l 1 < 18446744073709551616 ∧ 0 ≤ rd l 0 ∧ rd l 0 < 18446744073709551616 ∧ rd l 1 * 18446744073709551616 + rd l 0 = v := by
 have e0 : rd l 0 = l.getD 0 0 := rd_nat l 0
 have e1 : rd l 1 = l.getD 1 0 := rd_nat l 1
 rw [e0, e1]
 have d0 := h.dig.getD B_pos 0
 have d1 := h.dig.getD B_pos 1
 refine ⟨d1.1, d1.2, d0.1, d0.2, ?_⟩
 have hval := h.val
 match l, h, hval, d0, d1 with
 | [], h, hval, d0, d1 =>
  rw [← hval]
  rfl
 | [x], h, hval, d0, d1 =>
  simp only [V_cons, V_nil] at hval
  simp
  omega
 | x :: y :: r, h, hval, d0, d1 =>
  have hr := V_nonneg B_pos h.dig.tail.tail
  simp only [V_cons] at hval
  simp only [List.getD_cons_zero, List.getD_cons_succ] at d0 d1 ⊢
  generalize V 18446744073709551616 r = R at *
  have : R = 0 := by
   by_cases c : R = 0
   ·
    exact c
   ·
    exfalso
    omega
  subst this
  omega
theorem some_ev {l : List Int} {v : Int} {n : Nat} (h : Nm l v n) (hn : n ≤ 1000000) (N : Nat) (hN : N ≤ 65536) : Ev (fun k => parts_some.f k l (N : Int)) (decide (v % 2 ^ N ≠ 0)) := by
 obtain ⟨x1, y1⟩ := h.Shr N (by omega) hN
 obtain ⟨x2, y2⟩ := y1.Shl N (by omega) hN
 have x3 := h.cmp y2 (by omega) (by omega)
 have hd := Int.emod_add_mul_ediv v (2 ^ N)
 have e : (sgn (v - 2 ^ N * (v / 2 ^ N)) != 0) = decide (v % 2 ^ N ≠ 0) := by
  by_cases c : v % 2 ^ N = 0
  ·
   rw [sgn_zero_iff.2 (by omega), decide_eq_false (by omega)]
   rfl
  ·
   rw [decide_eq_true c, bne_iff_ne]
   intro g
   have := sgn_zero_iff.1 g
   omega
 unfold parts_some.f
 rw [← e]
 exact Ev.bind x1 (Ev.bind x2 (Ev.bind x3 (Ev.now _)))
theorem round_clamp (neg : Bool) {hi lo N : Int} (y : Int) (k : Nat) (more : Bool) (mode : Int) (h0 : 0 ≤ hi) (h1 : hi < 18446744073709551616) (l0 : 0 ≤ lo) (l1 : lo < 18446744073709551616) (hN : 0 < N) (hW : hi * 18446744073709551616 + lo = N / 2 ^ k) (hW0 : 0 < N / 2 ^ k)
  (hm : more = decide (N % 2 ^ k ≠ 0)) (hs : N % 2 ^ k ≠ 0 → 55 ≤ bitsOf (N / 2 ^ k)) : Ev (fun i => parts_Round.f i neg hi lo y more mode) (rnd neg N (rclamp y - k) mode) := by
 have e := round_raw neg y more mode h0 h1 l0 l1 (by rw [hW]; exact hW0)
 rw [hW] at e
 have es := rnd_sticky neg hN (rclamp y - k) k mode hW0 (fun h => .inl (hs h))
 rw [show rclamp y - (k : Int) + k = rclamp y by omega] at es
 rw [es]
 have e2 : (more && decide (55 ≤ bitsOf (N / 2 ^ k) ∨ rclamp y ≤ -1080)) = decide (N % 2 ^ k ≠ 0) := by
  rw [hm]
  by_cases c : N % 2 ^ k ≠ 0
  ·
   rw [decide_eq_true c, decide_eq_true (.inl (hs c))]
   rfl
  ·
   rw [decide_eq_false c]
   rfl
 rw [e2] at e
 exact e
theorem rnd_clamp (neg : Bool) {N : Int} (hN : 0 < N) (y : Int) (k : Nat) (mode : Int) (hk : (k : Int) < bitsOf N) (hb : bitsOf N ≤ k + 128) : rnd neg N (rclamp y - k) mode = rnd neg N (y - k) mode := by
 by_cases c : -16384 ≤ y ∧ y ≤ 16384
 ·
  rw [rclamp_id c.1 c.2]
 ·
  by_cases c1 : y < -16384
  ·
   have e : rclamp y = -16384 := by unfold rclamp mn mx; split <;> split <;> omega
   rw [e, rnd_tiny neg hN (by omega), rnd_tiny neg hN (by omega)]
  ·
   have e : rclamp y = 16384 := by unfold rclamp mn mx; split <;> split <;> omega
   rw [e, rnd_great neg hN (by omega), rnd_great neg hN (by omega)]
theorem round_nought (neg : Bool) (y mode : Int) : Ev (fun k => parts_Round.f k neg 0 0 y false mode) (rzero neg, 0) := by
 have hl := len_some (hi := 0) (lo := 0) (by decide) (by decide) (by decide) (by decide)
 unfold parts_Round.f
 refine Ev.bind (g := fun _ => parts_wide_len.f 0 0) (a := 0) (Ev.congr (fun _ => hl) (Ev.now _)) (Ev.congr (fun k => if_pos rfl) ?_)
 exact Ev.bind (g := fun _ => parts_Zero.f neg) (Ev.congr (fun _ => zero_some neg) (Ev.now _)) (Ev.now _)
theorem wide_ev {l : List Int} {v : Int} (h : Nm l v 1024) (hv : 0 < v) (s : Bool) (e mode : Int) (he : -32768 ≤ e) (he' : e ≤ 32768) : Ev (fun k => parts_Wide.f k s l e mode) ((rnd s v e mode).1, (rnd s v e mode).2, 0) := by
 have hl := h.len
 have hb := h.bits (by omega)
 have hbp := bitsOf_pos hv
 have hb1 : bitsOf v ≤ 65536 := by
  have := bitsOf_le (Int.le_of_lt hv) (n := 64 * 1024) (by
   have := h.lt
   rw [show (18446744073709551616 : Int) = 2 ^ 64 by decide, ← Int.pow_mul] at this
   exact this)
  omega
 have eBB : (18446744073709551616 : Int) * 18446744073709551616 = 2 ^ 128 := by decide
 unfold parts_Wide.f
 refine Ev.congr (fun k => (if_neg (by omega)).trans ((if_neg (by omega)).trans (if_neg (by omega)))) (Ev.bind hb ?_)
 rw [w64 (x := bitsOf v - 128) (by omega) (by omega)]
 by_cases c : bitsOf v - 128 > 0
 ·
  obtain ⟨N, hN⟩ : ∃ N : Nat, bitsOf v - 128 = (N : Int) := ⟨(bitsOf v - 128).toNat, by omega⟩
  have hp := two_pow_pos N
  have hq : 0 < v / 2 ^ N := by
   have h1 := bitsOf_low hv
   have h2 : (2 : Int) ^ N ≤ v := Int.le_trans (two_pow_mono (by omega)) h1
   have := Int.le_ediv_of_mul_le hp (show 1 * (2 : Int) ^ N ≤ v by omega)
   omega
  have hcut := bitsOf_cut N hq
  have hlt : v / 2 ^ N < 18446744073709551616 * 18446744073709551616 := by
   rw [eBB]
   have := bitsOf_lt_pow (Int.le_of_lt hq)
   rwa [show (bitsOf (v / 2 ^ N)).toNat = 128 by omega] at this
  obtain ⟨x1, y1⟩ := h.Shr N (by omega) (by omega)
  obtain ⟨q0, q1, q2, q3, q4⟩ := low2 y1 hlt
  have hr := round_clamp s (e + N) N (decide (v % 2 ^ N ≠ 0)) mode q0 q1 q2 q3 hv q4 hq rfl (fun _ => by omega)
  rw [rnd_clamp s hv (e + N) N mode (by omega) (by omega), show e + (N : Int) - N = e by omega] at hr
  refine Ev.congr (fun k => if_pos c) ?_
  rw [hN, w64 (x := e + (N : Int)) (by omega) (by omega)]
  refine Ev.bind (some_ev h (by omega) N (by omega)) (Ev.bind x1 ?_)
  unfold parts_Wide.t
  exact Ev.bind hr (Ev.now _)
 ·
  have hlt : v < 18446744073709551616 * 18446744073709551616 := by
   rw [eBB]
   exact Int.lt_of_lt_of_le (bitsOf_lt_pow (Int.le_of_lt hv)) (two_pow_mono (by omega))
  obtain ⟨q0, q1, q2, q3, q4⟩ := low2 h hlt
  have e1 : v / 2 ^ 0 = v := by rw [Int.pow_zero, Int.ediv_one]
  have e2 : v % 2 ^ 0 = 0 := by rw [Int.pow_zero, Int.emod_one]
  have hr := round_clamp s e 0 false mode q0 q1 q2 q3 hv (by rw [e1]; exact q4) (by rw [e1]; exact hv) (by rw [e2]; rfl) (fun h => absurd e2 h)
  rw [rnd_clamp s hv e 0 mode (by omega) (by omega), show e - ((0 : Nat) : Int) = e by omega] at hr
  refine Ev.congr (fun k => if_neg c) ?_
  unfold parts_Wide.t
  exact Ev.bind hr (Ev.now _)
theorem wide0_ev {l : List Int} (h : Nm l 0 1024) (s : Bool) (e mode : Int) (he : -32768 ≤ e) (he' : e ≤ 32768) : Ev (fun k => parts_Wide.f k s l e mode) (rzero s, 0, 0) := by
 have hl := h.len
 have hb := h.bits (by omega)
 obtain ⟨q0, q1, q2, q3, q4⟩ := low2 h (by decide)
 have e1 : rd l 1 = 0 := by omega
 have e0 : rd l 0 = 0 := by omega
 unfold parts_Wide.f
 refine Ev.congr (fun k => (if_neg (by omega)).trans ((if_neg (by omega)).trans (if_neg (by omega)))) (Ev.bind hb (Ev.congr (fun k => if_neg ?_) ?_))
 ·
  rw [bitsOf_zero, w64 (by decide) (by decide)]
  decide
 ·
  unfold parts_Wide.t
  rw [e1, e0]
  exact Ev.bind (round_nought s e mode) (Ev.now _)
end Go.Proofs.YtjgdpjbkmcjbcaaDoor.PG
end
section
namespace Go.Proofs.YtjgdpjbkmcjbcaaDoor.PG
open Go.RowKit Go.Proofs.YtjgdpjbkmcjbcaaDoorW.PrintWords Go.Proofs.YtjgdpjbkmcjbcaaDoorW.PrintLast Go.Proofs.YtjgdpjbkmcjbcaaDoorW.PrintMore Go.Proofs.YtjgdpjbkmcjbcaaDoor.Num Go.Proofs.YtjgdpjbkmcjbcaaDoor.Flt
set_option linter.unusedVariables false
set_option linter.unusedSimpArgs false
def intS (n mode : Int) : Int × Int := if n = 0 then (0, 0) else rnd (decide (n < 0)) (n.natAbs : Int) 0 mode
theorem u64_abs_neg {n : Int} (h0 : -9223372036854775808 ≤ n) (h : n < 0) : IntKind.u64.wrap (-(IntKind.u64.wrap n)) = (n.natAbs : Int) := by
 rw [IntKind.wrap_u64, IntKind.wrap_u64]
 omega
theorem u64_abs_pos {n : Int} (h0 : 0 ≤ n) (h : n ≤ 9223372036854775807) : IntKind.u64.wrap n = (n.natAbs : Int) := by
 rw [IntKind.wrap_u64]
 omega
theorem fromint_ev {n : Int} (h0 : -9223372036854775808 ≤ n) (h1 : n ≤ 9223372036854775807) (mode : Int) : Ev (fun k => fconv_FromInt.f k n mode) (intS n mode) := by
 unfold fconv_FromInt.f intS
 by_cases hz : n = 0
 ·
  rw [if_pos hz]
  exact Ev.congr (fun k => (if_neg (by omega)).trans (if_pos hz)) (Ev.now _)
 ·
  rw [if_neg hz]
  have hr := round_plain (hi := 0) (lo := (n.natAbs : Int)) (decide (n < 0)) 0 mode (by decide) (by decide) (by omega) (by omega) (by omega) (by decide) (by decide)
  rw [Int.zero_mul, Int.zero_add] at hr
  by_cases c : n < 0
  ·
   refine Ev.congr (fun k => (if_pos c).trans (if_neg hz)) ?_
   rw [u64_abs_neg h0 c]
   exact Ev.bind hr (Ev.now _)
  ·
   refine Ev.congr (fun k => (if_neg c).trans (if_neg hz)) ?_
   rw [u64_abs_pos (by omega) h1]
   exact Ev.bind hr (Ev.now _)
def dyS (s : Bool) (v e mode : Int) : Int × Int := if v = 0 then (0, 0) else rnd s v e mode
theorem fromd_ev {s : Bool} {l : List Int} {v e : Int} (h : Nm l v 1024) (h0 : -16384 ≤ e) (h1 : e ≤ 16384) (mode : Int) : Ev (fun k => fconv_FromDyadic.f k s l e mode) ((dyS s v e mode).1, (dyS s v e mode).2, 0) := by
 have hv := h.nonneg
 have wh := Wh.of (s := s) h
 have hd : dmay l e := ⟨h0, h1, h.len⟩
 have en := dnorm_ev hd (told_wh wh (by omega) e)
 unfold dyS
 by_cases hz : v = 0
 ·
  rw [if_pos hz]
  have hdt : dt (sv s v) e = (false, [], 0, 0) := by
   rw [hz]
   unfold dt
   rw [if_pos (by cases s <;> rfl)]
  rw [hdt] at en
  unfold fconv_FromDyadic.f
  have hw := wide0_ev (l := []) Nm.nil false 0 mode (by decide) (by decide)
  exact Ev.bind en (Ev.congr (fun k => (if_neg (by decide)).trans (if_pos rfl)) (Ev.bind hw (Ev.now _)))
 ·
  rw [if_neg hz]
  obtain ⟨p1, p2, p3⟩ := sv_parts (s := s) (w := v) (by omega)
  rw [dt_wz p1, p3] at en
  unfold fconv_FromDyadic.f
  by_cases hm : dmay (wz (oz (sv s v))).2 (wrap64 (e + t2 v))
  ·
   rw [if_pos hm] at en
   obtain ⟨o1, o2, o3⟩ := oz_abs p1
   have hov := od_val (v := v) (by omega)
   rw [p3] at o1
   have htl := t2_lt (v := v) (n := 1024) (by omega) h.lt
   have hx : wrap64 (e + t2 v) = e + t2 v := w64 (by omega) (by omega)
   rw [hx] at hm en
   have hs : (wz (oz (sv s v))).1 = s := by
    show decide (oz (sv s v) < 0) = s
    rw [o2, p2]
   have hl : (wz (oz (sv s v))).2 = dg 18446744073709551616 (od v) := by
    show dg 18446744073709551616 ((oz (sv s v)).natAbs : Int) = _
    rw [o1]
   rw [hs, hl] at en
   have nm := h.dg_le (w := od v) (by omega) hov.2.2
   have hw := wide_ev nm (by omega) s (e + t2 v) mode (by have := hm.1; omega) (by have := hm.2.1; omega)
   have hr : rnd s (od v) (e + t2 v) mode = rnd s v e mode := rnd_vl mode (by omega) (by omega) (by
    have h := vl_up (od v) e (t2 v) (by omega)
    rw [← h, ← hov.1]) (by omega) (by omega)
   rw [hr] at hw
   exact Ev.bind en (Ev.congr (fun k => (if_neg (show ¬ (0 : Int) = 9 by decide)).trans (if_pos rfl)) (Ev.bind hw (Ev.now _)))
  ·
   rw [if_neg hm] at en
   have hw := wide_ev h (by omega) s e mode (by omega) (by omega)
   exact Ev.bind en (Ev.congr (fun k => (if_neg (by decide)).trans (if_neg (by decide))) (Ev.bind hw (Ev.now _)))
theorem fromd_no {s : Bool} {l : List Int} {e : Int} (h : ¬ dmay l e) (mode : Int) : Ev (fun k => fconv_FromDyadic.f k s l e mode) (0, 0, 9) := by
 unfold fconv_FromDyadic.f
 exact Ev.bind (dnorm_no h) (Ev.congr (fun k => if_pos rfl) (Ev.now _))
end Go.Proofs.YtjgdpjbkmcjbcaaDoor.PG
end
section
namespace Go.Proofs.YtjgdpjbkmcjbcaaDoor.Pure
open Go.RowKit Go.Proofs.YtjgdpjbkmcjbcaaDoor.PG Go.Proofs.YtjgdpjbkmcjbcaaDoorW.PrintWords Go.Proofs.YtjgdpjbkmcjbcaaDoorW.PrintLast Go.Proofs.YtjgdpjbkmcjbcaaDoorW.PrintMore Go.Proofs.YtjgdpjbkmcjbcaaDoor.Num Go.Proofs.YtjgdpjbkmcjbcaaDoor.Flt
set_option linter.unusedVariables false
theorem beq_true {x y : Int} (h : x = y) : (some (x == y) : Option Bool) = some true := by rw [h, beq_self_eq_true]
theorem from_j1 {s : Bool} {l : List Int} {v e : Int} (mode : Int) (h : Nm l v 1048576) (he : -9223372036854775808 ≤ e) (he' : e ≤ 9223372036854775807) : Ev (fun k => vernierlaw13_FconvFrom.j1 k mode s l e) true := by
 obtain ⟨eo, dn⟩ := h.of (by omega)
 have hv := h.nonneg
 have hnil := dg_nil (B := 65536) one_lt_D hv
 by_cases hd : dmay l e
 ·
  have h' : Nm l v 1024 := ⟨h.dig, h.val, hd.2.2⟩
  have dn' : Nd (dg 65536 v) v 4096 := ⟨dn.nrm, dn.val, by
   have := (h'.of (by omega)).2.len
   omega⟩
  have hd0 := hd.1
  have hd1 := hd.2.1
  have hd2 := hd.2.2
  have ef := fromd_ev (s := s) h' hd.1 hd.2.1 mode
  have j2 : Ev (fun k => vernierlaw13_FconvFrom.j2 k mode (dyS s v e mode).1 (dyS s v e mode).2 0 (dg 65536 v) false s l e) true := by
   unfold dyS
   by_cases hz : v = 0
   ·
    rw [if_pos hz]
    refine Ev.step (f := fun _ => some true) (fun k => ?_) (Ev.now _)
    rw [vernierlaw13_FconvFrom.j2, if_neg (by decide), if_pos (by rw [hnil.2 hz]; rfl), if_pos rfl, if_pos (by rw [IntKind.wrap_u64]; rfl), beq_true rfl]
   ·
    rw [if_neg hz]
    have hl0 : ¬ ((dg 65536 v).length : Int) = 0 := fun g => hz (hnil.1 (List.length_eq_zero_iff.1 (by omega)))
    by_cases hl : ((dg 65536 v).length : Int) > 200
    ·
     exact Ev.step (f := fun _ => some true) (fun k => by rw [vernierlaw13_FconvFrom.j2, if_neg (by decide), if_neg hl0, if_pos hl, beq_true rfl]) (Ev.now _)
    ·
     have er := rround_ev dn' (by omega) (by omega) s e mode (by omega) (by omega)
     refine Ev.step (f := _) (fun k => by rw [vernierlaw13_FconvFrom.j2, if_neg (by decide), if_neg hl0, if_neg hl]) (Ev.bind er ?_)
     exact Ev.congr (fun k => (if_pos rfl).trans (if_pos rfl)) (Ev.step (f := fun _ => some true) (fun k => beq_true rfl) (Ev.now _))
  refine Ev.step (f := _) (fun k => by rw [vernierlaw13_FconvFrom.j1]) (Ev.bind ef (Ev.bind eo ?_))
  refine Ev.congr (fun k => (if_neg (by omega)).trans (if_neg (by omega))) ?_
  rw [decide_eq_false (show ¬ (l.length : Int) > 1024 by omega)]
  exact j2
 ·
  have j2 : Ev (fun k => vernierlaw13_FconvFrom.j2 k mode 0 0 9 (dg 65536 v) true s l e) true :=
   Ev.step (f := fun _ => some true) (fun k => by rw [vernierlaw13_FconvFrom.j2, if_pos rfl, if_pos rfl, if_pos rfl, beq_true rfl]) (Ev.now _)
  refine Ev.step (f := _) (fun k => by rw [vernierlaw13_FconvFrom.j1]) (Ev.bind (fromd_no hd mode) (Ev.bind eo ?_))
  by_cases c1 : e < -16384
  ·
   exact Ev.congr (fun k => if_pos c1) j2
  ·
   by_cases c2 : e > 16384
   ·
    exact Ev.congr (fun k => (if_neg c1).trans (if_pos c2)) j2
   ·
    refine Ev.congr (fun k => (if_neg c1).trans (if_neg c2)) ?_
    rw [decide_eq_true (show (l.length : Int) > 1024 by unfold dmay at hd; omega)]
    exact j2
theorem FconvFrom (a0 : Int) (a1_0 : Bool) (l1_1 : List Int) (a1_2 : Int) (a2 : Int) (w0 : (Lit.int .i64 a0).wf = true) (y1_1 : l1_1.length ≤ 1048576) (w1_1 : ∀ n ∈ l1_1, (Lit.int .u64 n).wf = true) (w1_2 : (Lit.int .i64 a1_2).wf = true) (w2 : (Lit.int .i64 a2).wf = true) :
  ∃ k, vernierlaw13_FconvFrom.f k a0 a1_0 l1_1 a1_2 a2 = some true := by
 obtain ⟨h0, h1⟩ := i64_of_wf w0
 obtain ⟨g0, g1⟩ := i64_of_wf w1_2
 have nm := Nm.of_wf (n := 1048576) w1_1 y1_1
 refine Ev.rounds ?_
 have j1 := from_j1 (s := a1_0) a2 nm g0 g1
 have ei := fromint_ev h0 h1 a2
 have j0 : Ev (fun k => vernierlaw13_FconvFrom.j0 k a0 a2 (intS a0 a2).1 (intS a0 a2).2 (a0.natAbs : Int) a1_0 l1_1 a1_2) true := by
  unfold intS
  by_cases hz : a0 = 0
  ·
   rw [if_pos hz]
   exact Ev.step (f := _) (fun k => by rw [vernierlaw13_FconvFrom.j0, if_pos hz, if_pos rfl, if_pos rfl]) j1
  ·
   rw [if_neg hz]
   obtain ⟨ew, dw⟩ := word_ev (x := (a0.natAbs : Int)) (by omega) (by omega)
   have er := rround_ev dw (by omega) (by omega) (decide (a0 < 0)) 0 a2 (by decide) (by decide)
   refine Ev.step (f := _) (fun k => by rw [vernierlaw13_FconvFrom.j0, if_neg hz]) (Ev.bind ew (Ev.bind er ?_))
   exact Ev.congr (fun k => (if_pos rfl).trans (if_pos rfl)) j1
 unfold vernierlaw13_FconvFrom.f
 refine Ev.bind alive13_ev (Ev.congr (fun k => if_pos rfl) (Ev.bind ei ?_))
 by_cases c : a0 < 0
 ·
  refine Ev.congr (fun k => if_pos c) ?_
  rw [u64_abs_neg h0 c]
  exact j0
 ·
  refine Ev.congr (fun k => if_neg c) ?_
  rw [u64_abs_pos (by omega) h1]
  exact j0
end Go.Proofs.YtjgdpjbkmcjbcaaDoor.Pure
end
