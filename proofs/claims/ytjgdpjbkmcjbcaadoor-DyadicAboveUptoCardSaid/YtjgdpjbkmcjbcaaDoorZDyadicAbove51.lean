/- A number rounded up is no less, has no more bits than are told, and is less than one step of these above it: for all numbers of at most 1048576 words. -/
import Derived.Test.YtjgdpjbkmcjbcaaDoorZDyadicAbove50
namespace Go.Proofs.YtjgdpjbkmcjbcaaDoor.Pure
open Go.RowKit Go.Proofs.YtjgdpjbkmcjbcaaDoor.PG Go.Proofs.YtjgdpjbkmcjbcaaDoorW.PrintWords Go.Proofs.YtjgdpjbkmcjbcaaDoorW.PrintLast Go.Proofs.YtjgdpjbkmcjbcaaDoorW.PrintMore Go.Proofs.YtjgdpjbkmcjbcaaDoor.Num Go.Proofs.YtjgdpjbkmcjbcaaDoor.Flt
set_option linter.unusedVariables false
def upw (s : Bool) (v : Int) (N : Nat) : Int := if s = false ∧ v % 2 ^ N ≠ 0 then v / 2 ^ N + 1 else v / 2 ^ N
theorem upw_facts (s : Bool) {v : Int} (N : Nat) (h0 : 0 ≤ v) : 0 ≤ upw s v N ∧ upw s v N ≤ v + 1 ∧ upw s v N ≤ v / 2 ^ N + 1 ∧ v / 2 ^ N ≤ upw s v N ∧ sv s v ≤ sv s (upw s v N) * 2 ^ N ∧ sv s (upw s v N) * 2 ^ N < sv s v + 2 ^ N := by
 have hp := two_pow_pos N
 have hd := Int.emod_add_mul_ediv v (2 ^ N)
 have r0 := Int.emod_nonneg v (show (2 : Int) ^ N ≠ 0 by omega)
 have r1 := Int.emod_lt_of_pos v hp
 have q0 : 0 ≤ v / 2 ^ N := Int.ediv_nonneg h0 (by omega)
 have q1 : v / 2 ^ N ≤ v := Int.ediv_le_self _ h0
 unfold upw
 generalize (2 : Int) ^ N = P at *
 generalize v / P = q at *
 generalize v % P = r at *
 have e1 : (q + 1) * P = P * q + P := by grind
 have e2 : q * P = P * q := Int.mul_comm _ _
 have e3 : -q * P = -(P * q) := by grind
 generalize P * q = Y at *
 cases s
 ·
  simp only [true_and, sv, Bool.false_eq_true, if_false]
  by_cases c : r = 0
  ·
   rw [if_neg (fun h => h c)]
   omega
  ·
   rw [if_pos c]
   omega
 ·
  simp only [Bool.true_eq_false, false_and, if_false, sv, if_true]
  omega
theorem upw_bits (s : Bool) {v b : Int} {N : Nat} (h0 : 0 ≤ v) (hb : 1 ≤ b) (hN : (N : Int) = bitsOf v - b) (hw : 0 < upw s v N) : bitsOf (od (upw s v N)) ≤ b := by
 obtain ⟨c, hc⟩ := Int.eq_ofNat_of_zero_le (show 0 ≤ b by omega)
 subst hc
 have hlt := bitsOf_lt_pow h0
 have hv : v < 2 ^ c * 2 ^ N := by
  rw [← Int.pow_add, show c + N = (bitsOf v).toNat by omega]
  exact hlt
 have hq : v / 2 ^ N < 2 ^ c := Int.ediv_lt_of_lt_mul (two_pow_pos N) hv
 have f := (upw_facts s N h0).2.2.1
 have hov := od_val hw
 by_cases c1 : upw s v N = 2 ^ c
 ·
  have ho : Odd2 (upw s v N) c 0 := by
   unfold Odd2
   rw [c1]
   omega
  have e := od_eq (Int.le_refl 0) ho
  have e1 : od (upw s v N) = 1 := by omega
  rw [e1]
  have : bitsOf 1 = 1 := by decide
  omega
 ·
  exact bitsOf_le (by omega) (by omega)
theorem above_law {s : Bool} {l : List Int} {v e a1 : Int} {n : Nat} (h : Nm l v n) (hn : n ≤ 1048576) (he : -9223372036854775808 ≤ e) (he' : e ≤ 9223372036854775807) (ha : -9223372036854775808 ≤ a1) (ha' : a1 ≤ 9223372036854775807) :
  ∃ (Z x : Int) (ws : Bool) (wl : List Int) (we : Int) (ok : Bool), Ev (fun k => vernierlaw04_above.f k s l e (mx a1 1)) (ws, wl, we, ok) ∧ (dmay l e → Ev (fun k => dyadic_Above.f k s l e a1) (dt Z x)) ∧
   (∀ (s1 s2 : Bool) (l1 l2 : List Int) (e1 e2 : Int), dmay l1 e1 → dmay l2 e2 → Ev (fun k => vernierlaw04_is.f k s1 l1 e1 s2 l2 e2 (dt Z x).1 (dt Z x).2.1 (dt Z x).2.2.1 (dt Z x).2.2.2 ws wl we ok) true) ∧
   ((bitsOf v ≤ mx a1 1 ∧ Z = sv s v ∧ x = e) ∨ ∃ N : Nat, 0 < N ∧ (N : Int) = bitsOf v - mx a1 1 ∧ x = wrap64 (e + N) ∧ Z = sv s (upw s v N)) := by
 have h0 := h.nonneg
 obtain ⟨ed, dn⟩ := h.of (by omega)
 have eb := dn.bits (by omega)
 have ebp := h.bits (by omega)
 have hmx : 1 ≤ mx a1 1 ∧ mx a1 1 ≤ 9223372036854775807 := by unfold mx; split <;> omega
 have b0 := bitsOf_nonneg v
 have b1 : bitsOf v ≤ 64 * n := by
  have := bitsOf_le h0 (n := 64 * n) (by
   have := h.lt
   rw [show (18446744073709551616 : Int) = 2 ^ 64 by decide, ← Int.pow_mul] at this
   exact this)
  omega
 obtain ⟨eno, nno⟩ := h.norm (by omega)
 generalize hb : mx a1 1 = b at *
 by_cases c : bitsOf v - b ≤ 0
 ·
  obtain ⟨ws, wl, we, ok, et, hi⟩ := told_is (s := s) nno (by omega) dn (by omega) he he'
  refine ⟨sv s v, e, ws, wl, we, ok, ?_, ?_, hi, .inl ⟨by omega, rfl, rfl⟩⟩
  ·
   unfold vernierlaw04_above.f
   refine Ev.bind ed (Ev.bind eb ?_)
   rw [w64 (x := bitsOf v - b) (by omega) (by omega)]
   exact Ev.congr (fun k => if_pos c) (Ev.bind et (Ev.now _))
  ·
   intro hd
   unfold dyadic_Above.f
   rw [hb]
   refine Ev.bind (g := fun _ => dyadic_Check.f s l e) (Ev.congr (fun _ => check_ok hd) (Ev.now _)) (Ev.congr (fun k => if_pos rfl) (Ev.bind ebp ?_))
   rw [w64 (x := bitsOf v - b) (by omega) (by omega)]
   exact Ev.congr (fun k => if_pos c) (Ev.bind (dnorm_ev hd (told_wh (Wh.of h) (by omega) e)) (Ev.now _))
 ·
  obtain ⟨N, hN⟩ : ∃ N : Nat, bitsOf v - b = (N : Int) := ⟨(bitsOf v - b).toNat, by omega⟩
  have hf := upw_facts s N h0
  have hp := two_pow_pos N
  have hwr : -9223372036854775808 ≤ wrap64 (e + N) ∧ wrap64 (e + N) ≤ 9223372036854775807 := by unfold wrap64; omega
  have q0 : 0 ≤ v / 2 ^ N := Int.ediv_nonneg h0 (by omega)
  have q1 : v / 2 ^ N ≤ v := Int.ediv_le_self _ h0
  have nq : Nm (dg 18446744073709551616 (v / 2 ^ N)) (v / 2 ^ N) n := h.dg_le q0 q1
  have none1 : Nm [1] 1 1 := Nm.one (by decide) (by decide) (by decide)
  obtain ⟨e1, d1⟩ := dn.shr N (by omega) (by omega)
  obtain ⟨ea, na⟩ := nq.add (n + 1) none1 (by omega) (by omega) (by omega)
  obtain ⟨era, dra⟩ := d1.add (4 * n + 1) (Nd.one (x := 1) (by decide) (by decide)) (by omega) (by omega) (by omega)
  have hdec : ∀ y : Int, y = v % 2 ^ N → (2 ^ N * (v / 2 ^ N) = v ↔ y = 0) := by
   intro y hy
   have := Int.emod_add_mul_ediv v (2 ^ N)
   omega
  have hmod := hdec _ rfl
  have r0 := Int.emod_nonneg v (show (2 : Int) ^ N ≠ 0 by omega)
  have hem := Int.emod_add_mul_ediv v (2 ^ N)
  by_cases cu : s = false ∧ v % 2 ^ N ≠ 0
  ·
   have hw : upw s v N = v / 2 ^ N + 1 := by unfold upw; rw [if_pos cu]
   obtain ⟨cs, cr⟩ := cu
   obtain ⟨ws, wl, we, ok, et, hi⟩ := told_is (s := s) na (by omega) dra (by omega) hwr.1 hwr.2
   refine ⟨sv s (v / 2 ^ N + 1), wrap64 (e + N), ws, wl, we, ok, ?_, ?_, hi, .inr ⟨N, by omega, by omega, rfl, by rw [hw]⟩⟩
   ·
    obtain ⟨e2, d2⟩ := d1.shl N (by omega) (by omega)
    have e3 := d2.cmp dn (by omega) (by omega)
    have hne : sgn (2 ^ N * (v / 2 ^ N) - v) ≠ 0 := fun g => cr (hmod.1 (by have := sgn_zero_iff.1 g; omega))
    unfold vernierlaw04_above.f
    refine Ev.bind ed (Ev.bind eb ?_)
    rw [w64 (x := bitsOf v - b) (by omega) (by omega)]
    refine Ev.congr (fun k => if_neg c) ?_
    rw [hN]
    refine Ev.bind e1 (Ev.congr (fun k => if_neg (by rw [cs]; decide)) (Ev.bind e2 (Ev.bind e3 ?_)))
    rw [bne_iff_ne.2 hne]
    exact Ev.step (f := _) (fun k => by rw [vernierlaw04_above.j0, if_pos rfl]) (Ev.bind era (Ev.bind et (Ev.now _)))
   ·
    intro hd
    have hl := hd.2.2
    have hN' : N ≤ 65536 := by
     have h2 : Nm l v 1024 := ⟨h.dig, h.val, hl⟩
     have := bitsOf_le h0 (n := 64 * 1024) (by
      have := h2.lt
      rw [show (18446744073709551616 : Int) = 2 ^ 64 by decide, ← Int.pow_mul] at this
      exact this)
     omega
    obtain ⟨x1, y1⟩ := h.Shr N (by omega) hN'
    obtain ⟨x2, y2⟩ := y1.Shl N (by omega) hN'
    have x3 := y2.cmp h (by omega) (by omega)
    have hlt : sgn (2 ^ N * (v / 2 ^ N) - v) < 0 := sgn_neg_iff.2 (by omega)
    have ht := told_wh (Wh.of (s := s) na) (by omega) (wrap64 (e + N))
    unfold dyadic_Above.f
    rw [hb]
    refine Ev.bind (g := fun _ => dyadic_Check.f s l e) (Ev.congr (fun _ => check_ok hd) (Ev.now _)) (Ev.congr (fun k => if_pos rfl) (Ev.bind ebp ?_))
    rw [w64 (x := bitsOf v - b) (by omega) (by omega)]
    refine Ev.congr (fun k => if_neg c) ?_
    rw [hN]
    refine Ev.bind x1 (Ev.bind x2 (Ev.congr (fun k => if_neg (by rw [cs]; decide)) (Ev.bind x3 ?_)))
    rw [decide_eq_true hlt]
    exact Ev.step (f := _) (fun k => by rw [dyadic_Above.j0, if_pos rfl]) (Ev.bind ea (Ev.bind ht (Ev.now _)))
  ·
   have hw : upw s v N = v / 2 ^ N := by unfold upw; rw [if_neg cu]
   obtain ⟨ws, wl, we, ok, et, hi⟩ := told_is (s := s) nq (by omega) d1 (by omega) hwr.1 hwr.2
   refine ⟨sv s (v / 2 ^ N), wrap64 (e + N), ws, wl, we, ok, ?_, ?_, hi, .inr ⟨N, by omega, by omega, rfl, by rw [hw]⟩⟩
   ·
    have fin : Ev (fun k => vernierlaw04_above.j0 k (N : Int) (dg 65536 (v / 2 ^ N)) false s l e) (ws, wl, we, ok) := Ev.step (f := _) (fun k => by rw [vernierlaw04_above.j0, if_neg (by decide)]) (Ev.bind et (Ev.now _))
    obtain ⟨e2, d2⟩ := d1.shl N (by omega) (by omega)
    have e3 := d2.cmp dn (by omega) (by omega)
    unfold vernierlaw04_above.f
    refine Ev.bind ed (Ev.bind eb ?_)
    rw [w64 (x := bitsOf v - b) (by omega) (by omega)]
    refine Ev.congr (fun k => if_neg c) ?_
    rw [hN]
    refine Ev.bind e1 ?_
    cases s
    ·
     refine Ev.congr (fun k => if_neg (by decide)) (Ev.bind e2 (Ev.bind e3 ?_))
     have hz : v % 2 ^ N = 0 := by
      by_cases z : v % 2 ^ N = 0
      ·
       exact z
      ·
       exact absurd ⟨rfl, z⟩ cu
     have hs : sgn (2 ^ N * (v / 2 ^ N) - v) = 0 := sgn_zero_iff.2 (by omega)
     rw [hs]
     exact fin
    ·
     exact Ev.congr (fun k => if_pos rfl) fin
   ·
    intro hd
    have hl := hd.2.2
    have hN' : N ≤ 65536 := by
     have h2 : Nm l v 1024 := ⟨h.dig, h.val, hl⟩
     have := bitsOf_le h0 (n := 64 * 1024) (by
      have := h2.lt
      rw [show (18446744073709551616 : Int) = 2 ^ 64 by decide, ← Int.pow_mul] at this
      exact this)
     omega
    obtain ⟨x1, y1⟩ := h.Shr N (by omega) hN'
    obtain ⟨x2, y2⟩ := y1.Shl N (by omega) hN'
    have x3 := y2.cmp h (by omega) (by omega)
    have ht := told_wh (Wh.of (s := s) y1) (by omega) (wrap64 (e + N))
    have fin : Ev (fun k => dyadic_Above.j0 k (N : Int) (dg 18446744073709551616 (v / 2 ^ N)) false s l e) (dt (sv s (v / 2 ^ N)) (wrap64 (e + N))) := Ev.step (f := _) (fun k => by rw [dyadic_Above.j0, if_neg (by decide)]) (Ev.bind ht (Ev.now _))
    unfold dyadic_Above.f
    rw [hb]
    refine Ev.bind (g := fun _ => dyadic_Check.f s l e) (Ev.congr (fun _ => check_ok hd) (Ev.now _)) (Ev.congr (fun k => if_pos rfl) (Ev.bind ebp ?_))
    rw [w64 (x := bitsOf v - b) (by omega) (by omega)]
    refine Ev.congr (fun k => if_neg c) ?_
    rw [hN]
    refine Ev.bind x1 (Ev.bind x2 ?_)
    cases s
    ·
     refine Ev.congr (fun k => if_neg (by decide)) (Ev.bind x3 ?_)
     have hz : v % 2 ^ N = 0 := by
      by_cases z : v % 2 ^ N = 0
      ·
       exact z
      ·
       exact absurd ⟨rfl, z⟩ cu
     have hs : sgn (2 ^ N * (v / 2 ^ N) - v) = 0 := sgn_zero_iff.2 (by omega)
     rw [hs]
     exact fin
    ·
     exact Ev.congr (fun k => if_pos rfl) fin
theorem above_no {s : Bool} {l : List Int} {e a1 : Int} (hd : ¬ dmay l e) : Ev (fun k => dyadic_Above.f k s l e a1) (false, [], 0, 9) := by
 unfold dyadic_Above.f
 exact Ev.bind (g := fun _ => dyadic_Check.f s l e) (Ev.congr (fun _ => check_no hd) (Ev.now _)) (Ev.congr (fun k => if_neg (by decide)) (Ev.now _))
theorem wz_nd {y : Int} {n : Nat} (h : Wh (wz y).1 (wz y).2 y n) (hn : n ≤ 1048576) : Ev (fun k => vernierref01_Of.f k (wz y).2) (dg 65536 (y.natAbs : Int)) ∧ Ev (fun k => vernierref01_Bits.f k (dg 65536 (y.natAbs : Int))) (bitsOf (y.natAbs : Int)) := by
 obtain ⟨a, b⟩ := h.nm.of (by omega)
 exact ⟨a, b.bits (by omega)⟩
theorem DyadicAbove (a0_0 : Bool) (l0_1 : List Int) (a0_2 : Int) (a1 : Int) (y0_1 : l0_1.length ≤ 1048576) (w0_1 : ∀ n ∈ l0_1, (Lit.int .u64 n).wf = true) (w0_2 : (Lit.int .i64 a0_2).wf = true) (w1 : (Lit.int .i64 a1).wf = true) :
  ∃ k, vernierlaw04_DyadicAbove.f k a0_0 l0_1 a0_2 a1 = some true := by
 refine Ev.rounds ?_
 obtain ⟨h0, h0'⟩ := i64_of_wf w0_2
 obtain ⟨h1, h1'⟩ := i64_of_wf w1
 have n0 := Nm.of_wf (n := 1048576) w0_1 y0_1
 generalize V 18446744073709551616 l0_1 = v at n0
 have v0 := n0.nonneg
 obtain ⟨ed, dn⟩ := n0.of (by omega)
 have eb := dn.bits (by omega)
 obtain ⟨Z, x, ws, wl, we, ok, ea, ep, hi, hz⟩ := above_law (s := a0_0) n0 (by omega) h0 h0' h1 h1'
 unfold vernierlaw04_DyadicAbove.f
 refine Ev.bind alive4_ev (Ev.congr (fun k => if_pos rfl) ?_)
 by_cases hd : dmay l0_1 a0_2
 ·
  refine Ev.bind (ep hd) (Ev.bind ea (Ev.bind (hi _ _ _ _ _ _ hd hd) (Ev.congr (fun k => if_pos rfl) ?_)))
  have nn : Nm l0_1 v 1024 := ⟨n0.dig, n0.val, hd.2.2⟩
  have wh : Wh a0_0 l0_1 (sv a0_0 v) 1024 := Wh.of nn
  have hb0 := bitsOf_nonneg v
  have hb1 : bitsOf v ≤ 65536 := by
   have := bitsOf_le v0 (n := 64 * 1024) (by
    have := nn.lt
    rw [show (18446744073709551616 : Int) = 2 ^ 64 by decide, ← Int.pow_mul] at this
    exact this)
   omega
  have hmx : 1 ≤ mx a1 1 ∧ mx a1 1 ≤ 9223372036854775807 := by unfold mx; split <;> omega
  generalize hb : mx a1 1 = b at *
  have hZ : (Z.natAbs : Int) < 18446744073709551616 ^ 1025 := by
   have hl := nn.lt
   have hpw : (18446744073709551616 : Int) ^ 1024 * 2 ≤ 18446744073709551616 ^ 1025 := by rw [Int.pow_succ]; have := pow_pos' B_pos 1024; omega
   generalize (18446744073709551616 : Int) ^ 1025 = P1 at *
   generalize (18446744073709551616 : Int) ^ 1024 = P0 at *
   rcases hz with ⟨_, rfl, _⟩ | ⟨N, _, _, _, rfl⟩
   ·
    unfold sv; split <;> omega
   ·
    have := upw_facts a0_0 N v0
    unfold sv; split <;> omega
  have hx : x = a0_2 ∨ ∃ N : Nat, (N : Int) ≤ 65536 ∧ x = a0_2 + N := by
   rcases hz with ⟨_, _, h⟩ | ⟨N, _, hN, h, _⟩
   ·
    exact .inl h
   ·
    refine .inr ⟨N, by omega, ?_⟩
    rw [h, w64 (by have := hd.1; omega) (by have := hd.2.1; omega)]
  have hd1 := hd.1
  have hd2 := hd.2.1
  have hx0 : -16384 ≤ x ∧ x ≤ 1000000 := by rcases hx with h | ⟨N, hN, h⟩ <;> omega
  rcases dt_any (n := 1025) hZ (by omega) (by omega) hx0.2 with hE | ⟨y, e, t, hE, wy, e0, e1, hy⟩
  ·
   rw [hE]
   exact Ev.congr (fun k => if_neg (by decide)) (Ev.now _)
  ·
   rw [hE]
   refine Ev.congr (fun k => if_pos rfl) ?_
   have ec := dcmp_ev wy wh e0 e1 hd1 hd2
   have hv := dt_any_vl (by omega) hy
   rw [sgn_vl _ _ _ _ e0 hd1, hv] at ec
   refine Ev.bind ec (Ev.congr (fun k => if_pos rfl) ?_)
   obtain ⟨f1, f2⟩ := wz_nd wy (by omega)
   have hU := up2_pos (a0_2 + 200000)
   rcases hz with ⟨hbv, rfl, rfl⟩ | ⟨N, hN0, hN, hxN, rfl⟩
   ·
    have hs0 : sgn (vl (sv a0_0 v) x - vl (sv a0_0 v) x) = 0 := sgn_zero_iff.2 (by omega)
    rw [hs0]
    have hby : bitsOf (y.natAbs : Int) ≤ b := by
     rcases hy with ⟨_, rfl, _⟩ | ⟨_, hz0, _, _, _, rfl⟩
     ·
      exact Int.le_trans (show bitsOf ((0 : Int).natAbs : Int) ≤ 0 by decide) (by omega)
     ·
      obtain ⟨o1, _, _⟩ := oz_abs hz0
      have hvp : 0 < v := by
       by_cases g : v = 0
       ·
        exact absurd (by rw [g]; cases a0_0 <;> rfl) hz0
       ·
        omega
      have sp := sv_parts (s := a0_0) hvp
      rw [o1, sp.2.2]
      have ov := od_val hvp
      have := bitsOf_le (v := od v) (by omega) (n := (bitsOf v).toNat) (by have := bitsOf_lt_pow v0; omega)
      omega
    refine Ev.congr (fun k => if_neg (by decide)) (Ev.bind f1 (Ev.bind f2 ?_))
    rw [decide_eq_false (show ¬ bitsOf (y.natAbs : Int) > b by omega)]
    refine Ev.step (f := _) (fun k => by rw [vernierlaw04_DyadicAbove.j0, if_neg (by decide)]) (Ev.bind ed (Ev.bind eb ?_))
    rw [w64 (x := bitsOf v - b) (by omega) (by omega)]
    exact Ev.congr (fun k => if_pos (by omega)) (Ev.now _)
   ·
    have hf := upw_facts a0_0 N v0
    have hxe : x = a0_2 + N := by rw [hxN, w64 (by omega) (by omega)]
    have hvl : vl (sv a0_0 (upw a0_0 v N)) x = sv a0_0 (upw a0_0 v N) * 2 ^ N * up2 (a0_2 + 200000) := by
     rw [hxe, ← vl_up _ _ _ (by omega)]
     rfl
    have hva : vl (sv a0_0 v) a0_2 = sv a0_0 v * up2 (a0_2 + 200000) := rfl
    have hdiff : sgn (vl (sv a0_0 (upw a0_0 v N)) x - vl (sv a0_0 v) a0_2) = sgn (sv a0_0 (upw a0_0 v N) * 2 ^ N - sv a0_0 v) := by
     rw [hvl, hva, ← Int.sub_mul, sgn_mul hU]
    have hge : ¬ sgn (vl (sv a0_0 (upw a0_0 v N)) x - vl (sv a0_0 v) a0_2) < 0 := by
     rw [hdiff]
     intro g
     have := sgn_neg_iff.1 g
     omega
    have hvp : 0 < v := by
     by_cases g : v = 0
     ·
      rw [g] at hN
      have : bitsOf 0 = 0 := rfl
      omega
     ·
      omega
    have hup : 0 < upw a0_0 v N := by
     have hl : (2 : Int) ^ N ≤ v := by
      have h1 := bitsOf_low hvp
      exact Int.le_trans (two_pow_mono (by omega)) h1
     have := Int.le_ediv_of_mul_le (two_pow_pos N) (show 1 * (2 : Int) ^ N ≤ v by omega)
     omega
    have hby : bitsOf (y.natAbs : Int) ≤ b := by
     rcases hy with ⟨h, _⟩ | ⟨_, hz0, _, _, _, rfl⟩
     ·
      exact absurd h (sv_parts hup).1
     ·
      obtain ⟨o1, _, _⟩ := oz_abs hz0
      rw [o1, (sv_parts hup).2.2]
      exact upw_bits a0_0 v0 hmx.1 hN hup
    refine Ev.congr (fun k => if_neg hge) (Ev.bind f1 (Ev.bind f2 ?_))
    rw [decide_eq_false (show ¬ bitsOf (y.natAbs : Int) > b by omega)]
    refine Ev.step (f := _) (fun k => by rw [vernierlaw04_DyadicAbove.j0, if_neg (by decide)]) (Ev.bind ed (Ev.bind eb ?_))
    rw [w64 (x := bitsOf v - b) (by omega) (by omega), ← hN, w64 (x := a0_2 + (N : Int)) (by omega) (by omega)]
    refine Ev.congr (fun k => if_neg (by omega)) ?_
    have hE1 : -16384 ≤ mn (mx (a0_2 + (N : Int)) (-16384)) 16384 ∧ mn (mx (a0_2 + (N : Int)) (-16384)) 16384 ≤ 16384 ∧ (a0_2 + (N : Int) ≤ 16384 → mn (mx (a0_2 + (N : Int)) (-16384)) 16384 = a0_2 + N) := by
     unfold mn mx
     split <;> split <;> omega
    obtain ⟨E, hE2⟩ : ∃ E, mn (mx (a0_2 + (N : Int)) (-16384)) 16384 = E := ⟨_, rfl⟩
    rw [hE2] at hE1 ⊢
    have eo := dof_ev (a := 1) (e := E) (by decide) (by decide) hE1.1 hE1.2.1
    have w1 : Wh (wz 1).1 (wz 1).2 1 1 := Wh.made (by decide)
    have ho1 : dt 1 E = ((wz 1).1, (wz 1).2, E, 0) := by
     have t0 : t2 1 = 0 := by decide
     have o0 : od 1 = 1 := by decide
     rw [dt_wz (by decide)]
     have : oz 1 = 1 := by decide
     rw [this, if_pos]
     ·
      rw [show ((1 : Int).natAbs : Int) = 1 from rfl, t0, w64 (by omega) (by omega)]
      simp
     ·
      rw [show ((1 : Int).natAbs : Int) = 1 from rfl, t0, w64 (by omega) (by omega)]
      have := w1.nm.len
      unfold dmay
      omega
    rw [ho1] at eo
    have es := dsub_ev wy wh e0 e1 hd1 hd2
    have hm := mn_le' e a0_2
    refine Ev.bind eo (Ev.bind es (Ev.congr (fun k => if_pos rfl) ?_))
    have hS : (((y * up2 (e - mn e a0_2) - sv a0_0 v * up2 (a0_2 - mn e a0_2)).natAbs : Nat) : Int) < 18446744073709551616 ^ 2050 := by
     obtain ⟨m1, m2, _, w3, w4⟩ := level_ev wy wh e0 e1 hd1 hd2
     have l3 := w3.lt
     have l4 := w4.lt
     have hpw : (18446744073709551616 : Int) ^ 2049 * 2 ≤ 18446744073709551616 ^ 2050 := by rw [Int.pow_succ]; have := pow_pos' B_pos 2049; omega
     generalize (18446744073709551616 : Int) ^ 2050 = P1 at *
     generalize (18446744073709551616 : Int) ^ 2049 = P0 at *
     omega
    rcases dt_any (n := 2050) hS (by omega) (x := mn e a0_2) (by omega) (by omega) with hF | ⟨y2, f, t', hF, wf, f0, f1', hy2⟩
    ·
     rw [hF]
     exact Ev.congr (fun k => if_neg (by decide)) (Ev.now _)
    ·
     rw [hF]
     refine Ev.congr (fun k => if_pos rfl) ?_
     by_cases cE : a0_2 + (N : Int) > 16384
     ·
      exact Ev.congr (fun k => if_pos cE) (Ev.now _)
     ·
      refine Ev.congr (fun k => if_neg cE) ?_
      have hEe := hE1.2.2 (by omega)
      have ec2 := dcmp_ev wf (w1.mono (by omega)) f0 f1' hE1.1 hE1.2.1
      have hv2 := dt_any_vl (by omega) hy2
      have hdf : vl (y * up2 (e - mn e a0_2) - sv a0_0 v * up2 (a0_2 - mn e a0_2)) (mn e a0_2) = vl y e - vl (sv a0_0 v) a0_2 := by
       have := vl_sum y (-(sv a0_0 v)) e a0_2 (by omega) (by omega)
       rw [Int.neg_mul, ← Int.sub_eq_add_neg] at this
       rw [this]
       unfold vl
       rw [Int.neg_mul]
       omega
      have hone : vl 1 E = 2 ^ N * up2 (a0_2 + 200000) := by
       rw [hEe, ← vl_up _ _ _ (by omega), Int.one_mul]
       rfl
      have hlt : sgn (vl y2 f - vl 1 E) < 0 := by
       rw [hv2, hdf, hv, hvl, hva, hone, ← Int.sub_mul, ← Int.sub_mul, sgn_mul hU]
       exact sgn_neg_iff.2 (by omega)
      rw [sgn_vl _ _ _ _ f0 hE1.1] at ec2
      refine Ev.bind ec2 (Ev.congr (fun k => if_pos rfl) ?_)
      rw [decide_eq_true hlt]
      exact Ev.now _
 ·
  refine Ev.bind (above_no hd) (Ev.bind ea (Ev.bind (is_no (fun h => hd h.1) _ _ _ _) (Ev.congr (fun k => if_pos rfl) ?_)))
  exact Ev.congr (fun k => if_neg (by decide)) (Ev.now _)
end Go.Proofs.YtjgdpjbkmcjbcaaDoor.Pure
