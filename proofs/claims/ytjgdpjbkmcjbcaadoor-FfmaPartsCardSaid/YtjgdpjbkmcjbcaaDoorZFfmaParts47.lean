/- Parts of a proof. -/
import Derived.Test.YtjgdpjbkmcjbcaaDoorZFfmaParts46
import Derived.Lib.EndianBits
section
namespace Go.Proofs.YtjgdpjbkmcjbcaaDoor.PG
open Go.RowKit Go.Proofs.YtjgdpjbkmcjbcaaDoorW.PrintWords Go.Proofs.YtjgdpjbkmcjbcaaDoorW.PrintLast Go.Proofs.YtjgdpjbkmcjbcaaDoor.Num
set_option linter.unusedVariables false
set_option linter.unusedSimpArgs false
theorem mul_digit {x y c s : Int} (hx : 0 ≤ x) (hx' : x < 65536) (hy : 0 ≤ y) (hy' : y < 65536) (hc : 0 ≤ c) (hc' : c < 65536) (hs : 0 ≤ s) (hs' : s < 65536) :
  ∃ m q : Int, Int.tmod (wrap64 (wrap64 (c + s) + wrap64 (x * y))) 65536 = m ∧ wrap64 (Int.tdiv (wrap64 (wrap64 (c + s) + wrap64 (x * y))) 65536) = q ∧
   (y = 0 → Int.tmod (wrap64 (c + s)) 65536 = m ∧ wrap64 (Int.tdiv (wrap64 (c + s)) 65536) = q) ∧ (y = 0 → s = 0 → q = 0) ∧ 0 ≤ m ∧ m < 65536 ∧ 0 ≤ q ∧ q < 65536 ∧ m + 65536 * q = c + s + x * y := by
 have p0 : 0 ≤ x * y := Int.mul_nonneg hx hy
 have p1 : x * y ≤ 65535 * 65535 := Int.mul_le_mul (by omega) (by omega) hy (by omega)
 have pz : y = 0 → x * y = 0 := by rintro rfl; simp
 generalize x * y = m at *
 rw [w64 (x := c + s) (by omega) (by omega), w64 (x := m) (by omega) (by omega), w64 (x := c + s + m) (by omega) (by omega), tmod_nn (x := c + s + m) (by omega), tdiv_nn (x := c + s + m) (by omega), tmod_nn (x := c + s) (by omega), tdiv_nn (x := c + s) (by omega),
  w64 (x := (c + s + m) / 65536) (by omega) (by omega), w64 (x := (c + s) / 65536) (by omega) (by omega)]
 refine ⟨_, _, rfl, rfl, fun h => ?_, fun h h' => ?_, by omega, by omega, by omega, by omega, by omega⟩
 ·
  rw [pz h, Int.add_zero]
  exact ⟨rfl, rfl⟩
 ·
  rw [pz h, h']
  omega
theorem row_val {m q c s x y : Int} (h : m + 65536 * q = c + s + x * y) (p Y W : Int) : W + p * (m - s) + p * 65536 * (q + x * Y) = W + p * (c + x * (y + 65536 * Y)) := by
 have : p * (m + 65536 * q) = p * (c + s + x * y) := by rw [h]
 grind
theorem rmul_row (a b : List Int) (ha : Dig 65536 a) (hb : Dig 65536 b) (i : Nat) (hi : i < a.length) (hM : a.length + b.length + 1 ≤ 35184372088832) {v : List Int} (Z : List Int → Prop)
  (next : ∀ out', Z out' → Ev (fun k => vernierref01_Mul.l0 k a b out' ((i + 1 : Nat) : Int)) v) :
  ∀ (d j : Nat) (out : List Int) (c : Int), b.length + 1 ≤ j + d → j ≤ b.length + 1 → out.length = a.length + b.length + 1 → Dig 65536 out → 0 ≤ c → c < 65536 → (j = b.length + 1 → c = 0) → (∀ t, i + b.length ≤ t → j ≤ b.length → out.getD t 0 = 0) → (∀ t, i + b.length < t → out.getD t 0 = 0) →
   (∀ out', out'.length = a.length + b.length + 1 → Dig 65536 out' → (∀ t, i + b.length < t → out'.getD t 0 = 0) → V 65536 out' = V 65536 out + 65536 ^ (i + j) * (c + a.getD i 0 * V 65536 (b.drop j)) → Z out') →
   Ev (fun k => vernierref01_Mul.l1 k a b out (i : Int) c (j : Int)) v
 | d, j, out, c, hd, hj, ho, hD, h0, h1, hz, hzz, hz2, hZ => by
  have gx := ha.getD D_pos i
  by_cases hend : b.length ≤ j ∧ c = 0
  ·
   obtain ⟨h2, h3⟩ := hend
   have ew : wrap64 ((i : Int) + 1) = ((i + 1 : Nat) : Int) := by rw [w64 (by omega) (by omega)]; omega
   refine Ev.step (f := fun k => vernierref01_Mul.j2 k a b out (i : Int) c (j : Int) false) (fun k => ?_) ?_
   ·
    simp only [vernierref01_Mul.l1]
    rw [if_neg (by omega), h3]
    rfl
   ·
    refine Ev.step (f := fun k => vernierref01_Mul.l0 k a b out ((i + 1 : Nat) : Int)) (fun k => ?_) (next out (hZ out ho hD hz2 (by rw [V_drop_all _ b h2, h3]; simp)))
    simp only [vernierref01_Mul.j2]
    rw [if_neg (by decide), ew]
  ·
   have hjN : j < b.length + 1 := by
    by_cases e : j = b.length + 1
    ·
     exact absurd ⟨by omega, hz e⟩ hend
    ·
     omega
   have hq : Aside0 (b.length ≤ j → c > 0) := ⟨fun h => by
    by_cases e : c = 0
    ·
     exact absurd ⟨h, e⟩ hend
    ·
     omega⟩
   clear hend hz
   rcases d with _ | d
   ·
    omega
   have gy := hb.getD D_pos j
   have gs := hD.getD D_pos (i + j)
   have hlt : i + j < out.length := by omega
   have E1 : Aside0 (wrap64 ((i : Int) + (j : Int)) = ((i + j : Nat) : Int)) := ⟨by rw [w64 (by omega) (by omega)]; omega⟩
   have EW : Aside0 (wrap64 ((j : Int) + 1) = ((j + 1 : Nat) : Int)) := ⟨by rw [w64 (by omega) (by omega)]; omega⟩
   obtain ⟨m, q, m1, m2, m3, m4, m5, m6, m7, m8, hs⟩ := mul_digit gx.1 gx.2 gy.1 gy.2 h0 h1 gs.1 gs.2
   have HM := Aside0.mk m1
   have HQ := Aside0.mk m2
   have HY := Aside0.mk m3
   have HZ := Aside0.mk m4
   have HS := Aside0.mk hs
   clear m1 m2 m3 m4 hs
   have step : Ev (fun k => vernierref01_Mul.j2 k a b out (i : Int) c (j : Int) true) v := by
    refine Ev.step (f := fun k => vernierref01_Mul.l1 k a b (out.set (i + j) m) (i : Int) q ((j + 1 : Nat) : Int)) (fun k => ?_)
     (rmul_row a b ha hb i hi hM Z next d (j + 1) _ _ (by omega) (by omega) (by simpa using ho) (hD.set _ m5 m6) m7 m8 ?_ ?_ ?_ ?_)
    ·
     simp only [vernierref01_Mul.j2]
     rw [if_pos trivial, E1.out, EW.out, if_pos (by omega), if_pos (by omega), Int.toNat_natCast, rd_nat]
     by_cases h3 : j < b.length
     ·
      rw [if_pos (by omega), if_pos (by omega), if_pos (by omega), if_pos (by omega), rd_nat, rd_nat, HM.out, HQ.out]
     ·
      rw [if_neg (by omega), (HY.out (getD_out (by omega))).1, (HY.out (getD_out (by omega))).2]
    ·
     intro e
     exact HZ.out (getD_out (by omega)) (hzz _ (by omega) (by omega))
    ·
     intro t ht hj'
     rw [getD_set _ _ _ _ hlt, if_neg (by omega)]
     exact hzz t ht (by omega)
    ·
     intro t ht
     rw [getD_set _ _ _ _ hlt, if_neg (by omega)]
     exact hz2 t ht
    ·
     intro out' q1 q2 q3 q4
     refine hZ out' q1 q2 q3 ?_
     rw [q4, V_set _ _ _ _ hlt]
     have st : V 65536 (b.drop j) = b.getD j 0 + 65536 * V 65536 (b.drop (j + 1)) := by
      by_cases h : j < b.length
      ·
       exact V_drop_succ _ b j h
      ·
       rw [V_drop_all _ b (by omega), V_drop_all _ b (by omega), getD_out (by omega)]; rfl
     rw [st, show i + (j + 1) = i + j + 1 by omega, Int.pow_succ]
     exact row_val HS.out _ _ _
   refine Ev.step (fun k => ?_) step
   simp only [vernierref01_Mul.l1]
   by_cases h2 : j < b.length
   ·
    rw [if_pos (by omega)]
   ·
    rw [if_neg (by omega), decide_eq_true (hq.out (by omega))]
theorem rmul_loop (a b : List Int) (ha : Dig 65536 a) (hb : Dig 65536 b) (hM : a.length + b.length + 1 ≤ 35184372088832) : ∀ (d i : Nat) (out : List Int), a.length = i + d → out.length = a.length + b.length + 1 → Dig 65536 out → (∀ t, i + b.length ≤ t → out.getD t 0 = 0) →
  V 65536 out = V 65536 (a.take i) * V 65536 b → Ev (fun k => vernierref01_Mul.l0 k a b out (i : Int)) (dg 65536 (V 65536 a * V 65536 b))
 | 0, i, out, hd, ho, hD, hz, hV => by
  rw [V_take_all _ a (by omega)] at hV
  rw [← hV]
  refine Ev.step (f := fun k => (vernierref01_cut.f k out).bind fun t => some t) (fun k => ?_) (rcut_ev' out (by omega) hD)
  simp only [vernierref01_Mul.l0]
  rw [if_neg (by omega)]
 | d + 1, i, out, hd, ho, hD, hz, hV => by
  have row := rmul_row a b ha hb i (by omega) hM (v := dg 65536 (V 65536 a * V 65536 b)) (fun out' => out'.length = a.length + b.length + 1 ∧ Dig 65536 out' ∧ (∀ t, i + 1 + b.length ≤ t → out'.getD t 0 = 0) ∧ V 65536 out' = V 65536 (a.take (i + 1)) * V 65536 b)
   (fun out' h => rmul_loop a b ha hb hM d (i + 1) out' (by omega) h.1 h.2.1 h.2.2.1 h.2.2.2) (b.length + 1) 0 out 0 (by omega) (by omega) ho hD (by omega) (by omega) (by omega) (fun t h1 _ => hz t (by omega)) (fun t h1 => hz t (by omega))
   (fun out' q1 q2 q3 q4 => ⟨q1, q2, fun t ht => q3 t (by omega), by
    rw [q4, hV, V_take_succ, List.drop_zero, Nat.add_zero]
    generalize (65536 : Int) ^ i = p
    grind⟩)
  refine Ev.step (fun k => ?_) row
  simp only [vernierref01_Mul.l0]
  rw [if_pos (by omega)]
  rfl
theorem rmul_ev (a b : List Int) (ha : Dig 65536 a) (hb : Dig 65536 b) (hM : a.length + b.length + 1 ≤ 35184372088832) : Ev (fun k => vernierref01_Mul.f k a b) (dg 65536 (V 65536 a * V 65536 b)) := by
 unfold vernierref01_Mul.f
 have e : wrap64 (wrap64 ((a.length : Int) + (b.length : Int)) + 1) = ((a.length + b.length + 1 : Nat) : Int) := by rw [w64 (x := (a.length : Int) + (b.length : Int)) (by omega) (by omega), w64 (by omega) (by omega)]; omega
 have hz : ∀ t, (List.replicate (a.length + b.length + 1) (0 : Int)).getD t 0 = 0 := by
  intro t
  simp only [List.getD_eq_getElem?_getD, List.getElem?_replicate]
  split <;> rfl
 rw [e]
 refine Ev.congr (fun k => (if_pos (by omega)).trans (if_pos (by omega))) ?_
 rw [Int.toNat_natCast]
 exact rmul_loop a b ha hb hM a.length 0 _ (by omega) (by simp) (Dig.replicate D_pos _) (fun t _ => hz t) (by rw [V_replicate]; simp [V])
theorem rbits_loop : ∀ (f : Nat) (n x : Int), 0 ≤ x → x < 2 ^ f → f ≤ 62 → 0 ≤ n → n + f ≤ 4611686018427387904 → Ev (fun k => vernierref01_Bits.l0 k n x) (n + bitsOf x)
 | 0, n, x, h0, h1, hf, hn, hn1 => by
  obtain rfl : x = 0 := by simp at h1; omega
  refine Ev.step (f := fun _ => some _) (fun k => ?_) (Ev.now _)
  simp only [vernierref01_Bits.l0]
  rw [if_neg (by omega), bitsOf_zero, Int.add_zero]
 | f + 1, n, x, h0, h1, hf, hn, hn1 => by
  by_cases hx : x = 0
  ·
   subst hx
   refine Ev.step (f := fun _ => some _) (fun k => ?_) (Ev.now _)
   simp only [vernierref01_Bits.l0]
   rw [if_neg (by omega), bitsOf_zero, Int.add_zero]
  ·
   have h2 : x / 2 < 2 ^ f := by rw [Int.pow_succ] at h1; omega
   have hb : bitsOf x = bitsOf (x / 2) + 1 := (bitsOf_eq (IsBits.half (by omega) (bitsOf_spec (v := x / 2) (by omega)))).symm
   have hxl : x < 4611686018427387904 := by
    have := two_pow_mono (show f + 1 ≤ 62 by omega)
    have e62 : (2 : Int) ^ 62 = 4611686018427387904 := by decide
    omega
   have := rbits_loop f (n + 1) (x / 2) (by omega) h2 (by omega) (by omega) (by omega)
   refine Ev.step (f := fun k => vernierref01_Bits.l0 k (n + 1) (x / 2)) (fun k => ?_) ?_
   ·
    simp only [vernierref01_Bits.l0]
    rw [if_pos (by omega), w64 (x := n + 1) (by omega) (by omega), tdiv_nn h0, w64 (by omega) (by omega)]
   ·
    rw [hb, show n + (bitsOf (x / 2) + 1) = n + 1 + bitsOf (x / 2) by omega]
    exact this
theorem rbits_ev (a : List Int) (ha : Nrm 65536 a) (hl : a.length ≤ 70368744177664) : Ev (fun k => vernierref01_Bits.f k a) (bitsOf (V 65536 a)) := by
 unfold vernierref01_Bits.f
 by_cases h : a.length = 0
 ·
  obtain rfl : a = [] := List.length_eq_zero_iff.1 h
  exact Ev.congr (fun k => if_pos rfl) (Ev.now _)
 ·
  refine Ev.congr (fun k => if_neg (by omega)) ?_
  have hne : a ≠ [] := by rintro rfl; simp at h
  have ht := ha.2.resolve_left hne
  have g := ha.1.getD D_pos (a.length - 1)
  have e1 : wrap64 ((a.length : Int) - 1) = ((a.length - 1 : Nat) : Int) := by rw [w64 (by omega) (by omega)]; omega
  have hp : 0 < bitsOf (a.getD (a.length - 1) 0) := bitsOf_pos (by omega)
  have := IsBits.last (B := 65536) (s := 16) (by decide) ha.1 hne (bitsOf_spec g.1) (by omega)
  have eb := bitsOf_eq this
  rw [e1]
  refine Ev.congr (fun k => (if_pos (by omega)).trans (if_pos (by omega))) ?_
  rw [rd_nat, w64 (by omega) (by omega), ← eb]
  have := rbits_loop 16 (16 * ((a.length - 1 : Nat) : Int)) (a.getD (a.length - 1) 0) g.1 (by omega) (by omega) (by omega) (by omega)
  exact this
structure Nd (a : List Int) (v : Int) (n : Nat) : Prop where
 nrm : Nrm 65536 a
 val : V 65536 a = v
 len : a.length ≤ n
theorem Nd.nonneg {a v n} (h : Nd a v n) : 0 ≤ v := h.val ▸ V_nonneg D_pos h.nrm.1
theorem Nd.lt {a v n} (h : Nd a v n) : v < 65536 ^ n := h.val ▸ Int.lt_of_lt_of_le (V_lt D_pos h.nrm.1) (pow_le D_pos h.len)
theorem Nd.dg {v : Int} {n : Nat} (h0 : 0 ≤ v) (h1 : v < 65536 ^ n) : Nd (dg 65536 v) v n := ⟨dg_nrm one_lt_D v, dg_val one_lt_D h0, dg_len_le one_lt_D h0 h1⟩
theorem Nd.mono {a v n m} (h : Nd a v n) (hm : n ≤ m) : Nd a v m := ⟨h.nrm, h.val, Nat.le_trans h.len hm⟩
theorem Nd.dg_le {a v n w} (h : Nd a v n) (h0 : 0 ≤ w) (h1 : w ≤ v) : Nd (Num.dg 65536 w) w n := Nd.dg h0 (Int.lt_of_le_of_lt h1 h.lt)
theorem Nd.eq {a v n} (h : Nd a v n) : a = Num.dg 65536 v := dg_of one_lt_D h.nrm h.val
theorem Nm.of {a v n} (h : Nm a v n) (hn : n ≤ 4398046511103) : Ev (fun k => vernierref01_Of.f k a) (Num.dg 65536 v) ∧ Nd (Num.dg 65536 v) v (4 * n) := by
 have h1 := h.len
 have e := of_ev a h.dig (by omega)
 rw [h.val] at e
 refine ⟨e, Nd.dg h.nonneg ?_⟩
 rw [pow_DB]
 exact h.lt
theorem Nd.add {a b v w n m} (p : Nat) (h : Nd a v n) (g : Nd b w m) (hn : n ≤ p) (hm : m ≤ p) (hp : p ≤ 8796093022208) : Ev (fun k => vernierref01_Add.f k a b) (Num.dg 65536 (v + w)) ∧ Nd (Num.dg 65536 (v + w)) (v + w) (p + 1) := by
 have h1 := h.len
 have h2 := g.len
 have e := radd_ev a b h.nrm.1 g.nrm.1 (by omega) (by omega)
 rw [h.val, g.val] at e
 have l1 := (h.mono hn).lt
 have l2 := (g.mono hm).lt
 have n1 := h.nonneg
 have n2 := g.nonneg
 refine ⟨e, Nd.dg (by omega) ?_⟩
 rw [Int.pow_succ]
 omega
theorem Nd.sub {a b v w n m} (p : Nat) (h : Nd a v n) (g : Nd b w m) (hn : n ≤ p) (hm : m ≤ p) (hp : p ≤ 17592186044415) : Ev (fun k => vernierref01_Sub.f k a b) (Num.dg 65536 ((v - w).natAbs : Int)) ∧ Nd (Num.dg 65536 ((v - w).natAbs : Int)) ((v - w).natAbs : Int) p := by
 have h1 := h.len
 have h2 := g.len
 have e := rsub_ev a b h.nrm g.nrm (by omega) (by omega)
 rw [h.val, g.val] at e
 have l1 := (h.mono hn).lt
 have l2 := (g.mono hm).lt
 have n1 := h.nonneg
 have n2 := g.nonneg
 exact ⟨e, Nd.dg (by omega) (by omega)⟩
theorem Nd.mul {a b v w n m} (h : Nd a v n) (g : Nd b w m) (hp : n + m + 1 ≤ 35184372088832) : Ev (fun k => vernierref01_Mul.f k a b) (Num.dg 65536 (v * w)) ∧ Nd (Num.dg 65536 (v * w)) (v * w) (n + m) := by
 have h1 := h.len
 have h2 := g.len
 have e := rmul_ev a b h.nrm.1 g.nrm.1 (by omega)
 rw [h.val, g.val] at e
 have n1 := h.nonneg
 have n2 := g.nonneg
 refine ⟨e, Nd.dg (Int.mul_nonneg n1 n2) ?_⟩
 rw [Int.pow_add]
 have l1 := h.lt
 have l2 := g.lt
 calc v * w ≤ v * 65536 ^ m := Int.mul_le_mul_of_nonneg_left (by omega) n1
  _ < 65536 ^ n * 65536 ^ m := Int.mul_lt_mul_of_pos_right l1 (pow_pos' D_pos m)
theorem Nd.cmp {a b v w n m} (h : Nd a v n) (g : Nd b w m) (hn : n ≤ 4611686018427387904) (hm : m ≤ 4611686018427387904) : Ev (fun k => vernierref01_Cmp.f k a b) (sgn (v - w)) := by
 have h1 := h.len
 have h2 := g.len
 have e := rcmp_ev a b h.nrm g.nrm (by omega) (by omega)
 rwa [h.val, g.val] at e
theorem Nd.bits {a v n} (h : Nd a v n) (hn : n ≤ 70368744177664) : Ev (fun k => vernierref01_Bits.f k a) (bitsOf v) := by
 have h1 := h.len
 have e := rbits_ev a h.nrm (by omega)
 rwa [h.val] at e
end Go.Proofs.YtjgdpjbkmcjbcaaDoor.PG
end
section
namespace Go.Proofs.YtjgdpjbkmcjbcaaDoor.PG
open Go.RowKit Go.Proofs.YtjgdpjbkmcjbcaaDoorW.PrintWords Go.Proofs.YtjgdpjbkmcjbcaaDoorW.PrintLast Go.Proofs.YtjgdpjbkmcjbcaaDoorW.PrintMore Go.Proofs.YtjgdpjbkmcjbcaaDoor.Num
set_option linter.unusedVariables false
set_option linter.unusedSimpArgs false
theorem ediv_two {x y z : Int} (hy : 0 < y) : x / y / z = x / (y * z) := by rw [Int.ediv_ediv, if_neg (by omega), Int.sub_zero]
theorem gpast {l : List Int} {n : Nat} (h : l.length ≤ n) : l.getD n 0 = 0 := by rw [List.getD_eq_getElem?_getD, List.getElem?_eq_none h]; rfl
theorem two64 {s : Nat} (hs : s ≤ 64) : (2 : Int) ^ s * 2 ^ (64 - s) = 18446744073709551616 := by
 rw [← Int.pow_add, show s + (64 - s) = 64 by omega]
 decide
theorem mod_shift {P Q x : Int} (hP : 0 < P) (hQ : 0 < Q) (h : P * Q = 18446744073709551616) (h0 : 0 ≤ x) : x * P % 18446744073709551616 = P * (x % Q) := by
 have e := Int.emod_add_mul_ediv x Q
 have m0 := Int.emod_nonneg x (show Q ≠ 0 by omega)
 have m1 := Int.emod_lt_of_pos x hQ
 have e1 : x * P = P * (x % Q) + 18446744073709551616 * (x / Q) := by
  rw [← h]
  have : P * (x % Q + Q * (x / Q)) = P * x := by rw [e]
  grind
 rw [e1, Int.add_mul_emod_self_left, Int.emod_eq_of_lt (Int.mul_nonneg (by omega) m0)]
 have : P * (x % Q) ≤ P * (Q - 1) := Int.mul_le_mul_of_nonneg_left (by omega) (by omega)
 have e2 : P * (Q - 1) = 18446744073709551616 - P := by rw [Int.mul_sub, h, Int.mul_one]
 omega
theorem div_two (x : Int) (s : Nat) (hs : s < 64) : x / 2 / 2 ^ (63 - s) = x / 2 ^ (64 - s) := by
 have e : (2 : Int) ^ (64 - s) = 2 * 2 ^ (63 - s) := by
  rw [show 64 - s = 63 - s + 1 by omega, Int.pow_succ, Int.mul_comm]
 rw [e, ediv_two (by decide)]
theorem shl_u64 {x : Int} {s : Nat} (h : s ≤ 64) : shl .u64 x (s : Int) = x * 2 ^ s % 18446744073709551616 := by
 unfold shl
 rw [show IntKind.u64.bits = 64 from rfl, Int.toNat_natCast, Nat.min_eq_left h, IntKind.wrap_u64]
theorem shr_u64 {x : Int} {s : Nat} (h : s ≤ 64) : shr .u64 x (s : Int) = x / 2 ^ s := by
 unfold shr
 rw [show IntKind.u64.bits = 64 from rfl, Int.toNat_natCast, Nat.min_eq_left h]
theorem back63 {s : Nat} (h : s < 64) : IntKind.u64.wrap (63 - (s : Int)) = ((63 - s : Nat) : Int) := by rw [u64w (by omega) (by omega)]; omega
theorem or_high {s : Nat} {x c : Int} (hx0 : 0 ≤ x) (hx : x < 18446744073709551616) (hm : x % 2 ^ s = 0) (hc0 : 0 ≤ c) (hc : c < 2 ^ s) (hc1 : c < 18446744073709551616) : Go.bits .or .u64 x c = x + c :=
 bits_join .u64 64 (by decide) wraps_u64 s x c hx0 hm hx hc0 hc hc1
theorem or_low {s : Nat} {x c : Int} (hx0 : 0 ≤ x) (hx : x < 18446744073709551616) (hm : x % 2 ^ s = 0) (hc0 : 0 ≤ c) (hc : c < 2 ^ s) (hc1 : c < 18446744073709551616) : Go.bits .or .u64 c x = c + x :=
 bits_join_low .u64 64 (by decide) wraps_u64 s c x hc0 hc hc1 hx0 hm hx
end Go.Proofs.YtjgdpjbkmcjbcaaDoor.PG
end
section
namespace Go.Proofs.YtjgdpjbkmcjbcaaDoor.PG
open Go.RowKit Go.Proofs.YtjgdpjbkmcjbcaaDoorW.PrintWords Go.Proofs.YtjgdpjbkmcjbcaaDoorW.PrintLast Go.Proofs.YtjgdpjbkmcjbcaaDoorW.PrintMore Go.Proofs.YtjgdpjbkmcjbcaaDoor.Num
set_option linter.unusedVariables false
set_option linter.unusedSimpArgs false
theorem pow16 (n : Nat) : (2 : Int) ^ n = 65536 ^ (n / 16) * 2 ^ (n % 16) := by
 have e : (65536 : Int) = 2 ^ 16 := by decide
 rw [e, ← Int.pow_mul, ← Int.pow_add]
 congr 1
 omega
theorem pow2_lt16 {m : Nat} (h : m ≤ 15) : (2 : Int) ^ m ≤ 32768 := by
 have := two_pow_mono h
 have e : (2 : Int) ^ 15 = 32768 := by decide
 omega
theorem Nd.one {x : Int} (h0 : 0 < x) (h1 : x < 65536) : Nd [x] x 1 := ⟨⟨Dig.cons (by omega) h1 (Dig.nil _), .inr (by simp; omega)⟩, by simp [V], by simp⟩
theorem Nd.pow_lt {a v m} (h : Nd a v m) (n : Nat) : 2 ^ n * v < 65536 ^ (n / 16 + 1 + m) := by
 rw [Int.pow_add, pow16]
 have h1 := h.lt
 have h0 := h.nonneg
 have hp := pow_pos' D_pos (n / 16)
 have e1 := pow2_lt16 (m := n % 16) (by omega)
 have e2 : (65536 : Int) ^ (n / 16) * 2 ^ (n % 16) ≤ 65536 ^ (n / 16 + 1) := by
  rw [Int.pow_succ]
  exact Int.mul_le_mul_of_nonneg_left (by omega) (by omega)
 calc (65536 : Int) ^ (n / 16) * 2 ^ (n % 16) * v ≤ 65536 ^ (n / 16 + 1) * v := Int.mul_le_mul_of_nonneg_right e2 h0
  _ < 65536 ^ (n / 16 + 1) * 65536 ^ m := Int.mul_lt_mul_of_pos_left h1 (pow_pos' D_pos _)
theorem rshl_loop {a : List Int} {v : Int} {m : Nat} (h : Nd a v m) (n : Nat) (hm : n / 16 + m + 2 < 17592186044416) (hn : n < 4611686018427387904) : ∀ (d i : Nat), n % 16 = i + d →
  Ev (fun k => vernierref01_Shl.l0 k a (n : Int) (List.replicate (n / 16) 0) (2 ^ i) (i : Int)) (dg 65536 (2 ^ n * v))
 | 0, i, hi => by
  have p0 := two_pow_pos i
  have p1 := pow2_lt16 (m := i) (by omega)
  obtain ⟨e1, n1⟩ := h.mul (Nd.one (x := 2 ^ i) p0 (by omega)) (by omega)
  have hl := n1.len
  refine Ev.step (f := fun k => (vernierref01_Mul.f k a [2 ^ i]).bind fun t => if (List.replicate (n / 16) (0 : Int)).length + t.length < 17592186044416 then (vernierref01_cut.f k (List.replicate (n / 16) 0 ++ t)).bind fun t' => some t' else none) (fun k => ?_) ?_
  ·
   simp only [vernierref01_Shl.l0]
   rw [tmod_nn (by omega), if_neg (by omega)]
  refine Ev.bind e1 ?_
  refine Ev.congr (fun k => if_pos (by rw [List.length_replicate]; omega)) ?_
  have hd : Dig 65536 (List.replicate (n / 16) 0 ++ dg 65536 (v * 2 ^ i)) := (Dig.replicate D_pos _).append n1.nrm.1
  have e2 := rcut_ev' _ (by rw [List.length_append, List.length_replicate]; omega) hd
  have ev : V 65536 (List.replicate (n / 16) 0 ++ dg 65536 (v * 2 ^ i)) = 2 ^ n * v := by
   rw [V_append, V_replicate, List.length_replicate, n1.val, pow16 n, show n % 16 = i by omega]
   grind
  rw [ev] at e2
  exact e2
 | d + 1, i, hi => by
  have p1 := pow2_lt16 (m := i) (by omega)
  have p0 := two_pow_pos i
  refine Ev.step (f := fun k => vernierref01_Shl.l0 k a (n : Int) (List.replicate (n / 16) 0) (2 ^ (i + 1)) ((i + 1 : Nat) : Int)) (fun k => ?_) (rshl_loop h n hm hn d (i + 1) (by omega))
  simp only [vernierref01_Shl.l0]
  rw [tmod_nn (by omega), if_pos (by omega), w64 (x := 2 * 2 ^ i) (by omega) (by omega), w64 (by omega) (by omega), Int.pow_succ, Int.mul_comm]
  rfl
theorem Nd.shl {a v m} (h : Nd a v m) (n : Nat) (hm : n / 16 + m + 2 < 17592186044416) (hn : n < 4611686018427387904) : Ev (fun k => vernierref01_Shl.f k a (n : Int)) (Num.dg 65536 (2 ^ n * v)) ∧ Nd (Num.dg 65536 (2 ^ n * v)) (2 ^ n * v) (n / 16 + 1 + m) := by
 refine ⟨?_, Nd.dg (Int.mul_nonneg (Int.le_of_lt (two_pow_pos n)) h.nonneg) (h.pow_lt n)⟩
 have ew : wrap64 (Int.tdiv (n : Int) 16) = ((n / 16 : Nat) : Int) := by rw [tdiv_nn (by omega), w64 (by omega) (by omega)]; omega
 unfold vernierref01_Shl.f
 rw [ew, Int.toNat_natCast]
 refine Ev.congr (fun k => (if_pos (by omega)).trans (if_pos (by omega))) ?_
 have := rshl_loop h n hm hn (n % 16) 0 (by omega)
 exact this
theorem rshr_down {l : List Int} (hl : Dig 65536 l) (p : Int) (hp : 0 < p) (hp' : p ≤ 32768) (hlen : l.length ≤ 4398046511103) : ∀ (j : Nat) (out : List Int) (R : Int), j ≤ l.length → out.length = l.length → Dig 65536 out → 0 ≤ R → R < p → Aside0 (V 65536 (out.drop j) * p + R = V 65536 (l.drop j)) →
  Ev (fun k => vernierref01_Shr.l1 k l p out R ((j : Int) - 1)) (dg 65536 (V 65536 l / p))
 | 0, out, R, hj, ho, dO, h0, h1, hI => by
  have hI' := hI.out
  rw [List.drop_zero, List.drop_zero] at hI'
  have e : V 65536 l / p = V 65536 out := by
   have c : (V 65536 out + 1) * p = V 65536 out * p + p := by grind
   have a := Int.ediv_lt_of_lt_mul hp (show V 65536 l < (V 65536 out + 1) * p by omega)
   have b := Int.le_ediv_of_mul_le hp (show V 65536 out * p ≤ V 65536 l by omega)
   omega
  rw [e]
  refine Ev.step (f := fun k => (vernierref01_cut.f k out).bind fun t => some t) (fun k => ?_) (rcut_ev' out (by omega) dO)
  simp only [vernierref01_Shr.l1]
  rw [if_neg (by omega)]
 | j + 1, out, R, hj, ho, dO, h0, h1, hI => by
  have hx := hl.getD D_pos j
  have hR : R * 65536 ≤ 32767 * 65536 := by omega
  have q0 : 0 ≤ (R * 65536 + l.getD j 0) / p := Int.ediv_nonneg (by omega) (Int.le_of_lt hp)
  have q1 : (R * 65536 + l.getD j 0) / p < 65536 := Int.ediv_lt_of_lt_mul hp (by omega)
  have m0 := Int.emod_nonneg (R * 65536 + l.getD j 0) (show p ≠ 0 by omega)
  have m1 := Int.emod_lt_of_pos (R * 65536 + l.getD j 0) hp
  have hrec := rshr_down hl p hp hp' hlen j (out.set j ((R * 65536 + l.getD j 0) / p)) ((R * 65536 + l.getD j 0) % p) (by omega) (by simpa using ho) (dO.set j q0 q1) m0 m1 ⟨by
   have a1 := V_drop_succ 65536 (out.set j ((R * 65536 + l.getD j 0) / p)) j (by rw [List.length_set]; omega)
   rw [V_drop_set_le 65536 _ out j (j + 1) (Nat.lt_succ_self j), getD_set out j j _ (by omega), if_pos rfl] at a1
   have a2 := V_drop_succ 65536 l j (by omega)
   have a3 := Int.emod_add_mul_ediv (R * 65536 + l.getD j 0) p
   rw [a1, a2, ← hI.out]
   generalize (R * 65536 + l.getD j 0) / p = D at *
   generalize (R * 65536 + l.getD j 0) % p = M at *
   have b1 : (D + 65536 * V 65536 (out.drop (j + 1))) * p = p * D + 65536 * (V 65536 (out.drop (j + 1)) * p) := by grind
   omega⟩
  refine Ev.step (f := fun k => vernierref01_Shr.l1 k l p (out.set j ((R * 65536 + l.getD j 0) / p)) ((R * 65536 + l.getD j 0) % p) ((j : Int) - 1)) (fun k => ?_) hrec
  have e1 : ((j + 1 : Nat) : Int) - 1 = (j : Int) := by omega
  have e2 : wrap64 (R * 65536) = R * 65536 := w64 (by omega) (by omega)
  have e3 : wrap64 (R * 65536 + l.getD j 0) = R * 65536 + l.getD j 0 := w64 (by omega) (by omega)
  have e4 : wrap64 (Int.tdiv (R * 65536 + l.getD j 0) p) = (R * 65536 + l.getD j 0) / p := by rw [tdiv_nn (by omega)]; exact w64 (by omega) (by omega)
  have e5 : Int.tmod (R * 65536 + l.getD j 0) p = (R * 65536 + l.getD j 0) % p := tmod_nn (by omega)
  have e6 : wrap64 ((j : Int) - 1) = (j : Int) - 1 := w64 (by omega) (by omega)
  simp only [vernierref01_Shr.l1]
  rw [e1, rd_nat, e2, e3, e4, e5, e6, if_pos (by omega), if_pos (by omega), if_pos (by omega), if_neg (by omega), if_pos (by omega), Int.toNat_natCast]
theorem rshr_loop {a : List Int} {v : Int} {m : Nat} (h : Nd a v m) (n : Nat) (hn : n / 16 < a.length) (hm : m ≤ 4398046511103) : ∀ (d i : Nat), n % 16 = i + d →
  Ev (fun k => vernierref01_Shr.l0 k a (n : Int) (2 ^ i) (i : Int)) (dg 65536 (v / 2 ^ n))
 | 0, i, hi => by
  have hl := h.len
  have p0 := two_pow_pos i
  have p1 := pow2_lt16 (m := i) (by omega)
  have ew : wrap64 (Int.tdiv (n : Int) 16) = ((n / 16 : Nat) : Int) := by rw [tdiv_nn (by omega), w64 (by omega) (by omega)]; omega
  have hdl : (a.drop (n / 16)).length = a.length - n / 16 := List.length_drop ..
  have hV : V 65536 (a.drop (n / 16)) / 2 ^ i = v / 2 ^ n := by
   have a1 := V_split 65536 a (n := n / 16) (by omega)
   have a2 := V_lt D_pos (h.nrm.1.take (n / 16))
   have a3 := V_nonneg D_pos (h.nrm.1.take (n / 16))
   rw [List.length_take, Nat.min_eq_left (by omega)] at a2
   rw [pow16 n, show n % 16 = i by omega, ← ediv_two (pow_pos' D_pos _), ← h.val, a1, Int.add_mul_ediv_left _ _ (by have := pow_pos' D_pos (n / 16); omega), Int.ediv_eq_zero_of_lt a3 a2, Int.zero_add]
  have hd := h.nrm.1.drop (n / 16)
  have hdown := rshr_down hd (2 ^ i) p0 p1 (by omega) (a.drop (n / 16)).length (List.replicate (a.drop (n / 16)).length 0) 0 (Nat.le_refl _) (by simp) (Dig.replicate D_pos _) (Int.le_refl _) p0 ⟨by
   have l0 : (a.drop (n / 16)).length ≤ (a.drop (n / 16)).length := Nat.le_refl _
   rw [V_drop_all _ _ l0, V_drop_all _ _ (by simp)]; omega⟩
  rw [hV] at hdown
  refine Ev.step (f := fun k => vernierref01_Shr.l1 k (a.drop (n / 16)) (2 ^ i) (List.replicate (a.drop (n / 16)).length 0) 0 (((a.drop (n / 16)).length : Int) - 1)) (fun k => ?_) hdown
  have e6 : wrap64 (((a.drop (n / 16)).length : Int) - 1) = ((a.drop (n / 16)).length : Int) - 1 := w64 (by omega) (by omega)
  unfold vernierref01_Shr.l0
  rw [tmod_nn (by omega), if_neg (by omega), ew, if_pos (by omega), if_pos (by omega), Int.toNat_natCast, Int.toNat_natCast, if_pos (by omega), if_pos (by omega), e6]
 | d + 1, i, hi => by
  have p1 := pow2_lt16 (m := i) (by omega)
  have p0 := two_pow_pos i
  refine Ev.step (f := fun k => vernierref01_Shr.l0 k a (n : Int) (2 ^ (i + 1)) ((i + 1 : Nat) : Int)) (fun k => ?_) (rshr_loop h n hn hm d (i + 1) (by omega))
  rw [vernierref01_Shr.l0, tmod_nn (by omega), if_pos (by omega), w64 (x := 2 * 2 ^ i) (by omega) (by omega), w64 (x := (i : Int) + 1) (by omega) (by omega), Int.pow_succ, Int.mul_comm]
  rfl
theorem Nd.shr {a v m} (h : Nd a v m) (n : Nat) (hm : m ≤ 4398046511103) (hn : n < 4611686018427387904) : Ev (fun k => vernierref01_Shr.f k a (n : Int)) (Num.dg 65536 (v / 2 ^ n)) ∧ Nd (Num.dg 65536 (v / 2 ^ n)) (v / 2 ^ n) m := by
 refine ⟨?_, h.dg_le (Int.ediv_nonneg h.nonneg (Int.le_of_lt (two_pow_pos n))) (Int.ediv_le_self _ h.nonneg)⟩
 have hl := h.len
 have ew : wrap64 (Int.tdiv (n : Int) 16) = ((n / 16 : Nat) : Int) := by rw [tdiv_nn (by omega), w64 (by omega) (by omega)]; omega
 unfold vernierref01_Shr.f
 rw [ew]
 by_cases hc : n / 16 < a.length
 ·
  refine Ev.congr (fun k => if_neg (by omega)) ?_
  have := rshr_loop h n hc hm (n % 16) 0 (by omega)
  exact this
 ·
  refine Ev.congr (fun k => if_pos (by omega)) ?_
  have hlt : v < 2 ^ n := by
   have a1 := V_lt D_pos h.nrm.1
   rw [h.val] at a1
   have a2 := pow_le D_pos (show a.length ≤ n / 16 by omega)
   have a3 : (65536 : Int) ^ (n / 16) ≤ 2 ^ n := by
    rw [pow16 n]
    have : (65536 : Int) ^ (n / 16) * 1 ≤ 65536 ^ (n / 16) * 2 ^ (n % 16) := Int.mul_le_mul_of_nonneg_left (by have := two_pow_pos (n % 16); omega) (Int.le_of_lt (pow_pos' D_pos _))
    omega
   omega
  rw [Int.ediv_eq_zero_of_lt h.nonneg hlt]
  exact Ev.now _
end Go.Proofs.YtjgdpjbkmcjbcaaDoor.PG
end
