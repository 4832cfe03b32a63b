/- Parts of a proof. -/
import Derived.Test.YtjgdpjbkmcjbcaaDoorZDyadicTells42
import Derived.Test.YtjgdpjbkmcjbcaaDoorZDyadicTells46
section
namespace Go.Proofs.YtjgdpjbkmcjbcaaDoor.PG
open Go.RowKit Go.Proofs.YtjgdpjbkmcjbcaaDoorW.PrintWords Go.Proofs.YtjgdpjbkmcjbcaaDoorW.PrintLast Go.Proofs.YtjgdpjbkmcjbcaaDoor.Num
set_option linter.unusedVariables false
set_option linter.unusedSimpArgs false
theorem radd_step (a b : List Int) (ha : Dig 65536 a) (hb : Dig 65536 b) (i : Nat) (out : List Int) (c : Int) (h0 : 0 ≤ c) (h1 : c ≤ 1) (ho : out.length < 17592186044416) (hi : i < 4611686018427387904) {v : List Int}
  (h : Ev (fun k => vernierref01_Add.l0 k a b (out ++ [(c + a.getD i 0 + b.getD i 0) % 65536]) ((c + a.getD i 0 + b.getD i 0) / 65536) ((i + 1 : Nat) : Int)) v) :
  Ev (fun k => vernierref01_Add.j1 k a b out c (i : Int) true) v := by
 have ga := ha.getD D_pos i
 have gb := hb.getD D_pos i
 have ew : wrap64 ((i : Int) + 1) = ((i + 1 : Nat) : Int) := by rw [w64 (by omega) (by omega)]; omega
 refine Ev.step (fun k => ?_) h
 simp only [vernierref01_Add.j1]
 rw [if_pos trivial, ew]
 by_cases h2 : i < a.length
 ·
  rw [if_pos (by omega), if_pos (by omega), rd_nat, rd_nat]
  by_cases h3 : i < b.length
  ·
   rw [if_pos (by omega), if_pos ho, w64 (x := c + a.getD i 0) (by omega) (by omega), w64 (x := c + a.getD i 0 + b.getD i 0) (by omega) (by omega), tmod_nn (by omega), tdiv_nn (by omega), w64 (by omega) (by omega)]
  ·
   rw [if_neg (by omega), if_pos ho, getD_out (l := b) (by omega), w64 (x := c + a.getD i 0) (by omega) (by omega), tmod_nn (by omega), tdiv_nn (by omega), w64 (by omega) (by omega), Int.add_zero]
 ·
  rw [if_neg (by omega), getD_out (l := a) (by omega), Int.add_zero]
  by_cases h3 : i < b.length
  ·
   rw [if_pos (by omega), if_pos (by omega), if_pos ho, rd_nat, w64 (x := c + b.getD i 0) (by omega) (by omega), tmod_nn (by omega), tdiv_nn (by omega), w64 (by omega) (by omega)]
  ·
   rw [if_neg (by omega), if_pos ho, getD_out (l := b) (by omega), Int.add_zero, tmod_nn (by omega), tdiv_nn (by omega), w64 (by omega) (by omega)]
theorem radd_loop (a b : List Int) (ha : Dig 65536 a) (hb : Dig 65536 b) (N : Nat) (hN : N ≤ 8796093022208) (hla : a.length ≤ N) (hlb : b.length ≤ N) : ∀ (d i : Nat) (out : List Int) (c : Int), N + 1 ≤ i + d → i ≤ N + 1 → out.length = i → Dig 65536 out → 0 ≤ c → c ≤ 1 →
  (i = N + 1 → c = 0) → Aside0 (V 65536 out + c * 65536 ^ i = V 65536 (a.take i) + V 65536 (b.take i)) →
  Ev (fun k => vernierref01_Add.l0 k a b out c (i : Int)) (dg 65536 (V 65536 a + V 65536 b))
 | d, i, out, c, hd, hi, ho, hD, h0, h1, hz, hI => by
  by_cases hend : a.length ≤ i ∧ b.length ≤ i ∧ c = 0
  ·
   obtain ⟨h2, h3, h4⟩ := hend
   have hI := hI.out
   rw [V_take_all _ a h2, V_take_all _ b h3, h4, Int.zero_mul, Int.add_zero] at hI
   rw [← hI]
   refine Ev.step (f := fun k => vernierref01_Add.j1 k a b out c (i : Int) false) (fun k => ?_) ?_
   ·
    simp only [vernierref01_Add.l0]
    rw [if_neg (by omega), if_neg (by omega), h4]
    rfl
   ·
    refine Ev.step (f := fun k => (vernierref01_cut.f k out).bind fun t => some t) (fun k => ?_) (rcut_ev' out (by omega) hD)
    simp only [vernierref01_Add.j1]
    rw [if_neg (by decide)]
  ·
   have hiN : i < N + 1 := by
    by_cases e : i = N + 1
    ·
     exact absurd ⟨by omega, by omega, hz e⟩ hend
    ·
     omega
   rcases d with _ | d
   ·
    omega
   have ga := ha.getD D_pos i
   have gb := hb.getD D_pos i
   have step : Ev (fun k => vernierref01_Add.j1 k a b out c (i : Int) true) (dg 65536 (V 65536 a + V 65536 b)) := by
    refine radd_step a b ha hb i out c h0 h1 (by omega) (by omega) (radd_loop a b ha hb N hN hla hlb d (i + 1) _ _ (by omega) (by omega) (by simp; omega) (hD.append (Dig.cons (by omega) (by omega) (Dig.nil _))) (by omega) (by omega) ?_ ⟨?_⟩)
    ·
     intro e
     rw [getD_out (l := a) (by omega), getD_out (l := b) (by omega)]
     omega
    ·
     have hI := hI.out
     rw [V_append, V_take_succ, V_take_succ, ho, Int.pow_succ]
     simp only [V]
     have hs := Int.emod_add_mul_ediv (c + a.getD i 0 + b.getD i 0) 65536
     generalize (c + a.getD i 0 + b.getD i 0) % 65536 = m at *
     generalize (c + a.getD i 0 + b.getD i 0) / 65536 = q at *
     generalize a.getD i 0 = x at *
     generalize b.getD i 0 = y at *
     generalize (65536 : Int) ^ i = p at *
     have : p * (m + 65536 * q) = p * (c + x + y) := by rw [hs]
     grind
   refine Ev.step (fun k => ?_) step
   simp only [vernierref01_Add.l0]
   by_cases h2 : i < a.length
   ·
    rw [if_pos (by omega)]
   ·
    rw [if_neg (by omega)]
    by_cases h3 : i < b.length
    ·
     rw [if_pos (by omega)]
    ·
     have h4 : c > 0 := by
      by_cases e : c = 0
      ·
       exact absurd ⟨by omega, by omega, e⟩ hend
      ·
       omega
     rw [if_neg (by omega), decide_eq_true h4]
theorem radd_ev (a b : List Int) (ha : Dig 65536 a) (hb : Dig 65536 b) (hla : a.length ≤ 8796093022208) (hlb : b.length ≤ 8796093022208) : Ev (fun k => vernierref01_Add.f k a b) (dg 65536 (V 65536 a + V 65536 b)) :=
 Ev.congr (fun k => rfl) (radd_loop a b ha hb 8796093022208 (by omega) hla hlb 8796093022209 0 [] 0 (by omega) (by omega) rfl (Dig.nil _) (by omega) (by omega) (by omega) ⟨by simp [V]⟩)
theorem sub_word {s : Int} (h0 : -65537 ≤ s) (h1 : s ≤ 65535) : Int.tmod (wrap64 (Int.tmod s 65536 + 65536)) 65536 = s % 65536 ∧ wrap64 (Int.tdiv (wrap64 (s - s % 65536)) 65536) = s / 65536 := by
 have hm : Int.tmod s 65536 = if 0 ≤ s then s % 65536 else -((-s) % 65536) := by
  split
  ·
   rename_i h
   exact tmod_nn h
  ·
   rename_i h
   rw [show s = -(-s) by omega, Int.neg_tmod, tmod_nn (by omega)]
   simp
 constructor
 ·
  rw [hm]
  split
  ·
   rw [w64 (by omega) (by omega), tmod_nn (by omega)]
   omega
  ·
   rw [w64 (by omega) (by omega), tmod_nn (by omega)]
   omega
 ·
  rw [w64 (x := s - s % 65536) (by omega) (by omega)]
  have e : s - s % 65536 = 65536 * (s / 65536) := by omega
  rw [e, Int.mul_tdiv_cancel_left _ (by decide), w64 (by omega) (by omega)]
theorem rsub0_step (a b : List Int) (ha : Dig 65536 a) (hb : Dig 65536 b) (i : Nat) (out : List Int) (c : Int) (h0 : -1 ≤ c) (h1 : c ≤ 0) (ho : out.length < 17592186044416) (hi : i < a.length) (hl : a.length ≤ 4611686018427387904) {v : List Int}
  (h : Ev (fun k => vernierref01_Sub.l0 k a b (out ++ [(c + a.getD i 0 - b.getD i 0) % 65536]) ((c + a.getD i 0 - b.getD i 0) / 65536) ((i + 1 : Nat) : Int)) v) :
  Ev (fun k => vernierref01_Sub.l0 k a b out c (i : Int)) v := by
 have ga := ha.getD D_pos i
 have gb := hb.getD D_pos i
 have ew : wrap64 ((i : Int) + 1) = ((i + 1 : Nat) : Int) := by rw [w64 (by omega) (by omega)]; omega
 obtain ⟨s1, s2⟩ := sub_word (s := c + a.getD i 0 - b.getD i 0) (by omega) (by omega)
 refine Ev.step (fun k => ?_) h
 simp only [vernierref01_Sub.l0]
 rw [if_pos (by omega), if_pos (by omega), ew, rd_nat, rd_nat, w64 (x := c + a.getD i 0) (by omega) (by omega)]
 by_cases h3 : i < b.length
 ·
  rw [if_pos (by omega), if_pos ho, w64 (x := c + a.getD i 0 - b.getD i 0) (by omega) (by omega), s1, s2]
 ·
  rw [getD_out (l := b) (by omega), Int.sub_zero] at s1 s2
  rw [if_neg (by omega), if_pos ho, getD_out (l := b) (by omega), Int.sub_zero, s1, s2]
theorem rsub1_step (a b : List Int) (ha : Dig 65536 a) (hb : Dig 65536 b) (i : Nat) (out : List Int) (c : Int) (h0 : -1 ≤ c) (h1 : c ≤ 0) (ho : out.length < 17592186044416) (hi : i < a.length) (hl : a.length ≤ 4611686018427387904) {v : List Int}
  (h : Ev (fun k => vernierref01_Sub.l1 k a b (out ++ [(c + a.getD i 0 - b.getD i 0) % 65536]) ((c + a.getD i 0 - b.getD i 0) / 65536) ((i + 1 : Nat) : Int)) v) :
  Ev (fun k => vernierref01_Sub.l1 k a b out c (i : Int)) v := by
 have ga := ha.getD D_pos i
 have gb := hb.getD D_pos i
 have ew : wrap64 ((i : Int) + 1) = ((i + 1 : Nat) : Int) := by rw [w64 (by omega) (by omega)]; omega
 obtain ⟨s1, s2⟩ := sub_word (s := c + a.getD i 0 - b.getD i 0) (by omega) (by omega)
 refine Ev.step (fun k => ?_) h
 simp only [vernierref01_Sub.l1]
 rw [if_pos (by omega), if_pos (by omega), ew, rd_nat, rd_nat, w64 (x := c + a.getD i 0) (by omega) (by omega)]
 by_cases h3 : i < b.length
 ·
  rw [if_pos (by omega), if_pos ho, w64 (x := c + a.getD i 0 - b.getD i 0) (by omega) (by omega), s1, s2]
 ·
  rw [getD_out (l := b) (by omega), Int.sub_zero] at s1 s2
  rw [if_neg (by omega), if_pos ho, getD_out (l := b) (by omega), Int.sub_zero, s1, s2]
theorem rsub_loop (F : Nat → List Int → List Int → List Int → Int → Int → Option (List Int)) (a b : List Int) (ha : Dig 65536 a) (hb : Dig 65536 b) (hl : a.length ≤ 17592186044415) (hle : V 65536 b ≤ V 65536 a) (hbl : b.length ≤ a.length)
  (step : ∀ (i : Nat) (out : List Int) (c : Int), -1 ≤ c → c ≤ 0 → out.length < 17592186044416 → i < a.length → ∀ {v : List Int}, Ev (fun k => F k a b (out ++ [(c + a.getD i 0 - b.getD i 0) % 65536]) ((c + a.getD i 0 - b.getD i 0) / 65536) ((i + 1 : Nat) : Int)) v → Ev (fun k => F k a b out c (i : Int)) v)
  (fin : ∀ (out : List Int) (c : Int) (i : Nat), a.length ≤ i → ∀ k, F (k + 1) a b out c (i : Int) = (vernierref01_cut.f k out).bind fun t => some t) :
  ∀ (d i : Nat) (out : List Int) (c : Int), a.length = i + d → out.length = i → Dig 65536 out → -1 ≤ c → c ≤ 0 → Aside0 (V 65536 out + c * 65536 ^ i = V 65536 (a.take i) - V 65536 (b.take i)) →
   Ev (fun k => F k a b out c (i : Int)) (dg 65536 (V 65536 a - V 65536 b))
 | 0, i, out, c, hd, ho, hD, h0, h1, hI => by
  have hI := hI.out
  rw [V_take_all _ a (by omega), V_take_all _ b (by omega)] at hI
  have hlt := V_lt D_pos hD
  have hnn := V_nonneg D_pos hD
  have pp := pow_pos' D_pos i
  rw [ho] at hlt
  have hc : c = 0 := by
   have : c = 0 ∨ c = -1 := by omega
   rcases this with h | h
   ·
    exact h
   ·
    subst h; exfalso; omega
  subst hc
  rw [Int.zero_mul, Int.add_zero] at hI
  rw [← hI]
  exact Ev.step (fun k => fin out 0 i (by omega) k) (rcut_ev' out (by omega) hD)
 | d + 1, i, out, c, hd, ho, hD, h0, h1, hI => by
  have ga := ha.getD D_pos i
  have gb := hb.getD D_pos i
  refine step i out c h0 h1 (by omega) (by omega) (rsub_loop F a b ha hb hl hle hbl step fin d (i + 1) _ _ (by omega) (by simp; omega) (hD.append (Dig.cons (by omega) (by omega) (Dig.nil _))) (by omega) (by omega) ⟨?_⟩)
  have hI := hI.out
  rw [V_append, V_take_succ, V_take_succ, ho, Int.pow_succ]
  simp only [V]
  have hs := Int.emod_add_mul_ediv (c + a.getD i 0 - b.getD i 0) 65536
  clear hle
  generalize (c + a.getD i 0 - b.getD i 0) % 65536 = m at *
  generalize (c + a.getD i 0 - b.getD i 0) / 65536 = q at *
  generalize a.getD i 0 = x at *
  generalize b.getD i 0 = y at *
  generalize (65536 : Int) ^ i = p at *
  have : p * (m + 65536 * q) = p * (c + x - y) := by rw [hs]
  grind
theorem rsub_ev (a b : List Int) (ha : Nrm 65536 a) (hb : Nrm 65536 b) (hla : a.length ≤ 17592186044415) (hlb : b.length ≤ 17592186044415) : Ev (fun k => vernierref01_Sub.f k a b) (dg 65536 ((V 65536 a - V 65536 b).natAbs : Int)) := by
 unfold vernierref01_Sub.f
 refine Ev.bind (rcmp_ev a b ha hb (by omega) (by omega)) ?_
 by_cases h : V 65536 a < V 65536 b
 ·
  refine Ev.congr (fun k => if_pos (sgn_neg_iff.2 (by omega))) ?_
  have hln : a.length ≤ b.length := nrm_len one_lt_D ha hb.1 (by omega)
  have := rsub_loop vernierref01_Sub.l0 b a hb.1 ha.1 hlb (by omega) hln (fun i out c x1 x2 x3 x4 {v} hv => rsub0_step b a hb.1 ha.1 i out c x1 x2 x3 x4 (by omega) hv)
   (fun out c i hi k => by simp only [vernierref01_Sub.l0]; rw [if_neg (by omega)]) b.length 0 [] 0 (by omega) rfl (Dig.nil _) (by omega) (by omega) ⟨by simp [V]⟩
  rw [show ((V 65536 a - V 65536 b).natAbs : Int) = V 65536 b - V 65536 a by omega]
  exact this
 ·
  refine Ev.congr (fun k => if_neg (fun h' => h (by have := sgn_neg_iff.1 h'; omega))) ?_
  have hln : b.length ≤ a.length := nrm_len one_lt_D hb ha.1 (by omega)
  have := rsub_loop vernierref01_Sub.l1 a b ha.1 hb.1 hla (by omega) hln (fun i out c x1 x2 x3 x4 {v} hv => rsub1_step a b ha.1 hb.1 i out c x1 x2 x3 x4 (by omega) hv)
   (fun out c i hi k => by simp only [vernierref01_Sub.l1]; rw [if_neg (by omega)]) a.length 0 [] 0 (by omega) rfl (Dig.nil _) (by omega) (by omega) ⟨by simp [V]⟩
  rw [show ((V 65536 a - V 65536 b).natAbs : Int) = V 65536 a - V 65536 b by omega]
  exact this
end Go.Proofs.YtjgdpjbkmcjbcaaDoor.PG
end
section
namespace Go.Proofs.YtjgdpjbkmcjbcaaDoor.PG
open Go.RowKit Go.Proofs.YtjgdpjbkmcjbcaaDoorW.PrintWords Go.Proofs.YtjgdpjbkmcjbcaaDoorW.PrintLast Go.Proofs.YtjgdpjbkmcjbcaaDoor.Num
set_option linter.unusedVariables false
set_option linter.unusedSimpArgs false
theorem mul_digit {x y c s : Int} (hx : 0 ≤ x) (hx' : x < 65536) (hy : 0 ≤ y) (hy' : y < 65536) (hc : 0 ≤ c) (hc' : c < 65536) (hs : 0 ≤ s) (hs' : s < 65536) :
  ∃ m q : Int, Int.tmod (wrap64 (wrap64 (c + s) + wrap64 (x * y))) 65536 = m ∧ wrap64 (Int.tdiv (wrap64 (wrap64 (c + s) + wrap64 (x * y))) 65536) = q ∧
   (y = 0 → Int.tmod (wrap64 (c + s)) 65536 = m ∧ wrap64 (Int.tdiv (wrap64 (c + s)) 65536) = q) ∧ (y = 0 → s = 0 → q = 0) ∧ 0 ≤ m ∧ m < 65536 ∧ 0 ≤ q ∧ q < 65536 ∧ m + 65536 * q = c + s + x * y := by
 have p0 : 0 ≤ x * y := Int.mul_nonneg hx hy
 have p1 : x * y ≤ 65535 * 65535 := Int.mul_le_mul (by omega) (by omega) hy (by omega)
 have pz : y = 0 → x * y = 0 := by rintro rfl; simp
 generalize x * y = m at *
 rw [w64 (x := c + s) (by omega) (by omega), w64 (x := m) (by omega) (by omega), w64 (x := c + s + m) (by omega) (by omega), tmod_nn (x := c + s + m) (by omega), tdiv_nn (x := c + s + m) (by omega), tmod_nn (x := c + s) (by omega), tdiv_nn (x := c + s) (by omega),
  w64 (x := (c + s + m) / 65536) (by omega) (by omega), w64 (x := (c + s) / 65536) (by omega) (by omega)]
 refine ⟨_, _, rfl, rfl, fun h => ?_, fun h h' => ?_, by omega, by omega, by omega, by omega, by omega⟩
 ·
  rw [pz h, Int.add_zero]
  exact ⟨rfl, rfl⟩
 ·
  rw [pz h, h']
  omega
theorem row_val {m q c s x y : Int} (h : m + 65536 * q = c + s + x * y) (p Y W : Int) : W + p * (m - s) + p * 65536 * (q + x * Y) = W + p * (c + x * (y + 65536 * Y)) := by
 have : p * (m + 65536 * q) = p * (c + s + x * y) := by rw [h]
 grind
theorem rmul_row (a b : List Int) (ha : Dig 65536 a) (hb : Dig 65536 b) (i : Nat) (hi : i < a.length) (hM : a.length + b.length + 1 ≤ 35184372088832) {v : List Int} (Z : List Int → Prop)
  (next : ∀ out', Z out' → Ev (fun k => vernierref01_Mul.l0 k a b out' ((i + 1 : Nat) : Int)) v) :
  ∀ (d j : Nat) (out : List Int) (c : Int), b.length + 1 ≤ j + d → j ≤ b.length + 1 → out.length = a.length + b.length + 1 → Dig 65536 out → 0 ≤ c → c < 65536 → (j = b.length + 1 → c = 0) → (∀ t, i + b.length ≤ t → j ≤ b.length → out.getD t 0 = 0) → (∀ t, i + b.length < t → out.getD t 0 = 0) →
   (∀ out', out'.length = a.length + b.length + 1 → Dig 65536 out' → (∀ t, i + b.length < t → out'.getD t 0 = 0) → V 65536 out' = V 65536 out + 65536 ^ (i + j) * (c + a.getD i 0 * V 65536 (b.drop j)) → Z out') →
   Ev (fun k => vernierref01_Mul.l1 k a b out (i : Int) c (j : Int)) v
 | d, j, out, c, hd, hj, ho, hD, h0, h1, hz, hzz, hz2, hZ => by
  have gx := ha.getD D_pos i
  by_cases hend : b.length ≤ j ∧ c = 0
  ·
   obtain ⟨h2, h3⟩ := hend
   have ew : wrap64 ((i : Int) + 1) = ((i + 1 : Nat) : Int) := by rw [w64 (by omega) (by omega)]; omega
   refine Ev.step (f := fun k => vernierref01_Mul.j2 k a b out (i : Int) c (j : Int) false) (fun k => ?_) ?_
   ·
    simp only [vernierref01_Mul.l1]
    rw [if_neg (by omega), h3]
    rfl
   ·
    refine Ev.step (f := fun k => vernierref01_Mul.l0 k a b out ((i + 1 : Nat) : Int)) (fun k => ?_) (next out (hZ out ho hD hz2 (by rw [V_drop_all _ b h2, h3]; simp)))
    simp only [vernierref01_Mul.j2]
    rw [if_neg (by decide), ew]
  ·
   have hjN : j < b.length + 1 := by
    by_cases e : j = b.length + 1
    ·
     exact absurd ⟨by omega, hz e⟩ hend
    ·
     omega
   have hq : Aside0 (b.length ≤ j → c > 0) := ⟨fun h => by
    by_cases e : c = 0
    ·
     exact absurd ⟨h, e⟩ hend
    ·
     omega⟩
   clear hend hz
   rcases d with _ | d
   ·
    omega
   have gy := hb.getD D_pos j
   have gs := hD.getD D_pos (i + j)
   have hlt : i + j < out.length := by omega
   have E1 : Aside0 (wrap64 ((i : Int) + (j : Int)) = ((i + j : Nat) : Int)) := ⟨by rw [w64 (by omega) (by omega)]; omega⟩
   have EW : Aside0 (wrap64 ((j : Int) + 1) = ((j + 1 : Nat) : Int)) := ⟨by rw [w64 (by omega) (by omega)]; omega⟩
   obtain ⟨m, q, m1, m2, m3, m4, m5, m6, m7, m8, hs⟩ := mul_digit gx.1 gx.2 gy.1 gy.2 h0 h1 gs.1 gs.2
   have HM := Aside0.mk m1
   have HQ := Aside0.mk m2
   have HY := Aside0.mk m3
   have HZ := Aside0.mk m4
   have HS := Aside0.mk hs
   clear m1 m2 m3 m4 hs
   have step : Ev (fun k => vernierref01_Mul.j2 k a b out (i : Int) c (j : Int) true) v := by
    refine Ev.step (f := fun k => vernierref01_Mul.l1 k a b (out.set (i + j) m) (i : Int) q ((j + 1 : Nat) : Int)) (fun k => ?_)
     (rmul_row a b ha hb i hi hM Z next d (j + 1) _ _ (by omega) (by omega) (by simpa using ho) (hD.set _ m5 m6) m7 m8 ?_ ?_ ?_ ?_)
    ·
     simp only [vernierref01_Mul.j2]
     rw [if_pos trivial, E1.out, EW.out, if_pos (by omega), if_pos (by omega), Int.toNat_natCast, rd_nat]
     by_cases h3 : j < b.length
     ·
      rw [if_pos (by omega), if_pos (by omega), if_pos (by omega), if_pos (by omega), rd_nat, rd_nat, HM.out, HQ.out]
     ·
      rw [if_neg (by omega), (HY.out (getD_out (by omega))).1, (HY.out (getD_out (by omega))).2]
    ·
     intro e
     exact HZ.out (getD_out (by omega)) (hzz _ (by omega) (by omega))
    ·
     intro t ht hj'
     rw [getD_set _ _ _ _ hlt, if_neg (by omega)]
     exact hzz t ht (by omega)
    ·
     intro t ht
     rw [getD_set _ _ _ _ hlt, if_neg (by omega)]
     exact hz2 t ht
    ·
     intro out' q1 q2 q3 q4
     refine hZ out' q1 q2 q3 ?_
     rw [q4, V_set _ _ _ _ hlt]
     have st : V 65536 (b.drop j) = b.getD j 0 + 65536 * V 65536 (b.drop (j + 1)) := by
      by_cases h : j < b.length
      ·
       exact V_drop_succ _ b j h
      ·
       rw [V_drop_all _ b (by omega), V_drop_all _ b (by omega), getD_out (by omega)]; rfl
     rw [st, show i + (j + 1) = i + j + 1 by omega, Int.pow_succ]
     exact row_val HS.out _ _ _
   refine Ev.step (fun k => ?_) step
   simp only [vernierref01_Mul.l1]
   by_cases h2 : j < b.length
   ·
    rw [if_pos (by omega)]
   ·
    rw [if_neg (by omega), decide_eq_true (hq.out (by omega))]
theorem rmul_loop (a b : List Int) (ha : Dig 65536 a) (hb : Dig 65536 b) (hM : a.length + b.length + 1 ≤ 35184372088832) : ∀ (d i : Nat) (out : List Int), a.length = i + d → out.length = a.length + b.length + 1 → Dig 65536 out → (∀ t, i + b.length ≤ t → out.getD t 0 = 0) →
  V 65536 out = V 65536 (a.take i) * V 65536 b → Ev (fun k => vernierref01_Mul.l0 k a b out (i : Int)) (dg 65536 (V 65536 a * V 65536 b))
 | 0, i, out, hd, ho, hD, hz, hV => by
  rw [V_take_all _ a (by omega)] at hV
  rw [← hV]
  refine Ev.step (f := fun k => (vernierref01_cut.f k out).bind fun t => some t) (fun k => ?_) (rcut_ev' out (by omega) hD)
  simp only [vernierref01_Mul.l0]
  rw [if_neg (by omega)]
 | d + 1, i, out, hd, ho, hD, hz, hV => by
  have row := rmul_row a b ha hb i (by omega) hM (v := dg 65536 (V 65536 a * V 65536 b)) (fun out' => out'.length = a.length + b.length + 1 ∧ Dig 65536 out' ∧ (∀ t, i + 1 + b.length ≤ t → out'.getD t 0 = 0) ∧ V 65536 out' = V 65536 (a.take (i + 1)) * V 65536 b)
   (fun out' h => rmul_loop a b ha hb hM d (i + 1) out' (by omega) h.1 h.2.1 h.2.2.1 h.2.2.2) (b.length + 1) 0 out 0 (by omega) (by omega) ho hD (by omega) (by omega) (by omega) (fun t h1 _ => hz t (by omega)) (fun t h1 => hz t (by omega))
   (fun out' q1 q2 q3 q4 => ⟨q1, q2, fun t ht => q3 t (by omega), by
    rw [q4, hV, V_take_succ, List.drop_zero, Nat.add_zero]
    generalize (65536 : Int) ^ i = p
    grind⟩)
  refine Ev.step (fun k => ?_) row
  simp only [vernierref01_Mul.l0]
  rw [if_pos (by omega)]
  rfl
theorem rmul_ev (a b : List Int) (ha : Dig 65536 a) (hb : Dig 65536 b) (hM : a.length + b.length + 1 ≤ 35184372088832) : Ev (fun k => vernierref01_Mul.f k a b) (dg 65536 (V 65536 a * V 65536 b)) := by
 unfold vernierref01_Mul.f
 have e : wrap64 (wrap64 ((a.length : Int) + (b.length : Int)) + 1) = ((a.length + b.length + 1 : Nat) : Int) := by rw [w64 (x := (a.length : Int) + (b.length : Int)) (by omega) (by omega), w64 (by omega) (by omega)]; omega
 have hz : ∀ t, (List.replicate (a.length + b.length + 1) (0 : Int)).getD t 0 = 0 := by
  intro t
  simp only [List.getD_eq_getElem?_getD, List.getElem?_replicate]
  split <;> rfl
 rw [e]
 refine Ev.congr (fun k => (if_pos (by omega)).trans (if_pos (by omega))) ?_
 rw [Int.toNat_natCast]
 exact rmul_loop a b ha hb hM a.length 0 _ (by omega) (by simp) (Dig.replicate D_pos _) (fun t _ => hz t) (by rw [V_replicate]; simp [V])
theorem rbits_loop : ∀ (f : Nat) (n x : Int), 0 ≤ x → x < 2 ^ f → f ≤ 62 → 0 ≤ n → n + f ≤ 4611686018427387904 → Ev (fun k => vernierref01_Bits.l0 k n x) (n + bitsOf x)
 | 0, n, x, h0, h1, hf, hn, hn1 => by
  obtain rfl : x = 0 := by simp at h1; omega
  refine Ev.step (f := fun _ => some _) (fun k => ?_) (Ev.now _)
  simp only [vernierref01_Bits.l0]
  rw [if_neg (by omega), bitsOf_zero, Int.add_zero]
 | f + 1, n, x, h0, h1, hf, hn, hn1 => by
  by_cases hx : x = 0
  ·
   subst hx
   refine Ev.step (f := fun _ => some _) (fun k => ?_) (Ev.now _)
   simp only [vernierref01_Bits.l0]
   rw [if_neg (by omega), bitsOf_zero, Int.add_zero]
  ·
   have h2 : x / 2 < 2 ^ f := by rw [Int.pow_succ] at h1; omega
   have hb : bitsOf x = bitsOf (x / 2) + 1 := (bitsOf_eq (IsBits.half (by omega) (bitsOf_spec (v := x / 2) (by omega)))).symm
   have hxl : x < 4611686018427387904 := by
    have := two_pow_mono (show f + 1 ≤ 62 by omega)
    have e62 : (2 : Int) ^ 62 = 4611686018427387904 := by decide
    omega
   have := rbits_loop f (n + 1) (x / 2) (by omega) h2 (by omega) (by omega) (by omega)
   refine Ev.step (f := fun k => vernierref01_Bits.l0 k (n + 1) (x / 2)) (fun k => ?_) ?_
   ·
    simp only [vernierref01_Bits.l0]
    rw [if_pos (by omega), w64 (x := n + 1) (by omega) (by omega), tdiv_nn h0, w64 (by omega) (by omega)]
   ·
    rw [hb, show n + (bitsOf (x / 2) + 1) = n + 1 + bitsOf (x / 2) by omega]
    exact this
theorem rbits_ev (a : List Int) (ha : Nrm 65536 a) (hl : a.length ≤ 70368744177664) : Ev (fun k => vernierref01_Bits.f k a) (bitsOf (V 65536 a)) := by
 unfold vernierref01_Bits.f
 by_cases h : a.length = 0
 ·
  obtain rfl : a = [] := List.length_eq_zero_iff.1 h
  exact Ev.congr (fun k => if_pos rfl) (Ev.now _)
 ·
  refine Ev.congr (fun k => if_neg (by omega)) ?_
  have hne : a ≠ [] := by rintro rfl; simp at h
  have ht := ha.2.resolve_left hne
  have g := ha.1.getD D_pos (a.length - 1)
  have e1 : wrap64 ((a.length : Int) - 1) = ((a.length - 1 : Nat) : Int) := by rw [w64 (by omega) (by omega)]; omega
  have hp : 0 < bitsOf (a.getD (a.length - 1) 0) := bitsOf_pos (by omega)
  have := IsBits.last (B := 65536) (s := 16) (by decide) ha.1 hne (bitsOf_spec g.1) (by omega)
  have eb := bitsOf_eq this
  rw [e1]
  refine Ev.congr (fun k => (if_pos (by omega)).trans (if_pos (by omega))) ?_
  rw [rd_nat, w64 (by omega) (by omega), ← eb]
  have := rbits_loop 16 (16 * ((a.length - 1 : Nat) : Int)) (a.getD (a.length - 1) 0) g.1 (by omega) (by omega) (by omega) (by omega)
  exact this
structure Nd (a : List Int) (v : Int) (n : Nat) : Prop where
 nrm : Nrm 65536 a
 val : V 65536 a = v
 len : a.length ≤ n
theorem Nd.nonneg {a v n} (h : Nd a v n) : 0 ≤ v := h.val ▸ V_nonneg D_pos h.nrm.1
theorem Nd.lt {a v n} (h : Nd a v n) : v < 65536 ^ n := h.val ▸ Int.lt_of_lt_of_le (V_lt D_pos h.nrm.1) (pow_le D_pos h.len)
theorem Nd.dg {v : Int} {n : Nat} (h0 : 0 ≤ v) (h1 : v < 65536 ^ n) : Nd (dg 65536 v) v n := ⟨dg_nrm one_lt_D v, dg_val one_lt_D h0, dg_len_le one_lt_D h0 h1⟩
theorem Nd.mono {a v n m} (h : Nd a v n) (hm : n ≤ m) : Nd a v m := ⟨h.nrm, h.val, Nat.le_trans h.len hm⟩
theorem Nd.dg_le {a v n w} (h : Nd a v n) (h0 : 0 ≤ w) (h1 : w ≤ v) : Nd (Num.dg 65536 w) w n := Nd.dg h0 (Int.lt_of_le_of_lt h1 h.lt)
theorem Nm.of {a v n} (h : Nm a v n) (hn : n ≤ 4398046511103) : Ev (fun k => vernierref01_Of.f k a) (Num.dg 65536 v) ∧ Nd (Num.dg 65536 v) v (4 * n) := by
 have h1 := h.len
 have e := of_ev a h.dig (by omega)
 rw [h.val] at e
 refine ⟨e, Nd.dg h.nonneg ?_⟩
 rw [pow_DB]
 exact h.lt
theorem Nd.add {a b v w n m} (p : Nat) (h : Nd a v n) (g : Nd b w m) (hn : n ≤ p) (hm : m ≤ p) (hp : p ≤ 8796093022208) : Ev (fun k => vernierref01_Add.f k a b) (Num.dg 65536 (v + w)) ∧ Nd (Num.dg 65536 (v + w)) (v + w) (p + 1) := by
 have h1 := h.len
 have h2 := g.len
 have e := radd_ev a b h.nrm.1 g.nrm.1 (by omega) (by omega)
 rw [h.val, g.val] at e
 have l1 := (h.mono hn).lt
 have l2 := (g.mono hm).lt
 have n1 := h.nonneg
 have n2 := g.nonneg
 refine ⟨e, Nd.dg (by omega) ?_⟩
 rw [Int.pow_succ]
 omega
theorem Nd.sub {a b v w n m} (p : Nat) (h : Nd a v n) (g : Nd b w m) (hn : n ≤ p) (hm : m ≤ p) (hp : p ≤ 17592186044415) : Ev (fun k => vernierref01_Sub.f k a b) (Num.dg 65536 ((v - w).natAbs : Int)) ∧ Nd (Num.dg 65536 ((v - w).natAbs : Int)) ((v - w).natAbs : Int) p := by
 have h1 := h.len
 have h2 := g.len
 have e := rsub_ev a b h.nrm g.nrm (by omega) (by omega)
 rw [h.val, g.val] at e
 have l1 := (h.mono hn).lt
 have l2 := (g.mono hm).lt
 have n1 := h.nonneg
 have n2 := g.nonneg
 exact ⟨e, Nd.dg (by omega) (by omega)⟩
theorem Nd.mul {a b v w n m} (h : Nd a v n) (g : Nd b w m) (hp : n + m + 1 ≤ 35184372088832) : Ev (fun k => vernierref01_Mul.f k a b) (Num.dg 65536 (v * w)) ∧ Nd (Num.dg 65536 (v * w)) (v * w) (n + m) := by
 have h1 := h.len
 have h2 := g.len
 have e := rmul_ev a b h.nrm.1 g.nrm.1 (by omega)
 rw [h.val, g.val] at e
 have n1 := h.nonneg
 have n2 := g.nonneg
 refine ⟨e, Nd.dg (Int.mul_nonneg n1 n2) ?_⟩
 rw [Int.pow_add]
 have l1 := h.lt
 have l2 := g.lt
 calc v * w ≤ v * 65536 ^ m := Int.mul_le_mul_of_nonneg_left (by omega) n1
  _ < 65536 ^ n * 65536 ^ m := Int.mul_lt_mul_of_pos_right l1 (pow_pos' D_pos m)
theorem Nd.cmp {a b v w n m} (h : Nd a v n) (g : Nd b w m) (hn : n ≤ 4611686018427387904) (hm : m ≤ 4611686018427387904) : Ev (fun k => vernierref01_Cmp.f k a b) (sgn (v - w)) := by
 have h1 := h.len
 have h2 := g.len
 have e := rcmp_ev a b h.nrm g.nrm (by omega) (by omega)
 rwa [h.val, g.val] at e
theorem Nd.bits {a v n} (h : Nd a v n) (hn : n ≤ 70368744177664) : Ev (fun k => vernierref01_Bits.f k a) (bitsOf v) := by
 have h1 := h.len
 have e := rbits_ev a h.nrm (by omega)
 rwa [h.val] at e
theorem Nd.limbs {a v n} (h : Nd a v n) (hn : n ≤ 70368744177664) : Ev (fun k => vernierref01_Limbs.f k a) (Num.dg 18446744073709551616 v) := by
 have h1 := h.len
 have e := limbs_ev a h.nrm (by omega)
 rwa [h.val] at e
end Go.Proofs.YtjgdpjbkmcjbcaaDoor.PG
end
