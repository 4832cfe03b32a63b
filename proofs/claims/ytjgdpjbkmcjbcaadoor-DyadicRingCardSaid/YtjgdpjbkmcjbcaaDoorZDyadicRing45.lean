/- Parts of a proof. -/
import Derived.Test.YtjgdpjbkmcjbcaaDoorZDyadicRing44
import Derived.Test.YtjgdpjbkmcjbcaaDoorZDyadicRing40
section
namespace Go.Proofs.YtjgdpjbkmcjbcaaDoor.PG
open Go.RowKit Go.Proofs.YtjgdpjbkmcjbcaaDoorW.PrintWords Go.Proofs.YtjgdpjbkmcjbcaaDoorW.PrintLast Go.Proofs.YtjgdpjbkmcjbcaaDoor.Num
set_option linter.unusedVariables false
structure Nm (a : List Int) (v : Int) (n : Nat) : Prop where
 dig : Dig 18446744073709551616 a
 val : V 18446744073709551616 a = v
 len : a.length ≤ n
theorem Nm.nonneg {a v n} (h : Nm a v n) : 0 ≤ v := h.val ▸ V_nonneg B_pos h.dig
theorem Nm.lt {a v n} (h : Nm a v n) : v < 18446744073709551616 ^ n := h.val ▸ Int.lt_of_lt_of_le (V_lt B_pos h.dig) (pow_le B_pos h.len)
theorem Nm.of_wf {l : List Int} {n : Nat} (h : ∀ x ∈ l, (Lit.int .u64 x).wf = true) (hl : l.length ≤ n) : Nm l (V 18446744073709551616 l) n := ⟨dig_of_wf h, rfl, hl⟩
theorem Nm.dg {v : Int} {n : Nat} (h0 : 0 ≤ v) (h1 : v < 18446744073709551616 ^ n) : Nm (dg 18446744073709551616 v) v n := ⟨dg_dig one_lt_B v, dg_val one_lt_B h0, dg_len_le one_lt_B h0 h1⟩
theorem Nm.dg_le {a v n w} (h : Nm a v n) (h0 : 0 ≤ w) (h1 : w ≤ v) : Nm (Num.dg 18446744073709551616 w) w n := Nm.dg h0 (Int.lt_of_le_of_lt h1 h.lt)
theorem Nm.mono {a v n m} (h : Nm a v n) (hm : n ≤ m) : Nm a v m := ⟨h.dig, h.val, Nat.le_trans h.len hm⟩
theorem Nm.nil {n} : Nm [] 0 n := ⟨Dig.nil _, rfl, by simp⟩
theorem Nm.one {x : Int} {n : Nat} (h0 : 0 ≤ x) (h1 : x < 18446744073709551616) (hn : 1 ≤ n) : Nm [x] x n := ⟨Dig.cons h0 h1 (Dig.nil _), by simp [V], by simpa using hn⟩
theorem Nm.add {a b v w n m} (p : Nat) (h : Nm a v n) (g : Nm b w m) (hn : n ≤ p) (hm : m ≤ p) (hp : p < 35184372088832) : Ev (fun k => nat_Add.f k a b) (Num.dg 18446744073709551616 (v + w)) ∧ Nm (Num.dg 18446744073709551616 (v + w)) (v + w) (p + 1) := by
 have h1 := h.len
 have h2 := g.len
 have e := add_ev a b h.dig g.dig (by omega) (by omega)
 rw [h.val, g.val] at e
 have l1 := (h.mono hn).lt
 have l2 := (g.mono hm).lt
 have n1 := h.nonneg
 have n2 := g.nonneg
 have pp := pow_pos' B_pos p
 refine ⟨e, Nm.dg (by omega) ?_⟩
 rw [Int.pow_succ]
 omega
theorem Nm.sub {a b v w n m} (p : Nat) (h : Nm a v n) (g : Nm b w m) (hn : n ≤ p) (hm : m ≤ p) (hp : p < 35184372088832) : Ev (fun k => nat_Sub.f k a b) (Num.dg 18446744073709551616 ((v - w).natAbs : Int)) ∧ Nm (Num.dg 18446744073709551616 ((v - w).natAbs : Int)) ((v - w).natAbs : Int) p := by
 have h1 := h.len
 have h2 := g.len
 have e := sub_ev a b h.dig g.dig (by omega) (by omega)
 rw [h.val, g.val] at e
 have l1 := (h.mono hn).lt
 have l2 := (g.mono hm).lt
 have n1 := h.nonneg
 have n2 := g.nonneg
 exact ⟨e, Nm.dg (by omega) (by omega)⟩
theorem Nm.mul {a b v w n m} (h : Nm a v n) (g : Nm b w m) (hp : n + m < 35184372088832) : Ev (fun k => nat_Mul.f k a b) (Num.dg 18446744073709551616 (v * w)) ∧ Nm (Num.dg 18446744073709551616 (v * w)) (v * w) (n + m) := by
 have h1 := h.len
 have h2 := g.len
 have e := mul_ev a b h.dig g.dig (by omega)
 rw [h.val, g.val] at e
 have n1 := h.nonneg
 have n2 := g.nonneg
 refine ⟨e, Nm.dg (Int.mul_nonneg n1 n2) ?_⟩
 rw [Int.pow_add]
 have l1 := h.lt
 have l2 := g.lt
 have pp := pow_pos' B_pos n
 calc v * w ≤ v * 18446744073709551616 ^ m := Int.mul_le_mul_of_nonneg_left (by omega) n1
  _ < 18446744073709551616 ^ n * 18446744073709551616 ^ m := Int.mul_lt_mul_of_pos_right l1 (pow_pos' B_pos m)
theorem Nm.norm {a v n} (h : Nm a v n) (hp : n ≤ 17592186044416) : Ev (fun k => nat_Norm.f k a) (Num.dg 18446744073709551616 v) ∧ Nm (Num.dg 18446744073709551616 v) v n := by
 have h1 := h.len
 have e := norm_ev a (by omega) h.dig
 rw [h.val] at e
 exact ⟨e, h.dg_le h.nonneg (Int.le_refl _)⟩
theorem Nm.cmp {a b v w n m} (h : Nm a v n) (g : Nm b w m) (hn : n ≤ 4611686018427387904) (hm : m ≤ 4611686018427387904) : Ev (fun k => nat_Cmp.f k a b) (sgn (v - w)) := by
 have h1 := h.len
 have h2 := g.len
 have e := cmp_ev a b h.dig g.dig (by omega) (by omega)
 rwa [h.val, g.val] at e
theorem Nm.bits {a v n} (h : Nm a v n) (hn : n ≤ 35184372088832) : Ev (fun k => nat_Bits.f k a) (bitsOf v) := by
 have h1 := h.len
 have e := bits_ev a h.dig (by omega)
 rwa [h.val] at e
theorem Nm.same {v w : Int} {n : Nat} (e : v = w) (h : Nm (Num.dg 18446744073709551616 v) v n) (hn : n ≤ 4611686018427387904) : Ev (fun k => vernierref01_Same.f k (Num.dg 18446744073709551616 v) (Num.dg 18446744073709551616 w)) true :=
 same_true (by rw [e]) (Nat.le_trans h.len hn)
end Go.Proofs.YtjgdpjbkmcjbcaaDoor.PG
end
section
namespace Go.Proofs.YtjgdpjbkmcjbcaaDoor.PG
open Go.RowKit Go.Proofs.YtjgdpjbkmcjbcaaDoorW.PrintWords Go.Proofs.YtjgdpjbkmcjbcaaDoorW.PrintLast Go.Proofs.YtjgdpjbkmcjbcaaDoor.Num
set_option linter.unusedVariables false
set_option linter.unusedSimpArgs false
theorem one_lt_D : (1 : Int) < 65536 := by decide
theorem D_pos : (0 : Int) < 65536 := by decide
theorem tmod_nn {x y : Int} (h : 0 ≤ x) : Int.tmod x y = x % y := Int.tmod_eq_emod_of_nonneg h
theorem tdiv_nn {x y : Int} (h : 0 ≤ x) : Int.tdiv x y = x / y := Int.tdiv_eq_ediv_of_nonneg h
theorem getD_out {l : List Int} {n : Nat} (h : l.length ≤ n) : l.getD n 0 = 0 := by rw [List.getD_eq_getElem?_getD, List.getElem?_eq_none h]; rfl
theorem rcut_loop (l : List Int) (hl : l.length ≤ 4611686018427387904) (hd : Dig 65536 l) : ∀ n : Nat, n ≤ l.length → (∀ i, n ≤ i → l.getD i 0 = 0) → Ev (fun k => vernierref01_cut.l0 k l (n : Int)) (dg 65536 (V 65536 l))
 | 0, _, hz => by
  have e : (0 : Nat) = szN l := szN_uniq l hz (.inl rfl)
  refine Ev.step (f := fun _ => some (dg 65536 (V 65536 l))) (fun k => ?_) (Ev.now _)
  simp only [vernierref01_cut.l0]
  rw [if_neg (by omega), if_pos (by omega), if_pos (by omega), ← trim_dg one_lt_D hd]
  unfold trim
  rw [← e]
  rfl
 | n + 1, hn, hz => by
  have ew : wrap64 (((n + 1 : Nat) : Int) - 1) = (n : Int) := by rw [w64 (by omega) (by omega)]; omega
  by_cases h0 : l.getD n 0 = 0
  ·
   refine Ev.step (f := fun k => vernierref01_cut.l0 k l (n : Int)) (fun k => ?_) (rcut_loop l hl hd n (by omega) (fun i hi => ?_))
   ·
    simp only [vernierref01_cut.l0]
    rw [if_pos (by omega), ew, if_pos (by omega), if_pos (by omega), rd_nat, if_pos h0]
   ·
    by_cases e : i = n
    ·
     rw [e]; exact h0
    ·
     exact hz i (by omega)
  ·
   have e : n + 1 = szN l := szN_uniq l hz (.inr (by simpa using h0))
   refine Ev.step (f := fun _ => some (dg 65536 (V 65536 l))) (fun k => ?_) (Ev.now _)
   simp only [vernierref01_cut.l0]
   rw [if_pos (by omega), ew, if_pos (by omega), if_pos (by omega), rd_nat, if_neg h0, if_pos (by omega), if_pos (by omega), ← trim_dg one_lt_D hd]
   unfold trim
   rw [← e, Int.toNat_natCast]
theorem rcut_ev (l : List Int) (hl : l.length ≤ 4611686018427387904) (hd : Dig 65536 l) : Ev (fun k => vernierref01_cut.f k l) (dg 65536 (V 65536 l)) :=
 Ev.congr (fun k => rfl) (rcut_loop l hl hd l.length (Nat.le_refl _) (fun i hi => getD_out hi))
theorem rcut_ev' (l : List Int) (hl : l.length ≤ 4611686018427387904) (hd : Dig 65536 l) : Ev (fun k => (vernierref01_cut.f k l).bind fun t => some t) (dg 65536 (V 65536 l)) :=
 Ev.bind (rcut_ev l hl hd) (Ev.now _)
end Go.Proofs.YtjgdpjbkmcjbcaaDoor.PG
end
section
namespace Go.Proofs.YtjgdpjbkmcjbcaaDoor.PG
open Go.RowKit Go.Proofs.YtjgdpjbkmcjbcaaDoorW.PrintWords Go.Proofs.YtjgdpjbkmcjbcaaDoorW.PrintLast Go.Proofs.YtjgdpjbkmcjbcaaDoor.Num
set_option linter.unusedVariables false
set_option linter.unusedSimpArgs false
theorem radd_step (a b : List Int) (ha : Dig 65536 a) (hb : Dig 65536 b) (i : Nat) (out : List Int) (c : Int) (h0 : 0 ≤ c) (h1 : c ≤ 1) (ho : out.length < 17592186044416) (hi : i < 4611686018427387904) {v : List Int}
  (h : Ev (fun k => vernierref01_Add.l0 k a b (out ++ [(c + a.getD i 0 + b.getD i 0) % 65536]) ((c + a.getD i 0 + b.getD i 0) / 65536) ((i + 1 : Nat) : Int)) v) :
  Ev (fun k => vernierref01_Add.j1 k a b out c (i : Int) true) v := by
 have ga := ha.getD D_pos i
 have gb := hb.getD D_pos i
 have ew : wrap64 ((i : Int) + 1) = ((i + 1 : Nat) : Int) := by rw [w64 (by omega) (by omega)]; omega
 refine Ev.step (fun k => ?_) h
 simp only [vernierref01_Add.j1]
 rw [if_pos trivial, ew]
 by_cases h2 : i < a.length
 ·
  rw [if_pos (by omega), if_pos (by omega), rd_nat, rd_nat]
  by_cases h3 : i < b.length
  ·
   rw [if_pos (by omega), if_pos ho, w64 (x := c + a.getD i 0) (by omega) (by omega), w64 (x := c + a.getD i 0 + b.getD i 0) (by omega) (by omega), tmod_nn (by omega), tdiv_nn (by omega), w64 (by omega) (by omega)]
  ·
   rw [if_neg (by omega), if_pos ho, getD_out (l := b) (by omega), w64 (x := c + a.getD i 0) (by omega) (by omega), tmod_nn (by omega), tdiv_nn (by omega), w64 (by omega) (by omega), Int.add_zero]
 ·
  rw [if_neg (by omega), getD_out (l := a) (by omega), Int.add_zero]
  by_cases h3 : i < b.length
  ·
   rw [if_pos (by omega), if_pos (by omega), if_pos ho, rd_nat, w64 (x := c + b.getD i 0) (by omega) (by omega), tmod_nn (by omega), tdiv_nn (by omega), w64 (by omega) (by omega)]
  ·
   rw [if_neg (by omega), if_pos ho, getD_out (l := b) (by omega), Int.add_zero, tmod_nn (by omega), tdiv_nn (by omega), w64 (by omega) (by omega)]
theorem radd_loop (a b : List Int) (ha : Dig 65536 a) (hb : Dig 65536 b) (N : Nat) (hN : N ≤ 8796093022208) (hla : a.length ≤ N) (hlb : b.length ≤ N) : ∀ (d i : Nat) (out : List Int) (c : Int), N + 1 ≤ i + d → i ≤ N + 1 → out.length = i → Dig 65536 out → 0 ≤ c → c ≤ 1 →
  (i = N + 1 → c = 0) → Aside0 (V 65536 out + c * 65536 ^ i = V 65536 (a.take i) + V 65536 (b.take i)) →
  Ev (fun k => vernierref01_Add.l0 k a b out c (i : Int)) (dg 65536 (V 65536 a + V 65536 b))
 | d, i, out, c, hd, hi, ho, hD, h0, h1, hz, hI => by
  by_cases hend : a.length ≤ i ∧ b.length ≤ i ∧ c = 0
  ·
   obtain ⟨h2, h3, h4⟩ := hend
   have hI := hI.out
   rw [V_take_all _ a h2, V_take_all _ b h3, h4, Int.zero_mul, Int.add_zero] at hI
   rw [← hI]
   refine Ev.step (f := fun k => vernierref01_Add.j1 k a b out c (i : Int) false) (fun k => ?_) ?_
   ·
    simp only [vernierref01_Add.l0]
    rw [if_neg (by omega), if_neg (by omega), h4]
    rfl
   ·
    refine Ev.step (f := fun k => (vernierref01_cut.f k out).bind fun t => some t) (fun k => ?_) (rcut_ev' out (by omega) hD)
    simp only [vernierref01_Add.j1]
    rw [if_neg (by decide)]
  ·
   have hiN : i < N + 1 := by
    by_cases e : i = N + 1
    ·
     exact absurd ⟨by omega, by omega, hz e⟩ hend
    ·
     omega
   rcases d with _ | d
   ·
    omega
   have ga := ha.getD D_pos i
   have gb := hb.getD D_pos i
   have step : Ev (fun k => vernierref01_Add.j1 k a b out c (i : Int) true) (dg 65536 (V 65536 a + V 65536 b)) := by
    refine radd_step a b ha hb i out c h0 h1 (by omega) (by omega) (radd_loop a b ha hb N hN hla hlb d (i + 1) _ _ (by omega) (by omega) (by simp; omega) (hD.append (Dig.cons (by omega) (by omega) (Dig.nil _))) (by omega) (by omega) ?_ ⟨?_⟩)
    ·
     intro e
     rw [getD_out (l := a) (by omega), getD_out (l := b) (by omega)]
     omega
    ·
     have hI := hI.out
     rw [V_append, V_take_succ, V_take_succ, ho, Int.pow_succ]
     simp only [V]
     have hs := Int.emod_add_mul_ediv (c + a.getD i 0 + b.getD i 0) 65536
     generalize (c + a.getD i 0 + b.getD i 0) % 65536 = m at *
     generalize (c + a.getD i 0 + b.getD i 0) / 65536 = q at *
     generalize a.getD i 0 = x at *
     generalize b.getD i 0 = y at *
     generalize (65536 : Int) ^ i = p at *
     have : p * (m + 65536 * q) = p * (c + x + y) := by rw [hs]
     grind
   refine Ev.step (fun k => ?_) step
   simp only [vernierref01_Add.l0]
   by_cases h2 : i < a.length
   ·
    rw [if_pos (by omega)]
   ·
    rw [if_neg (by omega)]
    by_cases h3 : i < b.length
    ·
     rw [if_pos (by omega)]
    ·
     have h4 : c > 0 := by
      by_cases e : c = 0
      ·
       exact absurd ⟨by omega, by omega, e⟩ hend
      ·
       omega
     rw [if_neg (by omega), decide_eq_true h4]
theorem radd_ev (a b : List Int) (ha : Dig 65536 a) (hb : Dig 65536 b) (hla : a.length ≤ 8796093022208) (hlb : b.length ≤ 8796093022208) : Ev (fun k => vernierref01_Add.f k a b) (dg 65536 (V 65536 a + V 65536 b)) :=
 Ev.congr (fun k => rfl) (radd_loop a b ha hb 8796093022208 (by omega) hla hlb 8796093022209 0 [] 0 (by omega) (by omega) rfl (Dig.nil _) (by omega) (by omega) (by omega) ⟨by simp [V]⟩)
end Go.Proofs.YtjgdpjbkmcjbcaaDoor.PG
end
