/- Parts of a proof. -/
import Derived.Test.YtkjhjlnjkohlbaaZRatioTells45
import Derived.WalkSmall
import Derived.Lib.EndianBits
section
namespace Go.Proofs.Ytkjhjlnjkohlbaa.PR
open Go.RowKit Go.Proofs.YtkjhjlnjkohlbaaW.PrintWords Go.Proofs.YtkjhjlnjkohlbaaW.PrintLast Go.Proofs.Ytkjhjlnjkohlbaa.Num
set_option linter.unusedVariables false
set_option linter.unusedSimpArgs false
theorem add64_some {a b c : Int} (ha : 0 ≤ a) (hb : 0 ≤ b) (h0 : 0 ≤ c) (h1 : c ≤ 1) : bits_Add64.f a b c = some ((a + b + c) % 18446744073709551616, (a + b + c) / 18446744073709551616) := by
 unfold bits_Add64.f
 rw [if_pos ⟨ha, hb, h0, h1⟩]
theorem mul64_some {a b : Int} (ha : 0 ≤ a) (ha' : a < 18446744073709551616) (hb : 0 ≤ b) (hb' : b < 18446744073709551616) : bits_Mul64.f a b = some (a * b / 18446744073709551616, a * b % 18446744073709551616) := by
 unfold bits_Mul64.f
 rw [if_pos ⟨ha, ha', hb, hb'⟩]
theorem row_step {x y c s : Int} (hx : 0 ≤ x) (hx' : x < 18446744073709551616) (hy : 0 ≤ y) (hy' : y < 18446744073709551616) (hc : 0 ≤ c) (hc' : c < 18446744073709551616) (hs : 0 ≤ s) (hs' : s < 18446744073709551616) :
  ∃ hi lo q c1 r c2 : Int, bits_Mul64.f x y = some (hi, lo) ∧ bits_Add64.f lo c 0 = some (q, c1) ∧ bits_Add64.f s q 0 = some (r, c2) ∧ 0 ≤ r ∧ r < 18446744073709551616 ∧
   IntKind.u64.wrap (IntKind.u64.wrap (hi + c1) + c2) = hi + c1 + c2 ∧ 0 ≤ hi + c1 + c2 ∧ hi + c1 + c2 < 18446744073709551616 ∧ r + 18446744073709551616 * (hi + c1 + c2) = s + x * y + c := by
 have hm := mul64_some hx hx' hy hy'
 have p0 : 0 ≤ x * y := Int.mul_nonneg hx hy
 have p1 : x * y ≤ 18446744073709551615 * 18446744073709551615 := Int.mul_le_mul (by omega) (by omega) hy (by omega)
 generalize x * y = m at *
 refine ⟨m / 18446744073709551616, m % 18446744073709551616, (m % 18446744073709551616 + c + 0) % 18446744073709551616, (m % 18446744073709551616 + c + 0) / 18446744073709551616, (s + (m % 18446744073709551616 + c + 0) % 18446744073709551616 + 0) % 18446744073709551616, (s + (m % 18446744073709551616 + c + 0) % 18446744073709551616 + 0) / 18446744073709551616, hm,
  add64_some (by omega) (by omega) (by omega) (by omega), add64_some (by omega) (by omega) (by omega) (by omega), by omega, by omega, ?_, by omega, by omega, by omega⟩
 rw [u64w (x := m / 18446744073709551616 + (m % 18446744073709551616 + c + 0) / 18446744073709551616) (by omega) (by omega), u64w (by omega) (by omega)]
theorem row_spec (off : Nat) (x : Int) (hx : 0 ≤ x) (hx' : x < 18446744073709551616) : ∀ (ys : List Int) (i : Nat) (c : Int) (L : List Int), Dig 18446744073709551616 ys → 0 ≤ c → c < 18446744073709551616 → Dig 18446744073709551616 L → off + i + ys.length < L.length → L.getD (off + i + ys.length) 0 = 0 →
  ∃ L', nat_row.go off x ys i c L = some L' ∧ L'.length = L.length ∧ Dig 18446744073709551616 L' ∧ V 18446744073709551616 L' = V 18446744073709551616 L + 18446744073709551616 ^ (off + i) * (c + x * V 18446744073709551616 ys) ∧ ∀ j, off + i + ys.length < j → L'.getD j 0 = L.getD j 0
 | [], i, c, L, _, h0, h1, hL, hl, hz => by
  simp only [List.length_nil, Nat.add_zero] at hl hz
  refine ⟨L.set (off + i) c, rfl, by simp, hL.set _ h0 h1, ?_, ?_⟩
  ·
   rw [V_set _ _ _ _ hl, hz]
   simp [V]
  ·
   intro j hj
   simp only [List.length_nil, Nat.add_zero] at hj
   rw [getD_set _ _ _ _ hl, if_neg (by omega)]
 | y :: ys, i, c, L, hy, h0, h1, hL, hl, hz => by
  simp only [List.length_cons] at hl hz
  have gy := hy.head
  have gs := hL.getD B_pos (off + i)
  obtain ⟨hi, lo, q, c1, r, c2, e1, e2, e3, r0, r1, ew, w0, w1, ev⟩ := row_step hx hx' gy.1 gy.2 h0 h1 gs.1 gs.2
  have hlt : off + i < L.length := by omega
  obtain ⟨L', f1, f2, f3, f4, f5⟩ := row_spec off x hx hx' ys (i + 1) (hi + c1 + c2) (L.set (off + i) r) hy.tail w0 w1 (hL.set _ r0 r1) (by simp; omega) (by
   rw [getD_set _ _ _ _ hlt, if_neg (by omega)]
   rw [show off + (i + 1) + ys.length = off + i + (ys.length + 1) by omega]
   exact hz)
  refine ⟨L', ?_, by simpa using f2, f3, ?_, ?_⟩
  ·
   simp only [nat_row.go]
   rw [e1]
   simp only [Option.bind_some]
   rw [e2]
   simp only [Option.bind_some]
   rw [rd_nat, e3]
   simp only [Option.bind_some]
   rw [ew]
   exact f1
  ·
   rw [f4, V_set _ _ _ _ hlt, V_cons, show off + (i + 1) = off + i + 1 by omega, Int.pow_succ]
   clear f4 f5 f1 hz
   generalize (18446744073709551616 : Int) ^ (off + i) = p at *
   generalize L.getD (off + i) 0 = s at *
   generalize V 18446744073709551616 ys = Y at *
   generalize V 18446744073709551616 L = W at *
   generalize hk : hi + c1 + c2 = k at *
   have : p * (r + 18446744073709551616 * k) = p * (s + x * y + c) := by rw [ev]
   grind
  ·
   intro j hj
   simp only [List.length_cons] at hj
   rw [f5 j (by omega), getD_set _ _ _ _ hlt, if_neg (by omega)]
theorem mul_spec (a : List Int) (ha : Dig 18446744073709551616 a) : ∀ (xs : List Int) (i : Nat) (out : List Int), Dig 18446744073709551616 xs → Dig 18446744073709551616 out → out.length = a.length + i + xs.length + 1 → (∀ j, i + a.length ≤ j → out.getD j 0 = 0) →
  ∃ out', mulGo a xs i out = some out' ∧ out'.length = out.length ∧ Dig 18446744073709551616 out' ∧ V 18446744073709551616 out' = V 18446744073709551616 out + 18446744073709551616 ^ i * (V 18446744073709551616 a * V 18446744073709551616 xs)
 | [], i, out, _, ho, _, _ => ⟨out, rfl, rfl, ho, by simp [V]⟩
 | x :: xs, i, out, hx, ho, hl, hz => by
  simp only [List.length_cons] at hl
  obtain ⟨o, e1, e2, e3, e4, e5⟩ := row_spec i x hx.head.1 hx.head.2 a 0 0 out ha (by omega) (by omega) ho (by omega) (hz _ (by omega))
  obtain ⟨o', g1, g2, g3, g4⟩ := mul_spec a ha xs (i + 1) o hx.tail e3 (by omega) (fun j hj => by rw [e5 j (by omega)]; exact hz j (by omega))
  refine ⟨o', ?_, by omega, g3, ?_⟩
  ·
   simp only [mulGo]
   rw [e1]
   exact g1
  ·
   rw [g4, e4, V_cons, Nat.add_zero, Int.pow_succ]
   generalize (18446744073709551616 : Int) ^ i = p at *
   grind
theorem mul_ev (a b : List Int) (ha : Dig 18446744073709551616 a) (hb : Dig 18446744073709551616 b) (hl : a.length + b.length < 35184372088832) : Ev (fun k => nat_Mul.f k a b) (dg 18446744073709551616 (V 18446744073709551616 a * V 18446744073709551616 b)) := by
 unfold nat_Mul.f
 refine Ev.congr (fun k => if_pos (by omega)) ?_
 obtain ⟨out, e1, e2, e3, e4⟩ := mul_spec a ha b 0 (List.replicate (a.length + b.length + 1) 0) hb (Dig.replicate B_pos _) (by simp) (fun j _ => by
  simp only [List.getD_eq_getElem?_getD, List.getElem?_replicate]
  split <;> rfl)
 rw [e1]
 simp only [Option.bind_some]
 rw [V_replicate, Int.pow_zero, Int.one_mul, Int.zero_add] at e4
 have e2' : out.length = a.length + b.length + 1 := by simpa using e2
 have := cut_ev out (by omega) e3
 rw [e4] at this
 refine Ev.congr (fun k => ?_) this
 refine congrArg _ (funext fun t => ?_)
 by_cases h0 : 0 ≤ t
 ·
  by_cases h1 : t ≤ (out.length : Int)
  ·
   rw [if_pos ⟨h0, h1⟩, if_pos h0, if_pos h1]
  ·
   rw [if_neg (fun h => h1 h.2), if_pos h0, if_neg h1]
 ·
  rw [if_neg (fun h => h0 h.1), if_neg h0]
theorem bitLenAux_isBits : ∀ (f x : Nat), x < 2 ^ f → IsBits (x : Int) (Lib.bitLenAux f x)
 | 0, x, h => by
  obtain rfl : x = 0 := by simpa using h
  exact isBits_zero
 | f + 1, x, h => by
  simp only [Lib.bitLenAux]
  split
  ·
   rename_i e
   subst e
   exact isBits_zero
  ·
   rename_i e
   have ih := bitLenAux_isBits f (x / 2) (by rw [Nat.pow_succ] at h; omega)
   have := IsBits.half (v := (x : Int)) (n := Lib.bitLenAux f (x / 2)) (by omega) (by
    have e2 : ((x : Int) / 2) = ((x / 2 : Nat) : Int) := by omega
    rw [e2]
    exact ih)
   have e3 : (((1 + Lib.bitLenAux f (x / 2) : Nat)) : Int) = ((Lib.bitLenAux f (x / 2) : Nat) : Int) + 1 := by omega
   rw [e3]
   exact this
theorem len64_some {x : Int} (h0 : 0 ≤ x) (h1 : x < 18446744073709551616) : bits_Len64.f x = some (bitsOf x) := by
 unfold bits_Len64.f
 rw [if_pos ⟨h0, by omega⟩]
 congr 1
 have := bitLenAux_isBits 64 x.toNat (by omega)
 rw [Int.toNat_of_nonneg h0] at this
 exact bitsOf_eq this
theorem bitsOf_top {l : List Int} (h : Dig 18446744073709551616 l) (hne : l ≠ []) (ht : l.getD (l.length - 1) 0 ≠ 0) : bitsOf (V 18446744073709551616 l) = 64 * (l.length - 1 : Nat) + bitsOf (l.getD (l.length - 1) 0) := by
 have g := h.getD B_pos (l.length - 1)
 have hp : 0 < bitsOf (l.getD (l.length - 1) 0) := bitsOf_pos (by omega)
 have := IsBits.last (B := 18446744073709551616) (s := 64) (by decide) h hne (bitsOf_spec g.1) (by omega)
 exact (bitsOf_eq this).symm
theorem bits_ev (a : List Int) (ha : Dig 18446744073709551616 a) (hl : a.length ≤ 35184372088832) : Ev (fun k => nat_Bits.f k a) (bitsOf (V 18446744073709551616 a)) := by
 unfold nat_Bits.f
 refine Ev.bind (size_ev a (by omega)) ?_
 have hs := szN_le a
 have hv := trim_val 18446744073709551616 a
 have hn := trim_nrm (B := 18446744073709551616) ha
 have ln : (trim a).length = szN a := by unfold trim; rw [List.length_take]; omega
 by_cases h0 : szN a = 0
 ·
  refine Ev.congr (fun k => if_pos (by omega)) ?_
  have : trim a = [] := List.length_eq_zero_iff.1 (by omega)
  rw [← hv, this]
  exact Ev.now _
 ·
  refine Ev.congr (fun k => if_neg (by omega)) ?_
  have e1 : wrap64 ((szN a : Int) - 1) = ((szN a - 1 : Nat) : Int) := by rw [w64 (by omega) (by omega)]; omega
  have ht : a.getD (szN a - 1) 0 ≠ 0 := (szN_top a).resolve_left h0
  have gt : (trim a).getD ((trim a).length - 1) 0 = a.getD (szN a - 1) 0 := by
   unfold trim
   rw [List.length_take, getD_take, Nat.min_eq_left hs, if_pos (by omega)]
  have bt := bitsOf_top hn.1 (by intro h; rw [h] at ln; simp at ln; omega) (by rw [gt]; exact ht)
  rw [gt, ln, hv] at bt
  have ga := ha.getD B_pos (szN a - 1)
  have b64 : bitsOf (a.getD (szN a - 1) 0) ≤ 64 := bitsOf_le ga.1 (n := 64) (by omega)
  have b0 := bitsOf_nonneg (a.getD (szN a - 1) 0)
  refine Ev.congr (f := fun _ => some (bitsOf (V 18446744073709551616 a))) (fun k => ?_) (Ev.now _)
  rw [e1, if_pos (by omega), if_pos (by omega), rd_nat, len64_some ga.1 ga.2]
  simp only [Option.bind_some]
  rw [w64 (x := 64 * ((szN a - 1 : Nat) : Int)) (by omega) (by omega), w64 (by omega) (by omega), bt]
end Go.Proofs.Ytkjhjlnjkohlbaa.PR
end
section
namespace Go.Proofs.Ytkjhjlnjkohlbaa.PR
open Go.RowKit Go.Proofs.YtkjhjlnjkohlbaaW.PrintWords Go.Proofs.YtkjhjlnjkohlbaaW.PrintLast Go.Proofs.Ytkjhjlnjkohlbaa.Num
set_option linter.unusedVariables false
structure Nm (a : List Int) (v : Int) (n : Nat) : Prop where
 dig : Dig 18446744073709551616 a
 val : V 18446744073709551616 a = v
 len : a.length ≤ n
theorem Nm.nonneg {a v n} (h : Nm a v n) : 0 ≤ v := h.val ▸ V_nonneg B_pos h.dig
theorem Nm.lt {a v n} (h : Nm a v n) : v < 18446744073709551616 ^ n := h.val ▸ Int.lt_of_lt_of_le (V_lt B_pos h.dig) (pow_le B_pos h.len)
theorem Nm.of_wf {l : List Int} {n : Nat} (h : ∀ x ∈ l, (Lit.int .u64 x).wf = true) (hl : l.length ≤ n) : Nm l (V 18446744073709551616 l) n := ⟨dig_of_wf h, rfl, hl⟩
theorem Nm.dg {v : Int} {n : Nat} (h0 : 0 ≤ v) (h1 : v < 18446744073709551616 ^ n) : Nm (dg 18446744073709551616 v) v n := ⟨dg_dig one_lt_B v, dg_val one_lt_B h0, dg_len_le one_lt_B h0 h1⟩
theorem Nm.dg_le {a v n w} (h : Nm a v n) (h0 : 0 ≤ w) (h1 : w ≤ v) : Nm (Num.dg 18446744073709551616 w) w n := Nm.dg h0 (Int.lt_of_le_of_lt h1 h.lt)
theorem Nm.mono {a v n m} (h : Nm a v n) (hm : n ≤ m) : Nm a v m := ⟨h.dig, h.val, Nat.le_trans h.len hm⟩
theorem Nm.one {x : Int} {n : Nat} (h0 : 0 ≤ x) (h1 : x < 18446744073709551616) (hn : 1 ≤ n) : Nm [x] x n := ⟨Dig.cons h0 h1 (Dig.nil _), by simp [V], by simpa using hn⟩
theorem Nm.add {a b v w n m} (p : Nat) (h : Nm a v n) (g : Nm b w m) (hn : n ≤ p) (hm : m ≤ p) (hp : p < 35184372088832) : Ev (fun k => nat_Add.f k a b) (Num.dg 18446744073709551616 (v + w)) ∧ Nm (Num.dg 18446744073709551616 (v + w)) (v + w) (p + 1) := by
 have h1 := h.len
 have h2 := g.len
 have e := add_ev a b h.dig g.dig (by omega) (by omega)
 rw [h.val, g.val] at e
 have l1 := (h.mono hn).lt
 have l2 := (g.mono hm).lt
 have n1 := h.nonneg
 have n2 := g.nonneg
 have pp := pow_pos' B_pos p
 refine ⟨e, Nm.dg (by omega) ?_⟩
 rw [Int.pow_succ]
 omega
theorem Nm.sub {a b v w n m} (p : Nat) (h : Nm a v n) (g : Nm b w m) (hn : n ≤ p) (hm : m ≤ p) (hp : p < 35184372088832) : Ev (fun k => nat_Sub.f k a b) (Num.dg 18446744073709551616 ((v - w).natAbs : Int)) ∧ Nm (Num.dg 18446744073709551616 ((v - w).natAbs : Int)) ((v - w).natAbs : Int) p := by
 have h1 := h.len
 have h2 := g.len
 have e := sub_ev a b h.dig g.dig (by omega) (by omega)
 rw [h.val, g.val] at e
 have l1 := (h.mono hn).lt
 have l2 := (g.mono hm).lt
 have n1 := h.nonneg
 have n2 := g.nonneg
 exact ⟨e, Nm.dg (by omega) (by omega)⟩
theorem Nm.sub_le {a b v w n m} (h : Nm a v n) (g : Nm b w m) (hwv : w ≤ v) (hn : n < 35184372088832) (hm : m < 35184372088832) : Ev (fun k => nat_Sub.f k a b) (Num.dg 18446744073709551616 (v - w)) ∧ Nm (Num.dg 18446744073709551616 (v - w)) (v - w) n := by
 have h1 := h.len
 have h2 := g.len
 have e := sub_ev a b h.dig g.dig (by omega) (by omega)
 have n2 := g.nonneg
 rw [h.val, g.val, Int.natAbs_of_nonneg (by omega)] at e
 exact ⟨e, h.dg_le (by omega) (by omega)⟩
theorem Nm.mul {a b v w n m} (h : Nm a v n) (g : Nm b w m) (hp : n + m < 35184372088832) : Ev (fun k => nat_Mul.f k a b) (Num.dg 18446744073709551616 (v * w)) ∧ Nm (Num.dg 18446744073709551616 (v * w)) (v * w) (n + m) := by
 have h1 := h.len
 have h2 := g.len
 have e := mul_ev a b h.dig g.dig (by omega)
 rw [h.val, g.val] at e
 have n1 := h.nonneg
 have n2 := g.nonneg
 refine ⟨e, Nm.dg (Int.mul_nonneg n1 n2) ?_⟩
 rw [Int.pow_add]
 have l1 := h.lt
 have l2 := g.lt
 have pp := pow_pos' B_pos n
 calc v * w ≤ v * 18446744073709551616 ^ m := Int.mul_le_mul_of_nonneg_left (by omega) n1
  _ < 18446744073709551616 ^ n * 18446744073709551616 ^ m := Int.mul_lt_mul_of_pos_right l1 (pow_pos' B_pos m)
theorem Nm.norm {a v n} (h : Nm a v n) (hp : n ≤ 17592186044416) : Ev (fun k => nat_Norm.f k a) (Num.dg 18446744073709551616 v) ∧ Nm (Num.dg 18446744073709551616 v) v n := by
 have h1 := h.len
 have e := norm_ev a (by omega) h.dig
 rw [h.val] at e
 exact ⟨e, h.dg_le h.nonneg (Int.le_refl _)⟩
theorem Nm.cmp {a b v w n m} (h : Nm a v n) (g : Nm b w m) (hn : n ≤ 4611686018427387904) (hm : m ≤ 4611686018427387904) : Ev (fun k => nat_Cmp.f k a b) (sgn (v - w)) := by
 have h1 := h.len
 have h2 := g.len
 have e := cmp_ev a b h.dig g.dig (by omega) (by omega)
 rwa [h.val, g.val] at e
theorem Nm.bits {a v n} (h : Nm a v n) (hn : n ≤ 35184372088832) : Ev (fun k => nat_Bits.f k a) (bitsOf v) := by
 have h1 := h.len
 have e := bits_ev a h.dig (by omega)
 rwa [h.val] at e
theorem Nm.same {v w : Int} {n : Nat} (e : v = w) (h : Nm (Num.dg 18446744073709551616 v) v n) (hn : n ≤ 4611686018427387904) : Ev (fun k => vernierref01_Same.f k (Num.dg 18446744073709551616 v) (Num.dg 18446744073709551616 w)) true :=
 same_true (by rw [e]) (Nat.le_trans h.len hn)
end Go.Proofs.Ytkjhjlnjkohlbaa.PR
end
section
namespace Go.Proofs.Ytkjhjlnjkohlbaa.PR
open Go.RowKit Go.Proofs.YtkjhjlnjkohlbaaW.PrintWords Go.Proofs.YtkjhjlnjkohlbaaW.PrintLast Go.Proofs.YtkjhjlnjkohlbaaW.PrintMore Go.Proofs.Ytkjhjlnjkohlbaa.Num
set_option linter.unusedVariables false
set_option linter.unusedSimpArgs false
theorem ediv_two {x y z : Int} (hy : 0 < y) : x / y / z = x / (y * z) := by rw [Int.ediv_ediv, if_neg (by omega), Int.sub_zero]
theorem gpast {l : List Int} {n : Nat} (h : l.length ≤ n) : l.getD n 0 = 0 := by rw [List.getD_eq_getElem?_getD, List.getElem?_eq_none h]; rfl
theorem two64 {s : Nat} (hs : s ≤ 64) : (2 : Int) ^ s * 2 ^ (64 - s) = 18446744073709551616 := by
 rw [← Int.pow_add, show s + (64 - s) = 64 by omega]
 decide
theorem mod_shift {P Q x : Int} (hP : 0 < P) (hQ : 0 < Q) (h : P * Q = 18446744073709551616) (h0 : 0 ≤ x) : x * P % 18446744073709551616 = P * (x % Q) := by
 have e := Int.emod_add_mul_ediv x Q
 have m0 := Int.emod_nonneg x (show Q ≠ 0 by omega)
 have m1 := Int.emod_lt_of_pos x hQ
 have e1 : x * P = P * (x % Q) + 18446744073709551616 * (x / Q) := by
  rw [← h]
  have : P * (x % Q + Q * (x / Q)) = P * x := by rw [e]
  grind
 rw [e1, Int.add_mul_emod_self_left, Int.emod_eq_of_lt (Int.mul_nonneg (by omega) m0)]
 have : P * (x % Q) ≤ P * (Q - 1) := Int.mul_le_mul_of_nonneg_left (by omega) (by omega)
 have e2 : P * (Q - 1) = 18446744073709551616 - P := by rw [Int.mul_sub, h, Int.mul_one]
 omega
theorem div_two (x : Int) (s : Nat) (hs : s < 64) : x / 2 / 2 ^ (63 - s) = x / 2 ^ (64 - s) := by
 have e : (2 : Int) ^ (64 - s) = 2 * 2 ^ (63 - s) := by
  rw [show 64 - s = 63 - s + 1 by omega, Int.pow_succ, Int.mul_comm]
 rw [e, ediv_two (by decide)]
theorem shl_u64 {x : Int} {s : Nat} (h : s ≤ 64) : shl .u64 x (s : Int) = x * 2 ^ s % 18446744073709551616 := by
 unfold shl
 rw [show IntKind.u64.bits = 64 from rfl, Int.toNat_natCast, Nat.min_eq_left h, IntKind.wrap_u64]
theorem shr_u64 {x : Int} {s : Nat} (h : s ≤ 64) : shr .u64 x (s : Int) = x / 2 ^ s := by
 unfold shr
 rw [show IntKind.u64.bits = 64 from rfl, Int.toNat_natCast, Nat.min_eq_left h]
theorem back63 {s : Nat} (h : s < 64) : IntKind.u64.wrap (63 - (s : Int)) = ((63 - s : Nat) : Int) := by rw [u64w (by omega) (by omega)]; omega
theorem or_high {s : Nat} {x c : Int} (hx0 : 0 ≤ x) (hx : x < 18446744073709551616) (hm : x % 2 ^ s = 0) (hc0 : 0 ≤ c) (hc : c < 2 ^ s) (hc1 : c < 18446744073709551616) : Go.bits .or .u64 x c = x + c :=
 bits_join .u64 64 (by decide) wraps_u64 s x c hx0 hm hx hc0 hc hc1
theorem or_low {s : Nat} {x c : Int} (hx0 : 0 ≤ x) (hx : x < 18446744073709551616) (hm : x % 2 ^ s = 0) (hc0 : 0 ≤ c) (hc : c < 2 ^ s) (hc1 : c < 18446744073709551616) : Go.bits .or .u64 c x = c + x :=
 bits_join_low .u64 64 (by decide) wraps_u64 s c x hc0 hc hc1 hx0 hm hx
end Go.Proofs.Ytkjhjlnjkohlbaa.PR
end
