/- Parts of a proof. -/
import Derived.Test.YtpdjahhimmaonaaDoorZBoundOwn48
import Derived.WalkSmall
import Derived.Lib.EndianBits
section
namespace Go.Proofs.YtpdjahhimmaonaaDoor.PD
open Go.RowKit Go.Proofs.YtpdjahhimmaonaaDoorW.PrintWords Go.Proofs.YtpdjahhimmaonaaDoorW.PrintLast Go.Proofs.YtpdjahhimmaonaaDoor.Num
set_option linter.unusedVariables false
set_option linter.unusedSimpArgs false
theorem add64_some {a b c : Int} (ha : 0 ≤ a) (hb : 0 ≤ b) (h0 : 0 ≤ c) (h1 : c ≤ 1) : bits_Add64.f a b c = some ((a + b + c) % 18446744073709551616, (a + b + c) / 18446744073709551616) := by
 unfold bits_Add64.f
 rw [if_pos ⟨ha, hb, h0, h1⟩]
theorem mul64_some {a b : Int} (ha : 0 ≤ a) (ha' : a < 18446744073709551616) (hb : 0 ≤ b) (hb' : b < 18446744073709551616) : bits_Mul64.f a b = some (a * b / 18446744073709551616, a * b % 18446744073709551616) := by
 unfold bits_Mul64.f
 rw [if_pos ⟨ha, ha', hb, hb'⟩]
theorem row_step {x y c s : Int} (hx : 0 ≤ x) (hx' : x < 18446744073709551616) (hy : 0 ≤ y) (hy' : y < 18446744073709551616) (hc : 0 ≤ c) (hc' : c < 18446744073709551616) (hs : 0 ≤ s) (hs' : s < 18446744073709551616) :
  ∃ hi lo q c1 r c2 : Int, bits_Mul64.f x y = some (hi, lo) ∧ bits_Add64.f lo c 0 = some (q, c1) ∧ bits_Add64.f s q 0 = some (r, c2) ∧ 0 ≤ r ∧ r < 18446744073709551616 ∧
   IntKind.u64.wrap (IntKind.u64.wrap (hi + c1) + c2) = hi + c1 + c2 ∧ 0 ≤ hi + c1 + c2 ∧ hi + c1 + c2 < 18446744073709551616 ∧ r + 18446744073709551616 * (hi + c1 + c2) = s + x * y + c := by
 have hm := mul64_some hx hx' hy hy'
 have p0 : 0 ≤ x * y := Int.mul_nonneg hx hy
 have p1 : x * y ≤ 18446744073709551615 * 18446744073709551615 := Int.mul_le_mul (by omega) (by omega) hy (by omega)
 generalize x * y = m at *
 refine ⟨m / 18446744073709551616, m % 18446744073709551616, (m % 18446744073709551616 + c + 0) % 18446744073709551616, (m % 18446744073709551616 + c + 0) / 18446744073709551616, (s + (m % 18446744073709551616 + c + 0) % 18446744073709551616 + 0) % 18446744073709551616, (s + (m % 18446744073709551616 + c + 0) % 18446744073709551616 + 0) / 18446744073709551616, hm,
  add64_some (by omega) (by omega) (by omega) (by omega), add64_some (by omega) (by omega) (by omega) (by omega), by omega, by omega, ?_, by omega, by omega, by omega⟩
 rw [u64w (x := m / 18446744073709551616 + (m % 18446744073709551616 + c + 0) / 18446744073709551616) (by omega) (by omega), u64w (by omega) (by omega)]
theorem row_spec (off : Nat) (x : Int) (hx : 0 ≤ x) (hx' : x < 18446744073709551616) : ∀ (ys : List Int) (i : Nat) (c : Int) (L : List Int), Dig 18446744073709551616 ys → 0 ≤ c → c < 18446744073709551616 → Dig 18446744073709551616 L → off + i + ys.length < L.length → L.getD (off + i + ys.length) 0 = 0 →
  ∃ L', nat_row.go off x ys i c L = some L' ∧ L'.length = L.length ∧ Dig 18446744073709551616 L' ∧ V 18446744073709551616 L' = V 18446744073709551616 L + 18446744073709551616 ^ (off + i) * (c + x * V 18446744073709551616 ys) ∧ ∀ j, off + i + ys.length < j → L'.getD j 0 = L.getD j 0
 | [], i, c, L, _, h0, h1, hL, hl, hz => by
  simp only [List.length_nil, Nat.add_zero] at hl hz
  refine ⟨L.set (off + i) c, rfl, by simp, hL.set _ h0 h1, ?_, ?_⟩
  ·
   rw [V_set _ _ _ _ hl, hz]
   simp [V]
  ·
   intro j hj
   simp only [List.length_nil, Nat.add_zero] at hj
   rw [getD_set _ _ _ _ hl, if_neg (by omega)]
 | y :: ys, i, c, L, hy, h0, h1, hL, hl, hz => by
  simp only [List.length_cons] at hl hz
  have gy := hy.head
  have gs := hL.getD B_pos (off + i)
  obtain ⟨hi, lo, q, c1, r, c2, e1, e2, e3, r0, r1, ew, w0, w1, ev⟩ := row_step hx hx' gy.1 gy.2 h0 h1 gs.1 gs.2
  have hlt : off + i < L.length := by omega
  obtain ⟨L', f1, f2, f3, f4, f5⟩ := row_spec off x hx hx' ys (i + 1) (hi + c1 + c2) (L.set (off + i) r) hy.tail w0 w1 (hL.set _ r0 r1) (by simp; omega) (by
   rw [getD_set _ _ _ _ hlt, if_neg (by omega)]
   rw [show off + (i + 1) + ys.length = off + i + (ys.length + 1) by omega]
   exact hz)
  refine ⟨L', ?_, by simpa using f2, f3, ?_, ?_⟩
  ·
   simp only [nat_row.go]
   rw [e1]
   simp only [Option.bind_some]
   rw [e2]
   simp only [Option.bind_some]
   rw [rd_nat, e3]
   simp only [Option.bind_some]
   rw [ew]
   exact f1
  ·
   rw [f4, V_set _ _ _ _ hlt, V_cons, show off + (i + 1) = off + i + 1 by omega, Int.pow_succ]
   clear f4 f5 f1 hz
   generalize (18446744073709551616 : Int) ^ (off + i) = p at *
   generalize L.getD (off + i) 0 = s at *
   generalize V 18446744073709551616 ys = Y at *
   generalize V 18446744073709551616 L = W at *
   generalize hk : hi + c1 + c2 = k at *
   have : p * (r + 18446744073709551616 * k) = p * (s + x * y + c) := by rw [ev]
   grind
  ·
   intro j hj
   simp only [List.length_cons] at hj
   rw [f5 j (by omega), getD_set _ _ _ _ hlt, if_neg (by omega)]
theorem mul_spec (a : List Int) (ha : Dig 18446744073709551616 a) : ∀ (xs : List Int) (i : Nat) (out : List Int), Dig 18446744073709551616 xs → Dig 18446744073709551616 out → out.length = a.length + i + xs.length + 1 → (∀ j, i + a.length ≤ j → out.getD j 0 = 0) →
  ∃ out', mulGo a xs i out = some out' ∧ out'.length = out.length ∧ Dig 18446744073709551616 out' ∧ V 18446744073709551616 out' = V 18446744073709551616 out + 18446744073709551616 ^ i * (V 18446744073709551616 a * V 18446744073709551616 xs)
 | [], i, out, _, ho, _, _ => ⟨out, rfl, rfl, ho, by simp [V]⟩
 | x :: xs, i, out, hx, ho, hl, hz => by
  simp only [List.length_cons] at hl
  obtain ⟨o, e1, e2, e3, e4, e5⟩ := row_spec i x hx.head.1 hx.head.2 a 0 0 out ha (by omega) (by omega) ho (by omega) (hz _ (by omega))
  obtain ⟨o', g1, g2, g3, g4⟩ := mul_spec a ha xs (i + 1) o hx.tail e3 (by omega) (fun j hj => by rw [e5 j (by omega)]; exact hz j (by omega))
  refine ⟨o', ?_, by omega, g3, ?_⟩
  ·
   simp only [mulGo]
   rw [e1]
   exact g1
  ·
   rw [g4, e4, V_cons, Nat.add_zero, Int.pow_succ]
   generalize (18446744073709551616 : Int) ^ i = p at *
   grind
theorem mul_ev (a b : List Int) (ha : Dig 18446744073709551616 a) (hb : Dig 18446744073709551616 b) (hl : a.length + b.length < 35184372088832) : Ev (fun k => nat_Mul.f k a b) (dg 18446744073709551616 (V 18446744073709551616 a * V 18446744073709551616 b)) := by
 unfold nat_Mul.f
 refine Ev.congr (fun k => if_pos (by omega)) ?_
 obtain ⟨out, e1, e2, e3, e4⟩ := mul_spec a ha b 0 (List.replicate (a.length + b.length + 1) 0) hb (Dig.replicate B_pos _) (by simp) (fun j _ => by
  simp only [List.getD_eq_getElem?_getD, List.getElem?_replicate]
  split <;> rfl)
 rw [e1]
 simp only [Option.bind_some]
 rw [V_replicate, Int.pow_zero, Int.one_mul, Int.zero_add] at e4
 have e2' : out.length = a.length + b.length + 1 := by simpa using e2
 have := cut_ev out (by omega) e3
 rw [e4] at this
 refine Ev.congr (fun k => ?_) this
 refine congrArg _ (funext fun t => ?_)
 by_cases h0 : 0 ≤ t
 ·
  by_cases h1 : t ≤ (out.length : Int)
  ·
   rw [if_pos ⟨h0, h1⟩, if_pos h0, if_pos h1]
  ·
   rw [if_neg (fun h => h1 h.2), if_pos h0, if_neg h1]
 ·
  rw [if_neg (fun h => h0 h.1), if_neg h0]
theorem bitLenAux_isBits : ∀ (f x : Nat), x < 2 ^ f → IsBits (x : Int) (Lib.bitLenAux f x)
 | 0, x, h => by
  obtain rfl : x = 0 := by simpa using h
  exact isBits_zero
 | f + 1, x, h => by
  simp only [Lib.bitLenAux]
  split
  ·
   rename_i e
   subst e
   exact isBits_zero
  ·
   rename_i e
   have ih := bitLenAux_isBits f (x / 2) (by rw [Nat.pow_succ] at h; omega)
   have := IsBits.half (v := (x : Int)) (n := Lib.bitLenAux f (x / 2)) (by omega) (by
    have e2 : ((x : Int) / 2) = ((x / 2 : Nat) : Int) := by omega
    rw [e2]
    exact ih)
   have e3 : (((1 + Lib.bitLenAux f (x / 2) : Nat)) : Int) = ((Lib.bitLenAux f (x / 2) : Nat) : Int) + 1 := by omega
   rw [e3]
   exact this
theorem len64_some {x : Int} (h0 : 0 ≤ x) (h1 : x < 18446744073709551616) : bits_Len64.f x = some (bitsOf x) := by
 unfold bits_Len64.f
 rw [if_pos ⟨h0, by omega⟩]
 congr 1
 have := bitLenAux_isBits 64 x.toNat (by omega)
 rw [Int.toNat_of_nonneg h0] at this
 exact bitsOf_eq this
theorem bitsOf_top {l : List Int} (h : Dig 18446744073709551616 l) (hne : l ≠ []) (ht : l.getD (l.length - 1) 0 ≠ 0) : bitsOf (V 18446744073709551616 l) = 64 * (l.length - 1 : Nat) + bitsOf (l.getD (l.length - 1) 0) := by
 have g := h.getD B_pos (l.length - 1)
 have hp : 0 < bitsOf (l.getD (l.length - 1) 0) := bitsOf_pos (by omega)
 have := IsBits.last (B := 18446744073709551616) (s := 64) (by decide) h hne (bitsOf_spec g.1) (by omega)
 exact (bitsOf_eq this).symm
theorem bits_ev (a : List Int) (ha : Dig 18446744073709551616 a) (hl : a.length ≤ 35184372088832) : Ev (fun k => nat_Bits.f k a) (bitsOf (V 18446744073709551616 a)) := by
 unfold nat_Bits.f
 refine Ev.bind (size_ev a (by omega)) ?_
 have hs := szN_le a
 have hv := trim_val 18446744073709551616 a
 have hn := trim_nrm (B := 18446744073709551616) ha
 have ln : (trim a).length = szN a := by unfold trim; rw [List.length_take]; omega
 by_cases h0 : szN a = 0
 ·
  refine Ev.congr (fun k => if_pos (by omega)) ?_
  have : trim a = [] := List.length_eq_zero_iff.1 (by omega)
  rw [← hv, this]
  exact Ev.now _
 ·
  refine Ev.congr (fun k => if_neg (by omega)) ?_
  have e1 : wrap64 ((szN a : Int) - 1) = ((szN a - 1 : Nat) : Int) := by rw [w64 (by omega) (by omega)]; omega
  have ht : a.getD (szN a - 1) 0 ≠ 0 := (szN_top a).resolve_left h0
  have gt : (trim a).getD ((trim a).length - 1) 0 = a.getD (szN a - 1) 0 := by
   unfold trim
   rw [List.length_take, getD_take, Nat.min_eq_left hs, if_pos (by omega)]
  have bt := bitsOf_top hn.1 (by intro h; rw [h] at ln; simp at ln; omega) (by rw [gt]; exact ht)
  rw [gt, ln, hv] at bt
  have ga := ha.getD B_pos (szN a - 1)
  have b64 : bitsOf (a.getD (szN a - 1) 0) ≤ 64 := bitsOf_le ga.1 (n := 64) (by omega)
  have b0 := bitsOf_nonneg (a.getD (szN a - 1) 0)
  refine Ev.congr (f := fun _ => some (bitsOf (V 18446744073709551616 a))) (fun k => ?_) (Ev.now _)
  rw [e1, if_pos (by omega), if_pos (by omega), rd_nat, len64_some ga.1 ga.2]
  simp only [Option.bind_some]
  rw [w64 (x := 64 * ((szN a - 1 : Nat) : Int)) (by omega) (by omega), w64 (by omega) (by omega), bt]
end Go.Proofs.YtpdjahhimmaonaaDoor.PD
end
section
namespace Go.Proofs.YtpdjahhimmaonaaDoor.PD
open Go.RowKit Go.Proofs.YtpdjahhimmaonaaDoorW.PrintWords Go.Proofs.YtpdjahhimmaonaaDoorW.PrintLast Go.Proofs.YtpdjahhimmaonaaDoor.Num
set_option linter.unusedVariables false
structure Nm (a : List Int) (v : Int) (n : Nat) : Prop where
 dig : Dig 18446744073709551616 a
 val : V 18446744073709551616 a = v
 len : a.length ≤ n
theorem Nm.nonneg {a v n} (h : Nm a v n) : 0 ≤ v := h.val ▸ V_nonneg B_pos h.dig
theorem Nm.lt {a v n} (h : Nm a v n) : v < 18446744073709551616 ^ n := h.val ▸ Int.lt_of_lt_of_le (V_lt B_pos h.dig) (pow_le B_pos h.len)
theorem Nm.of_wf {l : List Int} {n : Nat} (h : ∀ x ∈ l, (Lit.int .u64 x).wf = true) (hl : l.length ≤ n) : Nm l (V 18446744073709551616 l) n := ⟨dig_of_wf h, rfl, hl⟩
theorem Nm.dg {v : Int} {n : Nat} (h0 : 0 ≤ v) (h1 : v < 18446744073709551616 ^ n) : Nm (dg 18446744073709551616 v) v n := ⟨dg_dig one_lt_B v, dg_val one_lt_B h0, dg_len_le one_lt_B h0 h1⟩
theorem Nm.dg_le {a v n w} (h : Nm a v n) (h0 : 0 ≤ w) (h1 : w ≤ v) : Nm (Num.dg 18446744073709551616 w) w n := Nm.dg h0 (Int.lt_of_le_of_lt h1 h.lt)
theorem Nm.mono {a v n m} (h : Nm a v n) (hm : n ≤ m) : Nm a v m := ⟨h.dig, h.val, Nat.le_trans h.len hm⟩
theorem Nm.nil {n} : Nm [] 0 n := ⟨Dig.nil _, rfl, by simp⟩
theorem Nm.one {x : Int} {n : Nat} (h0 : 0 ≤ x) (h1 : x < 18446744073709551616) (hn : 1 ≤ n) : Nm [x] x n := ⟨Dig.cons h0 h1 (Dig.nil _), by simp [V], by simpa using hn⟩
theorem Nm.add {a b v w n m} (p : Nat) (h : Nm a v n) (g : Nm b w m) (hn : n ≤ p) (hm : m ≤ p) (hp : p < 35184372088832) : Ev (fun k => nat_Add.f k a b) (Num.dg 18446744073709551616 (v + w)) ∧ Nm (Num.dg 18446744073709551616 (v + w)) (v + w) (p + 1) := by
 have h1 := h.len
 have h2 := g.len
 have e := add_ev a b h.dig g.dig (by omega) (by omega)
 rw [h.val, g.val] at e
 have l1 := (h.mono hn).lt
 have l2 := (g.mono hm).lt
 have n1 := h.nonneg
 have n2 := g.nonneg
 have pp := pow_pos' B_pos p
 refine ⟨e, Nm.dg (by omega) ?_⟩
 rw [Int.pow_succ]
 omega
theorem Nm.sub {a b v w n m} (p : Nat) (h : Nm a v n) (g : Nm b w m) (hn : n ≤ p) (hm : m ≤ p) (hp : p < 35184372088832) : Ev (fun k => nat_Sub.f k a b) (Num.dg 18446744073709551616 ((v - w).natAbs : Int)) ∧ Nm (Num.dg 18446744073709551616 ((v - w).natAbs : Int)) ((v - w).natAbs : Int) p := by
 have h1 := h.len
 have h2 := g.len
 have e := sub_ev a b h.dig g.dig (by omega) (by omega)
 rw [h.val, g.val] at e
 have l1 := (h.mono hn).lt
 have l2 := (g.mono hm).lt
 have n1 := h.nonneg
 have n2 := g.nonneg
 exact ⟨e, Nm.dg (by omega) (by omega)⟩
theorem Nm.mul {a b v w n m} (h : Nm a v n) (g : Nm b w m) (hp : n + m < 35184372088832) : Ev (fun k => nat_Mul.f k a b) (Num.dg 18446744073709551616 (v * w)) ∧ Nm (Num.dg 18446744073709551616 (v * w)) (v * w) (n + m) := by
 have h1 := h.len
 have h2 := g.len
 have e := mul_ev a b h.dig g.dig (by omega)
 rw [h.val, g.val] at e
 have n1 := h.nonneg
 have n2 := g.nonneg
 refine ⟨e, Nm.dg (Int.mul_nonneg n1 n2) ?_⟩
 rw [Int.pow_add]
 have l1 := h.lt
 have l2 := g.lt
 have pp := pow_pos' B_pos n
 calc v * w ≤ v * 18446744073709551616 ^ m := Int.mul_le_mul_of_nonneg_left (by omega) n1
  _ < 18446744073709551616 ^ n * 18446744073709551616 ^ m := Int.mul_lt_mul_of_pos_right l1 (pow_pos' B_pos m)
theorem Nm.norm {a v n} (h : Nm a v n) (hp : n ≤ 17592186044416) : Ev (fun k => nat_Norm.f k a) (Num.dg 18446744073709551616 v) ∧ Nm (Num.dg 18446744073709551616 v) v n := by
 have h1 := h.len
 have e := norm_ev a (by omega) h.dig
 rw [h.val] at e
 exact ⟨e, h.dg_le h.nonneg (Int.le_refl _)⟩
theorem Nm.cmp {a b v w n m} (h : Nm a v n) (g : Nm b w m) (hn : n ≤ 4611686018427387904) (hm : m ≤ 4611686018427387904) : Ev (fun k => nat_Cmp.f k a b) (sgn (v - w)) := by
 have h1 := h.len
 have h2 := g.len
 have e := cmp_ev a b h.dig g.dig (by omega) (by omega)
 rwa [h.val, g.val] at e
theorem Nm.bits {a v n} (h : Nm a v n) (hn : n ≤ 35184372088832) : Ev (fun k => nat_Bits.f k a) (bitsOf v) := by
 have h1 := h.len
 have e := bits_ev a h.dig (by omega)
 rwa [h.val] at e
theorem Nm.same {v w : Int} {n : Nat} (e : v = w) (h : Nm (Num.dg 18446744073709551616 v) v n) (hn : n ≤ 4611686018427387904) : Ev (fun k => vernierref01_Same.f k (Num.dg 18446744073709551616 v) (Num.dg 18446744073709551616 w)) true :=
 same_true (by rw [e]) (Nat.le_trans h.len hn)
end Go.Proofs.YtpdjahhimmaonaaDoor.PD
end
section
namespace Go.Proofs.YtpdjahhimmaonaaDoor.PD
open Go.RowKit Go.Proofs.YtpdjahhimmaonaaDoorW.PrintWords Go.Proofs.YtpdjahhimmaonaaDoorW.PrintLast Go.Proofs.YtpdjahhimmaonaaDoorW.PrintMore Go.Proofs.YtpdjahhimmaonaaDoor.Num
set_option linter.unusedVariables false
set_option linter.unusedSimpArgs false
theorem ediv_two {x y z : Int} (hy : 0 < y) : x / y / z = x / (y * z) := by rw [Int.ediv_ediv, if_neg (by omega), Int.sub_zero]
theorem gpast {l : List Int} {n : Nat} (h : l.length ≤ n) : l.getD n 0 = 0 := by rw [List.getD_eq_getElem?_getD, List.getElem?_eq_none h]; rfl
theorem two64 {s : Nat} (hs : s ≤ 64) : (2 : Int) ^ s * 2 ^ (64 - s) = 18446744073709551616 := by
 rw [← Int.pow_add, show s + (64 - s) = 64 by omega]
 decide
theorem mod_shift {P Q x : Int} (hP : 0 < P) (hQ : 0 < Q) (h : P * Q = 18446744073709551616) (h0 : 0 ≤ x) : x * P % 18446744073709551616 = P * (x % Q) := by
 have e := Int.emod_add_mul_ediv x Q
 have m0 := Int.emod_nonneg x (show Q ≠ 0 by omega)
 have m1 := Int.emod_lt_of_pos x hQ
 have e1 : x * P = P * (x % Q) + 18446744073709551616 * (x / Q) := by
  rw [← h]
  have : P * (x % Q + Q * (x / Q)) = P * x := by rw [e]
  grind
 rw [e1, Int.add_mul_emod_self_left, Int.emod_eq_of_lt (Int.mul_nonneg (by omega) m0)]
 have : P * (x % Q) ≤ P * (Q - 1) := Int.mul_le_mul_of_nonneg_left (by omega) (by omega)
 have e2 : P * (Q - 1) = 18446744073709551616 - P := by rw [Int.mul_sub, h, Int.mul_one]
 omega
theorem div_two (x : Int) (s : Nat) (hs : s < 64) : x / 2 / 2 ^ (63 - s) = x / 2 ^ (64 - s) := by
 have e : (2 : Int) ^ (64 - s) = 2 * 2 ^ (63 - s) := by
  rw [show 64 - s = 63 - s + 1 by omega, Int.pow_succ, Int.mul_comm]
 rw [e, ediv_two (by decide)]
theorem shl_u64 {x : Int} {s : Nat} (h : s ≤ 64) : shl .u64 x (s : Int) = x * 2 ^ s % 18446744073709551616 := by
 unfold shl
 rw [show IntKind.u64.bits = 64 from rfl, Int.toNat_natCast, Nat.min_eq_left h, IntKind.wrap_u64]
theorem shr_u64 {x : Int} {s : Nat} (h : s ≤ 64) : shr .u64 x (s : Int) = x / 2 ^ s := by
 unfold shr
 rw [show IntKind.u64.bits = 64 from rfl, Int.toNat_natCast, Nat.min_eq_left h]
theorem back63 {s : Nat} (h : s < 64) : IntKind.u64.wrap (63 - (s : Int)) = ((63 - s : Nat) : Int) := by rw [u64w (by omega) (by omega)]; omega
theorem or_high {s : Nat} {x c : Int} (hx0 : 0 ≤ x) (hx : x < 18446744073709551616) (hm : x % 2 ^ s = 0) (hc0 : 0 ≤ c) (hc : c < 2 ^ s) (hc1 : c < 18446744073709551616) : Go.bits .or .u64 x c = x + c :=
 bits_join .u64 64 (by decide) wraps_u64 s x c hx0 hm hx hc0 hc hc1
theorem or_low {s : Nat} {x c : Int} (hx0 : 0 ≤ x) (hx : x < 18446744073709551616) (hm : x % 2 ^ s = 0) (hc0 : 0 ≤ c) (hc : c < 2 ^ s) (hc1 : c < 18446744073709551616) : Go.bits .or .u64 c x = c + x :=
 bits_join_low .u64 64 (by decide) wraps_u64 s c x hc0 hc hc1 hx0 hm hx
end Go.Proofs.YtpdjahhimmaonaaDoor.PD
end
section
namespace Go.Proofs.YtpdjahhimmaonaaDoor.PD
open Go.RowKit Go.Proofs.YtpdjahhimmaonaaDoorW.PrintWords Go.Proofs.YtpdjahhimmaonaaDoorW.PrintLast Go.Proofs.YtpdjahhimmaonaaDoorW.PrintMore Go.Proofs.YtpdjahhimmaonaaDoor.Num
set_option linter.unusedVariables false
set_option linter.unusedSimpArgs false
theorem up_step {x c : Int} {s : Nat} (hs : s < 64) (hx : 0 ≤ x) (hx' : x < 18446744073709551616) (hc : 0 ≤ c) (hc' : c < 2 ^ s) :
  ∃ d q : Int, Go.bits .or .u64 (shl .u64 x (s : Int)) c = d ∧ shr .u64 (x / 2) (IntKind.u64.wrap (63 - (s : Int))) = q ∧ 0 ≤ d ∧ d < 18446744073709551616 ∧ 0 ≤ q ∧ q < 2 ^ s ∧ d + 18446744073709551616 * q = x * 2 ^ s + c := by
 have hP := two_pow_pos s
 have hQ := two_pow_pos (64 - s)
 have hB := two64 (s := s) (by omega)
 have m := mod_shift hP hQ hB hx
 have m0 := Int.emod_nonneg x (show (2 : Int) ^ (64 - s) ≠ 0 by omega)
 have m1 := Int.emod_lt_of_pos x hQ
 have e := Int.emod_add_mul_ediv x (2 ^ (64 - s))
 have q0 : 0 ≤ x / 2 ^ (64 - s) := Int.ediv_nonneg hx (by omega)
 rw [shl_u64 (by omega), back63 hs, shr_u64 (by omega), div_two x s hs, m]
 have hle : (2 : Int) ^ s * (x % 2 ^ (64 - s)) ≤ 2 ^ s * (2 ^ (64 - s) - 1) := Int.mul_le_mul_of_nonneg_left (by omega) (by omega)
 have hle2 : (2 : Int) ^ s * (2 ^ (64 - s) - 1) = 18446744073709551616 - 2 ^ s := by rw [Int.mul_sub, hB, Int.mul_one]
 have h0 : 0 ≤ (2 : Int) ^ s * (x % 2 ^ (64 - s)) := Int.mul_nonneg (by omega) m0
 have hq : x / 2 ^ (64 - s) < 2 ^ s := Int.ediv_lt_of_lt_mul hQ (by rw [hB]; exact hx')
 have hd : Go.bits .or .u64 (2 ^ s * (x % 2 ^ (64 - s))) c = 2 ^ s * (x % 2 ^ (64 - s)) + c := or_high h0 (by omega) (Int.mul_emod_right _ _) hc hc' (by omega)
 refine ⟨_, _, hd, rfl, by omega, by omega, q0, hq, ?_⟩
 rw [← hB]
 generalize (2 : Int) ^ s = P at *
 generalize (2 : Int) ^ (64 - s) = Q at *
 have : P * (x % Q + Q * (x / Q)) = P * x := by rw [e]
 grind
theorem shl_loop (l : List Int) (hd : Dig 18446744073709551616 l) (q s : Nat) (hs : s < 64) (hl : q + l.length < 17592186044416) : ∀ (d i : Nat) (out : List Int) (c : Int), l.length = i + d → out.length = q + i → Dig 18446744073709551616 out → 0 ≤ c → Aside0 (c < 2 ^ s) →
  Aside0 (V 18446744073709551616 out + 18446744073709551616 ^ (q + i) * c = 18446744073709551616 ^ q * (2 ^ s * V 18446744073709551616 (l.take i))) → Ev (fun k => natdiv_shl.l0 k out (s : Int) c l (l.length : Int) (i : Int)) (dg 18446744073709551616 (18446744073709551616 ^ q * (2 ^ s * V 18446744073709551616 l)))
 | 0, i, out, c, hi, ho, hD, h0, h1, hI => by
  have c1 : c < 18446744073709551616 := by
   have := h1.out
   have := two_pow_mono (show s ≤ 64 by omega)
   have e64 : (2 : Int) ^ 64 = 18446744073709551616 := by decide
   omega
  have hv : V 18446744073709551616 (out ++ [c]) = 18446744073709551616 ^ q * (2 ^ s * V 18446744073709551616 l) := by
   have hI := hI.out
   rw [V_take_all _ l (by omega)] at hI
   rw [V_append, ho, ← hI]
   simp [V]
  have hn := norm_ev (out ++ [c]) (by simp; omega) (hD.append (Dig.cons h0 c1 (Dig.nil _)))
  rw [hv] at hn
  refine Ev.step (f := fun k => (nat_Norm.f k (out ++ [c])).bind fun t => some t) (fun k => ?_) (Ev.bind hn (Ev.now _))
  simp only [natdiv_shl.l0]
  rw [if_neg (by omega), if_pos (by omega)]
 | d + 1, i, out, c, hi, ho, hD, h0, h1, hI => by
  have gx := hd.getD B_pos i
  have ew : Aside0 (wrap64 ((i : Int) + 1) = ((i + 1 : Nat) : Int)) := ⟨by rw [w64 (by omega) (by omega)]; omega⟩
  have b63 : Aside0 (0 ≤ IntKind.u64.wrap (63 - (s : Int))) := ⟨by rw [back63 hs]; omega⟩
  obtain ⟨y, z, e1, e2, y0, y1, z0, z1, hs2⟩ := up_step hs gx.1 gx.2 h0 h1.out
  have E1 := Aside0.mk e1
  have E2 := Aside0.mk e2
  have S2 := Aside0.mk hs2
  have Z1 := Aside0.mk z1
  clear e1 e2 hs2 z1
  refine Ev.step (f := fun k => natdiv_shl.l0 k (out ++ [y]) (s : Int) z l (l.length : Int) ((i + 1 : Nat) : Int)) (fun k => ?_)
   (shl_loop l hd q s hs hl d (i + 1) _ _ (by omega) (by simp; omega) (hD.append (Dig.cons y0 y1 (Dig.nil _))) z0 Z1 ⟨?_⟩)
  ·
   simp only [natdiv_shl.l0]
   rw [if_pos (by omega), if_pos (by omega), if_pos (by omega), if_pos (by omega), if_pos (by omega), if_pos b63.out, rd_nat, E1.out, E2.out, ew.out]
  ·
   have hI := hI.out
   have hs2 := S2.out
   rw [V_append, V_take_succ, ho, show q + (i + 1) = q + i + 1 by omega, Int.pow_succ, Int.pow_add]
   rw [Int.pow_add] at hI
   simp only [V]
   generalize (18446744073709551616 : Int) ^ q = Bq at *
   generalize (18446744073709551616 : Int) ^ i = Bi at *
   generalize (2 : Int) ^ s = P at *
   have : Bq * Bi * (y + 18446744073709551616 * z) = Bq * Bi * (l.getD i 0 * P + c) := by rw [hs2]
   grind
theorem pow_n (n : Nat) : (2 : Int) ^ n = 18446744073709551616 ^ (n / 64) * 2 ^ (n % 64) := by
 have e : (18446744073709551616 : Int) = 2 ^ 64 := by decide
 rw [e, ← Int.pow_mul, ← Int.pow_add]
 congr 1
 omega
theorem split_n {n : Nat} (h : n < 4611686018427387904) : wrap64 (Int.tdiv (n : Int) 64) = ((n / 64 : Nat) : Int) ∧ IntKind.u64.wrap (Int.tmod (n : Int) 64) = ((n % 64 : Nat) : Int) := by
 rw [Int.tdiv_eq_ediv_of_nonneg (by omega), Int.tmod_eq_emod_of_nonneg (by omega), w64 (by omega) (by omega), u64w (by omega) (by omega)]
 exact ⟨by omega, by omega⟩
theorem shl_ev (l : List Int) (hd : Dig 18446744073709551616 l) (n : Nat) (hl : n / 64 + l.length < 17592186044416) (hn : n < 4611686018427387904) : Ev (fun k => natdiv_shl.f k l (n : Int)) (dg 18446744073709551616 (2 ^ n * V 18446744073709551616 l)) := by
 obtain ⟨e1, e2⟩ := split_n hn
 unfold natdiv_shl.f
 rw [e1, e2]
 have e3 : wrap64 (wrap64 (((n / 64 : Nat) : Int) + (l.length : Int)) + 1) = ((n / 64 + l.length + 1 : Nat) : Int) := by
  rw [w64 (x := ((n / 64 : Nat) : Int) + (l.length : Int)) (by omega) (by omega), w64 (by omega) (by omega)]
  omega
 rw [e3]
 refine Ev.congr (fun k => (if_pos (by omega)).trans ((if_pos (by omega)).trans (if_pos (by omega)))) ?_
 rw [pow_n, Int.mul_assoc, Int.toNat_natCast]
 exact shl_loop l hd (n / 64) (n % 64) (by omega) hl l.length 0 _ 0 (by omega) (by simp) (Dig.replicate B_pos _) (by omega) ⟨two_pow_pos _⟩ ⟨by rw [V_replicate]; simp [V]⟩
theorem down_step {x z : Int} {s : Nat} (hs : s < 64) (hx : 0 ≤ x) (hx' : x < 18446744073709551616) (hz : 0 ≤ z) (hz' : z < 18446744073709551616) :
  ∃ d : Int, Go.bits .or .u64 (shr .u64 x (s : Int)) (shl .u64 (IntKind.u64.wrap (z * 2)) (IntKind.u64.wrap (63 - (s : Int)))) = d ∧ (z = 0 → shr .u64 x (s : Int) = d) ∧ 0 ≤ shr .u64 x (s : Int) ∧ shr .u64 x (s : Int) < 18446744073709551616 ∧ 0 ≤ d ∧ d < 18446744073709551616 ∧
   2 ^ s * d + x % 2 ^ s = x + 18446744073709551616 * (z % 2 ^ s) := by
 have hP := two_pow_pos s
 have hQ := two_pow_pos (64 - s)
 have hB := two64 (s := s) (by omega)
 have hB' : (2 : Int) ^ (64 - s) * 2 ^ s = 18446744073709551616 := by rw [Int.mul_comm]; exact hB
 have m := mod_shift hQ hP hB' hz
 have m0 := Int.emod_nonneg z (show (2 : Int) ^ s ≠ 0 by omega)
 have m1 := Int.emod_lt_of_pos z hP
 have e := Int.emod_add_mul_ediv x (2 ^ s)
 have q0 : 0 ≤ x / 2 ^ s := Int.ediv_nonneg hx (by omega)
 have q1 : x / 2 ^ s < 2 ^ (64 - s) := Int.ediv_lt_of_lt_mul hP (by rw [hB']; exact hx')
 have qB : x / 2 ^ s ≤ x := Int.ediv_le_self _ hx
 have w : shl .u64 (IntKind.u64.wrap (z * 2)) (IntKind.u64.wrap (63 - (s : Int))) = 2 ^ (64 - s) * (z % 2 ^ s) := by
  rw [back63 hs, shl_u64 (by omega), IntKind.wrap_u64]
  have ee : (z * 2) % 18446744073709551616 * 2 ^ (63 - s) % 18446744073709551616 = z * 2 * 2 ^ (63 - s) % 18446744073709551616 := by
   rw [Int.mul_emod, Int.emod_emod_of_dvd _ (Int.dvd_refl _), ← Int.mul_emod]
  have e2 : (2 : Int) ^ (64 - s) = 2 * 2 ^ (63 - s) := by
   rw [show 64 - s = 63 - s + 1 by omega, Int.pow_succ, Int.mul_comm]
  have e3 : z * 2 * 2 ^ (63 - s) = z * 2 ^ (64 - s) := by rw [e2, Int.mul_assoc]
  rw [ee, e3, m]
 rw [w, shr_u64 (by omega)]
 have hle : (2 : Int) ^ (64 - s) * (z % 2 ^ s) ≤ 2 ^ (64 - s) * (2 ^ s - 1) := Int.mul_le_mul_of_nonneg_left (by omega) (by omega)
 have hle2 : (2 : Int) ^ (64 - s) * (2 ^ s - 1) = 18446744073709551616 - 2 ^ (64 - s) := by rw [Int.mul_sub, hB', Int.mul_one]
 have h0 : 0 ≤ (2 : Int) ^ (64 - s) * (z % 2 ^ s) := Int.mul_nonneg (by omega) m0
 have hd : Go.bits .or .u64 (x / 2 ^ s) (2 ^ (64 - s) * (z % 2 ^ s)) = x / 2 ^ s + 2 ^ (64 - s) * (z % 2 ^ s) := or_low (s := 64 - s) h0 (by omega) (Int.mul_emod_right _ _) q0 q1 (by omega)
 refine ⟨_, hd, ?_, q0, by omega, by omega, by omega, ?_⟩
 ·
  rintro rfl
  simp
 ·
  rw [← hB]
  generalize (2 : Int) ^ s = P at *
  generalize (2 : Int) ^ (64 - s) = Q at *
  generalize z % P = r at *
  generalize x / P = u at *
  generalize x % P = v at *
  grind
theorem shr_loop (l : List Int) (hd : Dig 18446744073709551616 l) (s : Nat) (hs : s < 64) (hl : l.length ≤ 17592186044416) : ∀ (d i : Nat) (out : List Int), l.length = i + d → out.length = l.length → Dig 18446744073709551616 out → (∀ j, i ≤ j → out.getD j 0 = l.getD j 0) →
  Aside0 (2 ^ s * V 18446744073709551616 (out.take i) + l.getD 0 0 % 2 ^ s = V 18446744073709551616 (l.take i) + 18446744073709551616 ^ i * (l.getD i 0 % 2 ^ s)) → Ev (fun k => natdiv_shr.l0 k out (s : Int) (l.length : Int) (i : Int)) (dg 18446744073709551616 (V 18446744073709551616 l / 2 ^ s))
 | 0, i, out, hi, ho, hD, hr, hI => by
  have hv : V 18446744073709551616 out = V 18446744073709551616 l / 2 ^ s := by
   have hI := hI.out
   rw [V_take_all _ l (by omega), V_take_all _ out (by omega), gpast (l := l) (n := i) (by omega), Int.zero_emod, Int.mul_zero, Int.add_zero] at hI
   have hP := two_pow_pos s
   have m0 := Int.emod_nonneg (l.getD 0 0) (show (2 : Int) ^ s ≠ 0 by omega)
   have m1 := Int.emod_lt_of_pos (l.getD 0 0) hP
   rw [← hI, Int.add_comm, Int.add_mul_ediv_left _ _ (by omega), Int.ediv_eq_zero_of_lt m0 m1, Int.zero_add]
  have hn := norm_ev out (by omega) hD
  rw [hv] at hn
  refine Ev.step (f := fun k => (nat_Norm.f k out).bind fun t => some t) (fun k => ?_) (Ev.bind hn (Ev.now _))
  simp only [natdiv_shr.l0]
  rw [if_neg (by omega)]
 | d + 1, i, out, hi, ho, hD, hr, hI => by
  have gx := hd.getD B_pos i
  have gz := hd.getD B_pos (i + 1)
  have hlt : i < out.length := by omega
  have ew : Aside0 (wrap64 ((i : Int) + 1) = ((i + 1 : Nat) : Int)) := ⟨by rw [w64 (by omega) (by omega)]; omega⟩
  have b63 : Aside0 (0 ≤ IntKind.u64.wrap (63 - (s : Int))) := ⟨by rw [back63 hs]; omega⟩
  obtain ⟨y, e1, e2, x0, x1, y0, y1, hs2⟩ := down_step hs gx.1 gx.2 gz.1 gz.2
  have E1 := Aside0.mk e1
  have E2 := Aside0.mk e2
  have S2 := Aside0.mk hs2
  have X0 := Aside0.mk x0
  have X1 := Aside0.mk x1
  clear e1 e2 hs2 x0 x1
  have R0 : rd out (i : Int) = l.getD i 0 := by rw [rd_nat]; exact hr i (Nat.le_refl _)
  have next : Ev (fun k => natdiv_shr.l0 k (out.set i y) (s : Int) (l.length : Int) ((i + 1 : Nat) : Int)) (dg 18446744073709551616 (V 18446744073709551616 l / 2 ^ s)) := by
   refine shr_loop l hd s hs hl d (i + 1) _ (by omega) (by simpa using ho) (hD.set _ y0 y1) (fun j hj => ?_) ⟨?_⟩
   ·
    rw [getD_set _ _ _ _ hlt, if_neg (by omega)]
    exact hr j (by omega)
   ·
    have hI := hI.out
    have hs2 := S2.out
    rw [V_take_set_succ _ _ _ _ hlt, V_take_succ, Int.pow_succ]
    clear hr
    generalize (2 : Int) ^ s = P at *
    generalize (18446744073709551616 : Int) ^ i = Bi at *
    generalize l.getD 0 0 % P = r0 at *
    generalize l.getD (i + 1) 0 % P = rz at *
    generalize l.getD i 0 % P = rx at *
    generalize l.getD i 0 = x at *
    have : Bi * (P * y + rx) = Bi * (x + 18446744073709551616 * rz) := by rw [hs2]
    grind
  by_cases hlast : i + 1 < out.length
  ·
   refine Ev.step (f := fun k => natdiv_shr.l0 k (out.set i y) (s : Int) (l.length : Int) ((i + 1 : Nat) : Int)) (fun k => ?_) next
   simp only [natdiv_shr.l0]
   rw [if_pos (by omega), if_pos (by omega), if_pos (by omega), if_pos (by omega), Option.bind_some, ew.out, if_pos (by omega), if_pos (by omega), if_pos b63.out, Int.toNat_natCast, rd_nat (out.set i _) i, rd_nat (out.set i _) (i + 1),
    getD_set _ _ _ _ hlt, getD_set _ _ _ _ hlt, if_pos rfl, if_neg (by omega), hr (i + 1) (by omega), R0, E1.out, List.set_set]
  ·
   refine Ev.step (f := fun k => natdiv_shr.l0 k (out.set i y) (s : Int) (l.length : Int) ((i + 1 : Nat) : Int)) (fun k => ?_) next
   simp only [natdiv_shr.l0]
   rw [if_pos (by omega), if_pos (by omega), if_pos (by omega), if_pos (by omega), Option.bind_some, ew.out, if_neg (by omega), Int.toNat_natCast, R0, E2.out (gpast (by omega))]
theorem shr_ev (l : List Int) (hd : Dig 18446744073709551616 l) (n : Nat) (hl : l.length < 17592186044416) (hn : n < 4611686018427387904) : Ev (fun k => natdiv_shr.f k l (n : Int)) (dg 18446744073709551616 (V 18446744073709551616 l / 2 ^ n)) := by
 obtain ⟨e1, e2⟩ := split_n hn
 unfold natdiv_shr.f
 rw [e1, e2]
 have hP := two_pow_pos (n % 64)
 have hB := pow_pos' B_pos (n / 64)
 by_cases h : l.length ≤ n / 64
 ·
  refine Ev.congr (fun k => if_pos (by omega)) ?_
  have hv : V 18446744073709551616 l / 2 ^ n = 0 := by
   have h0 := V_nonneg B_pos hd
   have h1 := V_lt B_pos hd
   have h2 := pow_le (B := 18446744073709551616) B_pos h
   have h3 : (18446744073709551616 : Int) ^ (n / 64) * 1 ≤ 18446744073709551616 ^ (n / 64) * 2 ^ (n % 64) := Int.mul_le_mul_of_nonneg_left (show (1 : Int) ≤ 2 ^ (n % 64) by omega) (show (0 : Int) ≤ 18446744073709551616 ^ (n / 64) by omega)
   rw [pow_n]
   exact Int.ediv_eq_zero_of_lt h0 (by omega)
  rw [hv]
  exact Ev.now _
 ·
  refine Ev.congr (fun k => (if_neg (by omega)).trans ((if_pos (by omega)).trans (if_pos (by omega)))) ?_
  rw [Int.toNat_natCast]
  have hc : slices_Clone_uint64_uint64.f (l.drop (n / 64)) = some (l.drop (n / 64)) := by
   unfold slices_Clone_uint64_uint64.f
   exact if_pos (by simp; omega)
  rw [hc]
  have hv : V 18446744073709551616 l / 2 ^ n = V 18446744073709551616 (l.drop (n / 64)) / 2 ^ (n % 64) := by
   rw [pow_n, ← ediv_two (by omega), V_split 18446744073709551616 l (n := n / 64) (by omega), Int.add_mul_ediv_left _ _ (by omega)]
   have t0 := V_nonneg B_pos (hd.take (n / 64))
   have t1 := V_lt B_pos (hd.take (n / 64))
   rw [List.length_take, Nat.min_eq_left (by omega)] at t1
   rw [Int.ediv_eq_zero_of_lt t0 t1, Int.zero_add]
  rw [hv]
  simp only [Option.bind_some]
  exact shr_loop (l.drop (n / 64)) (hd.drop _) (n % 64) (by omega) (by simp; omega) (l.drop (n / 64)).length 0 _ (by omega) rfl (hd.drop _) (fun j _ => rfl) ⟨by simp [V]⟩
theorem pow64_le (n : Nat) : (2 : Int) ^ n ≤ 18446744073709551616 ^ (n / 64 + 1) := by
 rw [pow_n, Int.pow_succ]
 have h := two_pow_mono (show n % 64 ≤ 64 by omega)
 have e64 : (2 : Int) ^ 64 = 18446744073709551616 := by decide
 exact Int.mul_le_mul_of_nonneg_left (by omega) (Int.le_of_lt (pow_pos' B_pos _))
theorem Nm.shl {a v n} (h : Nm a v n) (k : Nat) (hl : k / 64 + n < 17592186044415) (hk : k < 4611686018427387904) : Ev (fun i => natdiv_shl.f i a (k : Int)) (Num.dg 18446744073709551616 (2 ^ k * v)) ∧ Nm (Num.dg 18446744073709551616 (2 ^ k * v)) (2 ^ k * v) (k / 64 + 1 + n) := by
 have h1 := h.len
 have e := shl_ev a h.dig k (by omega) hk
 rw [h.val] at e
 have n1 := h.nonneg
 have hP := two_pow_pos k
 refine ⟨e, Nm.dg (Int.mul_nonneg (by omega) n1) ?_⟩
 rw [Int.pow_add]
 have l1 := h.lt
 calc (2 : Int) ^ k * v ≤ 18446744073709551616 ^ (k / 64 + 1) * v := Int.mul_le_mul_of_nonneg_right (pow64_le k) n1
  _ < 18446744073709551616 ^ (k / 64 + 1) * 18446744073709551616 ^ n := Int.mul_lt_mul_of_pos_left l1 (pow_pos' B_pos _)
theorem Nm.shr {a v n} (h : Nm a v n) (k : Nat) (hl : n < 17592186044416) (hk : k < 4611686018427387904) : Ev (fun i => natdiv_shr.f i a (k : Int)) (Num.dg 18446744073709551616 (v / 2 ^ k)) ∧ Nm (Num.dg 18446744073709551616 (v / 2 ^ k)) (v / 2 ^ k) n := by
 have h1 := h.len
 have e := shr_ev a h.dig k (by omega) hk
 rw [h.val] at e
 have n1 := h.nonneg
 exact ⟨e, h.dg_le (Int.ediv_nonneg n1 (Int.le_of_lt (two_pow_pos k))) (Int.ediv_le_self _ n1)⟩
theorem odd_ok {n : Int} (h0 : 0 ≤ n) (h1 : n ≤ 65536) : natdiv_odd.f n = some false := by
 unfold natdiv_odd.f
 rw [if_neg (by omega), decide_eq_false (by omega)]
theorem Nm.Shl {a v n} (h : Nm a v n) (k : Nat) (hl : k / 64 + n < 17592186044415) (hk : k ≤ 65536) : Ev (fun i => natdiv_Shl.f i a (k : Int)) (Num.dg 18446744073709551616 (2 ^ k * v), 0) ∧ Nm (Num.dg 18446744073709551616 (2 ^ k * v)) (2 ^ k * v) (k / 64 + 1 + n) := by
 obtain ⟨e, m⟩ := h.shl k (by omega) (by omega)
 refine ⟨?_, m⟩
 unfold natdiv_Shl.f
 have ho : Ev (fun _ => natdiv_odd.f (k : Int)) false := by
  rw [odd_ok (by omega) (by omega)]
  exact Ev.now _
 exact Ev.bind ho (Ev.congr (fun i => if_neg Bool.false_ne_true) (Ev.bind e (Ev.now _)))
theorem Nm.Shr {a v n} (h : Nm a v n) (k : Nat) (hl : n < 17592186044416) (hk : k ≤ 65536) : Ev (fun i => natdiv_Shr.f i a (k : Int)) (Num.dg 18446744073709551616 (v / 2 ^ k), 0) ∧ Nm (Num.dg 18446744073709551616 (v / 2 ^ k)) (v / 2 ^ k) n := by
 obtain ⟨e, m⟩ := h.shr k (by omega) (by omega)
 refine ⟨?_, m⟩
 unfold natdiv_Shr.f
 have ho : Ev (fun _ => natdiv_odd.f (k : Int)) false := by
  rw [odd_ok (by omega) (by omega)]
  exact Ev.now _
 exact Ev.bind ho (Ev.congr (fun i => if_neg Bool.false_ne_true) (Ev.bind e (Ev.now _)))
end Go.Proofs.YtpdjahhimmaonaaDoor.PD
end
