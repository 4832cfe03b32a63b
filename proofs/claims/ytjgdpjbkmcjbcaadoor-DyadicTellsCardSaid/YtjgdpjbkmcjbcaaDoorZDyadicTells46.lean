/- Parts of a proof. -/
import Derived.Test.YtjgdpjbkmcjbcaaDoorZDyadicTells45
import Derived.WalkSmall
import Derived.Test.YtjgdpjbkmcjbcaaDoorZDyadicTells33
import Derived.Test.YtjgdpjbkmcjbcaaDoorZDyadicTells34
import Derived.Test.YtjgdpjbkmcjbcaaDoorZDyadicTells35
section
namespace Go.Proofs.YtjgdpjbkmcjbcaaDoor.PG
open Go.RowKit Go.Proofs.YtjgdpjbkmcjbcaaDoorW.PrintWords Go.Proofs.YtjgdpjbkmcjbcaaDoorW.PrintLast Go.Proofs.YtjgdpjbkmcjbcaaDoor.Num
set_option linter.unusedVariables false
set_option linter.unusedSimpArgs false
theorem add64_some {a b c : Int} (ha : 0 ≤ a) (hb : 0 ≤ b) (h0 : 0 ≤ c) (h1 : c ≤ 1) : bits_Add64.f a b c = some ((a + b + c) % 18446744073709551616, (a + b + c) / 18446744073709551616) := by
 unfold bits_Add64.f
 rw [if_pos ⟨ha, hb, h0, h1⟩]
theorem mul64_some {a b : Int} (ha : 0 ≤ a) (ha' : a < 18446744073709551616) (hb : 0 ≤ b) (hb' : b < 18446744073709551616) : bits_Mul64.f a b = some (a * b / 18446744073709551616, a * b % 18446744073709551616) := by
 unfold bits_Mul64.f
 rw [if_pos ⟨ha, ha', hb, hb'⟩]
theorem row_step {x y c s : Int} (hx : 0 ≤ x) (hx' : x < 18446744073709551616) (hy : 0 ≤ y) (hy' : y < 18446744073709551616) (hc : 0 ≤ c) (hc' : c < 18446744073709551616) (hs : 0 ≤ s) (hs' : s < 18446744073709551616) :
  ∃ hi lo q c1 r c2 : Int, bits_Mul64.f x y = some (hi, lo) ∧ bits_Add64.f lo c 0 = some (q, c1) ∧ bits_Add64.f s q 0 = some (r, c2) ∧ 0 ≤ r ∧ r < 18446744073709551616 ∧
   IntKind.u64.wrap (IntKind.u64.wrap (hi + c1) + c2) = hi + c1 + c2 ∧ 0 ≤ hi + c1 + c2 ∧ hi + c1 + c2 < 18446744073709551616 ∧ r + 18446744073709551616 * (hi + c1 + c2) = s + x * y + c := by
 have hm := mul64_some hx hx' hy hy'
 have p0 : 0 ≤ x * y := Int.mul_nonneg hx hy
 have p1 : x * y ≤ 18446744073709551615 * 18446744073709551615 := Int.mul_le_mul (by omega) (by omega) hy (by omega)
 generalize x * y = m at *
 refine ⟨m / 18446744073709551616, m % 18446744073709551616, (m % 18446744073709551616 + c + 0) % 18446744073709551616, (m % 18446744073709551616 + c + 0) / 18446744073709551616, (s + (m % 18446744073709551616 + c + 0) % 18446744073709551616 + 0) % 18446744073709551616, (s + (m % 18446744073709551616 + c + 0) % 18446744073709551616 + 0) / 18446744073709551616, hm,
  add64_some (by omega) (by omega) (by omega) (by omega), add64_some (by omega) (by omega) (by omega) (by omega), by omega, by omega, ?_, by omega, by omega, by omega⟩
 rw [u64w (x := m / 18446744073709551616 + (m % 18446744073709551616 + c + 0) / 18446744073709551616) (by omega) (by omega), u64w (by omega) (by omega)]
theorem row_spec (off : Nat) (x : Int) (hx : 0 ≤ x) (hx' : x < 18446744073709551616) : ∀ (ys : List Int) (i : Nat) (c : Int) (L : List Int), Dig 18446744073709551616 ys → 0 ≤ c → c < 18446744073709551616 → Dig 18446744073709551616 L → off + i + ys.length < L.length → L.getD (off + i + ys.length) 0 = 0 →
  ∃ L', nat_row.go off x ys i c L = some L' ∧ L'.length = L.length ∧ Dig 18446744073709551616 L' ∧ V 18446744073709551616 L' = V 18446744073709551616 L + 18446744073709551616 ^ (off + i) * (c + x * V 18446744073709551616 ys) ∧ ∀ j, off + i + ys.length < j → L'.getD j 0 = L.getD j 0
 | [], i, c, L, _, h0, h1, hL, hl, hz => by
  simp only [List.length_nil, Nat.add_zero] at hl hz
  refine ⟨L.set (off + i) c, rfl, by simp, hL.set _ h0 h1, ?_, ?_⟩
  ·
   rw [V_set _ _ _ _ hl, hz]
   simp [V]
  ·
   intro j hj
   simp only [List.length_nil, Nat.add_zero] at hj
   rw [getD_set _ _ _ _ hl, if_neg (by omega)]
 | y :: ys, i, c, L, hy, h0, h1, hL, hl, hz => by
  simp only [List.length_cons] at hl hz
  have gy := hy.head
  have gs := hL.getD B_pos (off + i)
  obtain ⟨hi, lo, q, c1, r, c2, e1, e2, e3, r0, r1, ew, w0, w1, ev⟩ := row_step hx hx' gy.1 gy.2 h0 h1 gs.1 gs.2
  have hlt : off + i < L.length := by omega
  obtain ⟨L', f1, f2, f3, f4, f5⟩ := row_spec off x hx hx' ys (i + 1) (hi + c1 + c2) (L.set (off + i) r) hy.tail w0 w1 (hL.set _ r0 r1) (by simp; omega) (by
   rw [getD_set _ _ _ _ hlt, if_neg (by omega)]
   rw [show off + (i + 1) + ys.length = off + i + (ys.length + 1) by omega]
   exact hz)
  refine ⟨L', ?_, by simpa using f2, f3, ?_, ?_⟩
  ·
   simp only [nat_row.go]
   rw [e1]
   simp only [Option.bind_some]
   rw [e2]
   simp only [Option.bind_some]
   rw [rd_nat, e3]
   simp only [Option.bind_some]
   rw [ew]
   exact f1
  ·
   rw [f4, V_set _ _ _ _ hlt, V_cons, show off + (i + 1) = off + i + 1 by omega, Int.pow_succ]
   clear f4 f5 f1 hz
   generalize (18446744073709551616 : Int) ^ (off + i) = p at *
   generalize L.getD (off + i) 0 = s at *
   generalize V 18446744073709551616 ys = Y at *
   generalize V 18446744073709551616 L = W at *
   generalize hk : hi + c1 + c2 = k at *
   have : p * (r + 18446744073709551616 * k) = p * (s + x * y + c) := by rw [ev]
   grind
  ·
   intro j hj
   simp only [List.length_cons] at hj
   rw [f5 j (by omega), getD_set _ _ _ _ hlt, if_neg (by omega)]
theorem mul_spec (a : List Int) (ha : Dig 18446744073709551616 a) : ∀ (xs : List Int) (i : Nat) (out : List Int), Dig 18446744073709551616 xs → Dig 18446744073709551616 out → out.length = a.length + i + xs.length + 1 → (∀ j, i + a.length ≤ j → out.getD j 0 = 0) →
  ∃ out', mulGo a xs i out = some out' ∧ out'.length = out.length ∧ Dig 18446744073709551616 out' ∧ V 18446744073709551616 out' = V 18446744073709551616 out + 18446744073709551616 ^ i * (V 18446744073709551616 a * V 18446744073709551616 xs)
 | [], i, out, _, ho, _, _ => ⟨out, rfl, rfl, ho, by simp [V]⟩
 | x :: xs, i, out, hx, ho, hl, hz => by
  simp only [List.length_cons] at hl
  obtain ⟨o, e1, e2, e3, e4, e5⟩ := row_spec i x hx.head.1 hx.head.2 a 0 0 out ha (by omega) (by omega) ho (by omega) (hz _ (by omega))
  obtain ⟨o', g1, g2, g3, g4⟩ := mul_spec a ha xs (i + 1) o hx.tail e3 (by omega) (fun j hj => by rw [e5 j (by omega)]; exact hz j (by omega))
  refine ⟨o', ?_, by omega, g3, ?_⟩
  ·
   simp only [mulGo]
   rw [e1]
   exact g1
  ·
   rw [g4, e4, V_cons, Nat.add_zero, Int.pow_succ]
   generalize (18446744073709551616 : Int) ^ i = p at *
   grind
theorem mul_ev (a b : List Int) (ha : Dig 18446744073709551616 a) (hb : Dig 18446744073709551616 b) (hl : a.length + b.length < 35184372088832) : Ev (fun k => nat_Mul.f k a b) (dg 18446744073709551616 (V 18446744073709551616 a * V 18446744073709551616 b)) := by
 unfold nat_Mul.f
 refine Ev.congr (fun k => if_pos (by omega)) ?_
 obtain ⟨out, e1, e2, e3, e4⟩ := mul_spec a ha b 0 (List.replicate (a.length + b.length + 1) 0) hb (Dig.replicate B_pos _) (by simp) (fun j _ => by
  simp only [List.getD_eq_getElem?_getD, List.getElem?_replicate]
  split <;> rfl)
 rw [e1]
 simp only [Option.bind_some]
 rw [V_replicate, Int.pow_zero, Int.one_mul, Int.zero_add] at e4
 have e2' : out.length = a.length + b.length + 1 := by simpa using e2
 have := cut_ev out (by omega) e3
 rw [e4] at this
 refine Ev.congr (fun k => ?_) this
 refine congrArg _ (funext fun t => ?_)
 by_cases h0 : 0 ≤ t
 ·
  by_cases h1 : t ≤ (out.length : Int)
  ·
   rw [if_pos ⟨h0, h1⟩, if_pos h0, if_pos h1]
  ·
   rw [if_neg (fun h => h1 h.2), if_pos h0, if_neg h1]
 ·
  rw [if_neg (fun h => h0 h.1), if_neg h0]
theorem bitLenAux_isBits : ∀ (f x : Nat), x < 2 ^ f → IsBits (x : Int) (Lib.bitLenAux f x)
 | 0, x, h => by
  obtain rfl : x = 0 := by simpa using h
  exact isBits_zero
 | f + 1, x, h => by
  simp only [Lib.bitLenAux]
  split
  ·
   rename_i e
   subst e
   exact isBits_zero
  ·
   rename_i e
   have ih := bitLenAux_isBits f (x / 2) (by rw [Nat.pow_succ] at h; omega)
   have := IsBits.half (v := (x : Int)) (n := Lib.bitLenAux f (x / 2)) (by omega) (by
    have e2 : ((x : Int) / 2) = ((x / 2 : Nat) : Int) := by omega
    rw [e2]
    exact ih)
   have e3 : (((1 + Lib.bitLenAux f (x / 2) : Nat)) : Int) = ((Lib.bitLenAux f (x / 2) : Nat) : Int) + 1 := by omega
   rw [e3]
   exact this
theorem len64_some {x : Int} (h0 : 0 ≤ x) (h1 : x < 18446744073709551616) : bits_Len64.f x = some (bitsOf x) := by
 unfold bits_Len64.f
 rw [if_pos ⟨h0, by omega⟩]
 congr 1
 have := bitLenAux_isBits 64 x.toNat (by omega)
 rw [Int.toNat_of_nonneg h0] at this
 exact bitsOf_eq this
theorem bitsOf_top {l : List Int} (h : Dig 18446744073709551616 l) (hne : l ≠ []) (ht : l.getD (l.length - 1) 0 ≠ 0) : bitsOf (V 18446744073709551616 l) = 64 * (l.length - 1 : Nat) + bitsOf (l.getD (l.length - 1) 0) := by
 have g := h.getD B_pos (l.length - 1)
 have hp : 0 < bitsOf (l.getD (l.length - 1) 0) := bitsOf_pos (by omega)
 have := IsBits.last (B := 18446744073709551616) (s := 64) (by decide) h hne (bitsOf_spec g.1) (by omega)
 exact (bitsOf_eq this).symm
theorem bits_ev (a : List Int) (ha : Dig 18446744073709551616 a) (hl : a.length ≤ 35184372088832) : Ev (fun k => nat_Bits.f k a) (bitsOf (V 18446744073709551616 a)) := by
 unfold nat_Bits.f
 refine Ev.bind (size_ev a (by omega)) ?_
 have hs := szN_le a
 have hv := trim_val 18446744073709551616 a
 have hn := trim_nrm (B := 18446744073709551616) ha
 have ln : (trim a).length = szN a := by unfold trim; rw [List.length_take]; omega
 by_cases h0 : szN a = 0
 ·
  refine Ev.congr (fun k => if_pos (by omega)) ?_
  have : trim a = [] := List.length_eq_zero_iff.1 (by omega)
  rw [← hv, this]
  exact Ev.now _
 ·
  refine Ev.congr (fun k => if_neg (by omega)) ?_
  have e1 : wrap64 ((szN a : Int) - 1) = ((szN a - 1 : Nat) : Int) := by rw [w64 (by omega) (by omega)]; omega
  have ht : a.getD (szN a - 1) 0 ≠ 0 := (szN_top a).resolve_left h0
  have gt : (trim a).getD ((trim a).length - 1) 0 = a.getD (szN a - 1) 0 := by
   unfold trim
   rw [List.length_take, getD_take, Nat.min_eq_left hs, if_pos (by omega)]
  have bt := bitsOf_top hn.1 (by intro h; rw [h] at ln; simp at ln; omega) (by rw [gt]; exact ht)
  rw [gt, ln, hv] at bt
  have ga := ha.getD B_pos (szN a - 1)
  have b64 : bitsOf (a.getD (szN a - 1) 0) ≤ 64 := bitsOf_le ga.1 (n := 64) (by omega)
  have b0 := bitsOf_nonneg (a.getD (szN a - 1) 0)
  refine Ev.congr (f := fun _ => some (bitsOf (V 18446744073709551616 a))) (fun k => ?_) (Ev.now _)
  rw [e1, if_pos (by omega), if_pos (by omega), rd_nat, len64_some ga.1 ga.2]
  simp only [Option.bind_some]
  rw [w64 (x := 64 * ((szN a - 1 : Nat) : Int)) (by omega) (by omega), w64 (by omega) (by omega), bt]
theorem V_mod {B m : Int} (hm : B % m = 0) (l : List Int) : V B l % m = l.getD 0 0 % m := by
 cases l with
 | nil => rfl
 | cons x l =>
  rw [V_cons]
  have : B * V B l % m = 0 := by rw [Int.mul_emod, hm]; simp
  simp only [List.getD_cons_zero]
  rw [Int.add_emod, this]
  simp
end Go.Proofs.YtjgdpjbkmcjbcaaDoor.PG
end
section
namespace Go.Proofs.YtjgdpjbkmcjbcaaDoor.PG
open Go.RowKit Go.Proofs.YtjgdpjbkmcjbcaaDoorW.PrintWords Go.Proofs.YtjgdpjbkmcjbcaaDoorW.PrintLast Go.Proofs.YtjgdpjbkmcjbcaaDoor.Num
set_option linter.unusedVariables false
structure Nm (a : List Int) (v : Int) (n : Nat) : Prop where
 dig : Dig 18446744073709551616 a
 val : V 18446744073709551616 a = v
 len : a.length ≤ n
theorem Nm.nonneg {a v n} (h : Nm a v n) : 0 ≤ v := h.val ▸ V_nonneg B_pos h.dig
theorem Nm.lt {a v n} (h : Nm a v n) : v < 18446744073709551616 ^ n := h.val ▸ Int.lt_of_lt_of_le (V_lt B_pos h.dig) (pow_le B_pos h.len)
theorem Nm.of_wf {l : List Int} {n : Nat} (h : ∀ x ∈ l, (Lit.int .u64 x).wf = true) (hl : l.length ≤ n) : Nm l (V 18446744073709551616 l) n := ⟨dig_of_wf h, rfl, hl⟩
theorem Nm.dg {v : Int} {n : Nat} (h0 : 0 ≤ v) (h1 : v < 18446744073709551616 ^ n) : Nm (dg 18446744073709551616 v) v n := ⟨dg_dig one_lt_B v, dg_val one_lt_B h0, dg_len_le one_lt_B h0 h1⟩
theorem Nm.dg_le {a v n w} (h : Nm a v n) (h0 : 0 ≤ w) (h1 : w ≤ v) : Nm (Num.dg 18446744073709551616 w) w n := Nm.dg h0 (Int.lt_of_le_of_lt h1 h.lt)
theorem Nm.mono {a v n m} (h : Nm a v n) (hm : n ≤ m) : Nm a v m := ⟨h.dig, h.val, Nat.le_trans h.len hm⟩
theorem Nm.nil {n} : Nm [] 0 n := ⟨Dig.nil _, rfl, by simp⟩
theorem Nm.one {x : Int} {n : Nat} (h0 : 0 ≤ x) (h1 : x < 18446744073709551616) (hn : 1 ≤ n) : Nm [x] x n := ⟨Dig.cons h0 h1 (Dig.nil _), by simp [V], by simpa using hn⟩
theorem Nm.add {a b v w n m} (p : Nat) (h : Nm a v n) (g : Nm b w m) (hn : n ≤ p) (hm : m ≤ p) (hp : p < 35184372088832) : Ev (fun k => nat_Add.f k a b) (Num.dg 18446744073709551616 (v + w)) ∧ Nm (Num.dg 18446744073709551616 (v + w)) (v + w) (p + 1) := by
 have h1 := h.len
 have h2 := g.len
 have e := add_ev a b h.dig g.dig (by omega) (by omega)
 rw [h.val, g.val] at e
 have l1 := (h.mono hn).lt
 have l2 := (g.mono hm).lt
 have n1 := h.nonneg
 have n2 := g.nonneg
 have pp := pow_pos' B_pos p
 refine ⟨e, Nm.dg (by omega) ?_⟩
 rw [Int.pow_succ]
 omega
theorem Nm.sub {a b v w n m} (p : Nat) (h : Nm a v n) (g : Nm b w m) (hn : n ≤ p) (hm : m ≤ p) (hp : p < 35184372088832) : Ev (fun k => nat_Sub.f k a b) (Num.dg 18446744073709551616 ((v - w).natAbs : Int)) ∧ Nm (Num.dg 18446744073709551616 ((v - w).natAbs : Int)) ((v - w).natAbs : Int) p := by
 have h1 := h.len
 have h2 := g.len
 have e := sub_ev a b h.dig g.dig (by omega) (by omega)
 rw [h.val, g.val] at e
 have l1 := (h.mono hn).lt
 have l2 := (g.mono hm).lt
 have n1 := h.nonneg
 have n2 := g.nonneg
 exact ⟨e, Nm.dg (by omega) (by omega)⟩
theorem Nm.mul {a b v w n m} (h : Nm a v n) (g : Nm b w m) (hp : n + m < 35184372088832) : Ev (fun k => nat_Mul.f k a b) (Num.dg 18446744073709551616 (v * w)) ∧ Nm (Num.dg 18446744073709551616 (v * w)) (v * w) (n + m) := by
 have h1 := h.len
 have h2 := g.len
 have e := mul_ev a b h.dig g.dig (by omega)
 rw [h.val, g.val] at e
 have n1 := h.nonneg
 have n2 := g.nonneg
 refine ⟨e, Nm.dg (Int.mul_nonneg n1 n2) ?_⟩
 rw [Int.pow_add]
 have l1 := h.lt
 have l2 := g.lt
 have pp := pow_pos' B_pos n
 calc v * w ≤ v * 18446744073709551616 ^ m := Int.mul_le_mul_of_nonneg_left (by omega) n1
  _ < 18446744073709551616 ^ n * 18446744073709551616 ^ m := Int.mul_lt_mul_of_pos_right l1 (pow_pos' B_pos m)
theorem Nm.norm {a v n} (h : Nm a v n) (hp : n ≤ 17592186044416) : Ev (fun k => nat_Norm.f k a) (Num.dg 18446744073709551616 v) ∧ Nm (Num.dg 18446744073709551616 v) v n := by
 have h1 := h.len
 have e := norm_ev a (by omega) h.dig
 rw [h.val] at e
 exact ⟨e, h.dg_le h.nonneg (Int.le_refl _)⟩
theorem Nm.cmp {a b v w n m} (h : Nm a v n) (g : Nm b w m) (hn : n ≤ 4611686018427387904) (hm : m ≤ 4611686018427387904) : Ev (fun k => nat_Cmp.f k a b) (sgn (v - w)) := by
 have h1 := h.len
 have h2 := g.len
 have e := cmp_ev a b h.dig g.dig (by omega) (by omega)
 rwa [h.val, g.val] at e
theorem Nm.bits {a v n} (h : Nm a v n) (hn : n ≤ 35184372088832) : Ev (fun k => nat_Bits.f k a) (bitsOf v) := by
 have h1 := h.len
 have e := bits_ev a h.dig (by omega)
 rwa [h.val] at e
theorem Nm.same {v w : Int} {n : Nat} (e : v = w) (h : Nm (Num.dg 18446744073709551616 v) v n) (hn : n ≤ 4611686018427387904) : Ev (fun k => vernierref01_Same.f k (Num.dg 18446744073709551616 v) (Num.dg 18446744073709551616 w)) true :=
 same_true (by rw [e]) (Nat.le_trans h.len hn)
end Go.Proofs.YtjgdpjbkmcjbcaaDoor.PG
end
section
namespace Go.Proofs.YtjgdpjbkmcjbcaaDoor.PG
open Go.RowKit Go.Proofs.YtjgdpjbkmcjbcaaDoorW.PrintWords Go.Proofs.YtjgdpjbkmcjbcaaDoorW.PrintLast Go.Proofs.YtjgdpjbkmcjbcaaDoor.Num
set_option linter.unusedVariables false
set_option linter.unusedSimpArgs false
theorem one_lt_D : (1 : Int) < 65536 := by decide
theorem D_pos : (0 : Int) < 65536 := by decide
theorem tmod_nn {x y : Int} (h : 0 ≤ x) : Int.tmod x y = x % y := Int.tmod_eq_emod_of_nonneg h
theorem tdiv_nn {x y : Int} (h : 0 ≤ x) : Int.tdiv x y = x / y := Int.tdiv_eq_ediv_of_nonneg h
theorem getD_out {l : List Int} {n : Nat} (h : l.length ≤ n) : l.getD n 0 = 0 := by rw [List.getD_eq_getElem?_getD, List.getElem?_eq_none h]; rfl
theorem rcut_loop (l : List Int) (hl : l.length ≤ 4611686018427387904) (hd : Dig 65536 l) : ∀ n : Nat, n ≤ l.length → (∀ i, n ≤ i → l.getD i 0 = 0) → Ev (fun k => vernierref01_cut.l0 k l (n : Int)) (dg 65536 (V 65536 l))
 | 0, _, hz => by
  have e : (0 : Nat) = szN l := szN_uniq l hz (.inl rfl)
  refine Ev.step (f := fun _ => some (dg 65536 (V 65536 l))) (fun k => ?_) (Ev.now _)
  simp only [vernierref01_cut.l0]
  rw [if_neg (by omega), if_pos (by omega), if_pos (by omega), ← trim_dg one_lt_D hd]
  unfold trim
  rw [← e]
  rfl
 | n + 1, hn, hz => by
  have ew : wrap64 (((n + 1 : Nat) : Int) - 1) = (n : Int) := by rw [w64 (by omega) (by omega)]; omega
  by_cases h0 : l.getD n 0 = 0
  ·
   refine Ev.step (f := fun k => vernierref01_cut.l0 k l (n : Int)) (fun k => ?_) (rcut_loop l hl hd n (by omega) (fun i hi => ?_))
   ·
    simp only [vernierref01_cut.l0]
    rw [if_pos (by omega), ew, if_pos (by omega), if_pos (by omega), rd_nat, if_pos h0]
   ·
    by_cases e : i = n
    ·
     rw [e]; exact h0
    ·
     exact hz i (by omega)
  ·
   have e : n + 1 = szN l := szN_uniq l hz (.inr (by simpa using h0))
   refine Ev.step (f := fun _ => some (dg 65536 (V 65536 l))) (fun k => ?_) (Ev.now _)
   simp only [vernierref01_cut.l0]
   rw [if_pos (by omega), ew, if_pos (by omega), if_pos (by omega), rd_nat, if_neg h0, if_pos (by omega), if_pos (by omega), ← trim_dg one_lt_D hd]
   unfold trim
   rw [← e, Int.toNat_natCast]
theorem rcut_ev (l : List Int) (hl : l.length ≤ 4611686018427387904) (hd : Dig 65536 l) : Ev (fun k => vernierref01_cut.f k l) (dg 65536 (V 65536 l)) :=
 Ev.congr (fun k => rfl) (rcut_loop l hl hd l.length (Nat.le_refl _) (fun i hi => getD_out hi))
theorem rcut_ev' (l : List Int) (hl : l.length ≤ 4611686018427387904) (hd : Dig 65536 l) : Ev (fun k => (vernierref01_cut.f k l).bind fun t => some t) (dg 65536 (V 65536 l)) :=
 Ev.bind (rcut_ev l hl hd) (Ev.now _)
theorem pow_DB : ∀ i : Nat, (65536 : Int) ^ (4 * i) = 18446744073709551616 ^ i
 | 0 => rfl
 | i + 1 => by
  have := pow_DB i
  rw [show 4 * (i + 1) = 4 * i + 1 + 1 + 1 + 1 by omega, Int.pow_succ, Int.pow_succ, Int.pow_succ, Int.pow_succ, Int.pow_succ, this]
  omega
theorem V4 (d0 d1 d2 d3 : Int) : V 65536 [d0, d1, d2, d3] = d0 + 65536 * (d1 + 65536 * (d2 + 65536 * d3)) := by simp [V]
theorem of_digit {x : Int} (h0 : 0 ≤ x) (h1 : x < 18446744073709551616) : wrap64 (Int.tmod x 65536) = x % 65536 ∧ IntKind.u64.wrap (Int.tdiv x 65536) = x / 65536 := by
 rw [tmod_nn h0, tdiv_nn h0]
 exact ⟨w64 (by omega) (by omega), u64w (by omega) (by omega)⟩
theorem of_limb (l out : List Int) (i : Nat) (x : Int) (h0 : 0 ≤ x) (h1 : x < 18446744073709551616) (ho : out.length + 4 ≤ 17592186044416) (hi : i < 4611686018427387904) {v : List Int}
  (h : Ev (fun k => vernierref01_Of.l0 k l (out ++ [x % 65536, x / 65536 % 65536, x / 65536 / 65536 % 65536, x / 65536 / 65536 / 65536 % 65536]) ((i + 1 : Nat) : Int)) v) :
  Ev (fun k => vernierref01_Of.l1 k l out (i : Int) x 0) v := by
 have ew : wrap64 ((i : Int) + 1) = ((i + 1 : Nat) : Int) := by rw [w64 (by omega) (by omega)]; omega
 obtain ⟨a0, b0⟩ := of_digit h0 h1
 obtain ⟨a1, b1⟩ := of_digit (x := x / 65536) (by omega) (by omega)
 obtain ⟨a2, b2⟩ := of_digit (x := x / 65536 / 65536) (by omega) (by omega)
 obtain ⟨a3, b3⟩ := of_digit (x := x / 65536 / 65536 / 65536) (by omega) (by omega)
 have s1 : wrap64 (0 + 1) = 1 := (w64 (x := 0 + 1) (by omega) (by omega)).trans (by omega)
 have s2 : wrap64 (1 + 1) = 2 := (w64 (x := 1 + 1) (by omega) (by omega)).trans (by omega)
 have s3 : wrap64 (2 + 1) = 3 := (w64 (x := 2 + 1) (by omega) (by omega)).trans (by omega)
 have s4 : wrap64 (3 + 1) = 4 := (w64 (x := 3 + 1) (by omega) (by omega)).trans (by omega)
 refine Ev.step (f := fun k => vernierref01_Of.l1 k l (out ++ [x % 65536]) (i : Int) (x / 65536) 1) (fun k => ?_) ?_
 ·
  simp only [vernierref01_Of.l1]
  rw [if_pos (by decide), if_pos (by omega), a0, b0, s1]
 refine Ev.step (f := fun k => vernierref01_Of.l1 k l (out ++ [x % 65536, x / 65536 % 65536]) (i : Int) (x / 65536 / 65536) 2) (fun k => ?_) ?_
 ·
  simp only [vernierref01_Of.l1]
  rw [if_pos (by decide), if_pos (by simp; omega), a1, b1, s2, List.append_assoc]
  rfl
 refine Ev.step (f := fun k => vernierref01_Of.l1 k l (out ++ [x % 65536, x / 65536 % 65536, x / 65536 / 65536 % 65536]) (i : Int) (x / 65536 / 65536 / 65536) 3) (fun k => ?_) ?_
 ·
  simp only [vernierref01_Of.l1]
  rw [if_pos (by decide), if_pos (by simp; omega), a2, b2, s3, List.append_assoc]
  rfl
 refine Ev.step (f := fun k => vernierref01_Of.l1 k l (out ++ [x % 65536, x / 65536 % 65536, x / 65536 / 65536 % 65536, x / 65536 / 65536 / 65536 % 65536]) (i : Int) (x / 65536 / 65536 / 65536 / 65536) 4) (fun k => ?_) ?_
 ·
  simp only [vernierref01_Of.l1]
  rw [if_pos (by decide), if_pos (by simp; omega), a3, b3, s4, List.append_assoc]
  rfl
 refine Ev.step (fun k => ?_) h
 simp only [vernierref01_Of.l1]
 rw [if_neg (by decide), ew]
theorem of_loop (l : List Int) (hd : Dig 18446744073709551616 l) (hl : l.length ≤ 4398046511103) : ∀ (d i : Nat) (out : List Int), l.length = i + d → out.length = 4 * i → Dig 65536 out → V 65536 out = V 18446744073709551616 (l.take i) →
  Ev (fun k => vernierref01_Of.l0 k l out (i : Int)) (dg 65536 (V 18446744073709551616 l))
 | 0, i, out, hi, ho, hD, hV => by
  refine Ev.step (f := fun k => (vernierref01_cut.f k out).bind fun t => some t) (fun k => ?_) ?_
  ·
   simp only [vernierref01_Of.l0]
   rw [if_neg (by omega)]
  ·
   rw [V_take_all _ _ (by omega)] at hV
   rw [← hV]
   exact rcut_ev' out (by omega) hD
 | d + 1, i, out, hi, ho, hD, hV => by
  have g := hd.getD B_pos i
  refine Ev.step (f := fun k => vernierref01_Of.l1 k l out (i : Int) (l.getD i 0) 0) (fun k => ?_) ?_
  ·
   simp only [vernierref01_Of.l0]
   rw [if_pos (by omega), if_pos (by omega), rd_nat]
  refine of_limb l out i _ g.1 g.2 (by omega) (by omega) (of_loop l hd hl d (i + 1) _ (by omega) (by simp; omega) ?_ ?_)
  ·
   refine hD.append (Dig.cons (by omega) (by omega) (Dig.cons (by omega) (by omega) (Dig.cons (by omega) (by omega) (Dig.cons (by omega) (by omega) (Dig.nil _)))))
  ·
   rw [V_append, V4, V_take_succ, hV, ho, pow_DB]
   congr 2
   omega
theorem of_ev (l : List Int) (hd : Dig 18446744073709551616 l) (hl : l.length ≤ 4398046511103) : Ev (fun k => vernierref01_Of.f k l) (dg 65536 (V 18446744073709551616 l)) :=
 Ev.congr (fun k => rfl) (of_loop l hd hl l.length 0 [] (by omega) rfl (Dig.nil _) (by simp [V]))
theorem limb_step (a out : List Int) (ha : Dig 65536 a) (i j : Nat) (x : Int) (M : Int) (h0 : 0 ≤ x) (h1 : x < M) (hM : M * 65536 ≤ 18446744073709551616) (hi : i + j < 4611686018427387904) {v : List Int}
  (h : Ev (fun k => vernierref01_Limbs.l1 k a out (i : Int) (x * 65536 + a.getD (i + j) 0) ((j : Int) - 1)) v) :
  Ev (fun k => vernierref01_Limbs.l1 k a out (i : Int) x (j : Int)) v := by
 have g := ha.getD D_pos (i + j)
 have e1 : wrap64 ((i : Int) + (j : Int)) = ((i + j : Nat) : Int) := by rw [w64 (by omega) (by omega)]; omega
 have e2 : wrap64 ((j : Int) - 1) = (j : Int) - 1 := w64 (by omega) (by omega)
 refine Ev.step (fun k => ?_) h
 simp only [vernierref01_Limbs.l1]
 rw [if_pos (by omega), e1, e2]
 by_cases hb : i + j < a.length
 ·
  rw [if_pos (by omega), if_pos (by omega), rd_nat, u64w (x := x * 65536) (by omega) (by omega), u64w (x := a.getD (i + j) 0) (by omega) (by omega), u64w (by omega) (by omega)]
 ·
  rw [if_neg (by omega), u64w (by omega) (by omega), getD_out (by omega), Int.add_zero]
theorem limbs_loop (a : List Int) (ha : Nrm 65536 a) (hl : a.length ≤ 70368744177664) : ∀ (d j : Nat) (out : List Int), a.length ≤ 4 * j + d → 4 * j ≤ a.length + 3 → out.length = j → Dig 18446744073709551616 out → V 18446744073709551616 out + 18446744073709551616 ^ j * V 65536 (a.drop (4 * j)) = V 65536 a →
  (out = [] ∨ 4 * j < a.length ∨ out.getD (out.length - 1) 0 ≠ 0) → Ev (fun k => vernierref01_Limbs.l0 k a out ((4 * j : Nat) : Int)) (dg 18446744073709551616 (V 65536 a))
 | d, j, out, hd, hj, ho, hD, hV, hN => by
  by_cases hlt : 4 * j < a.length
  ·
   have c0 := ha.1.getD D_pos (4 * j)
   have c1 := ha.1.getD D_pos (4 * j + 1)
   have c2 := ha.1.getD D_pos (4 * j + 2)
   have c3 := ha.1.getD D_pos (4 * j + 3)
   have ew : wrap64 (((4 * j : Nat) : Int) + 4) = ((4 * (j + 1) : Nat) : Int) := by rw [w64 (by omega) (by omega)]; omega
   have hx : V 65536 (a.drop (4 * j)) = a.getD (4 * j) 0 + 65536 * (a.getD (4 * j + 1) 0 + 65536 * (a.getD (4 * j + 2) 0 + 65536 * a.getD (4 * j + 3) 0)) + 18446744073709551616 * V 65536 (a.drop (4 * (j + 1))) := by
    have st : ∀ n : Nat, V 65536 (a.drop n) = a.getD n 0 + 65536 * V 65536 (a.drop (n + 1)) := by
     intro n
     by_cases h : n < a.length
     ·
      exact V_drop_succ _ a n h
     ·
      rw [V_drop_all _ a (by omega), V_drop_all _ a (by omega), getD_out (by omega)]; rfl
    rw [st (4 * j), st (4 * j + 1), st (4 * j + 2), st (4 * j + 3), show 4 * (j + 1) = 4 * j + 3 + 1 by omega]
    omega
   have hd' : d = 0 ∨ 0 < d := by omega
   rcases hd' with rfl | hd'
   ·
    omega
   have key : Ev (fun k => vernierref01_Limbs.l0 k a (out ++ [((((0 : Int) * 65536 + a.getD (4 * j + 3) 0) * 65536 + a.getD (4 * j + 2) 0) * 65536 + a.getD (4 * j + 1) 0) * 65536 + a.getD (4 * j) 0]) ((4 * (j + 1) : Nat) : Int)) (dg 18446744073709551616 (V 65536 a)) := by
    refine limbs_loop a ha hl (d - 4) (j + 1) _ (by omega) (by omega) (by simp; omega) (hD.append (Dig.cons (by omega) (by omega) (Dig.nil _))) ?_ ?_
    ·
     rw [V_append, ho, Int.pow_succ, ← hV, hx]
     simp only [V]
     grind
    ·
     by_cases hm : 4 * (j + 1) < a.length
     ·
      exact .inr (.inl hm)
     ·
      refine .inr (.inr ?_)
      rw [getD_append_last]
      have hz : V 65536 (a.drop (4 * (j + 1))) = 0 := V_drop_all _ a (by omega)
      rw [hz] at hx
      have hne : a ≠ [] := by rintro rfl; simp at hlt
      have hlast := ha.2.resolve_left hne
      have : a.length - 1 = 4 * j ∨ a.length - 1 = 4 * j + 1 ∨ a.length - 1 = 4 * j + 2 ∨ a.length - 1 = 4 * j + 3 := by omega
      rcases this with e | e | e | e <;> rw [e] at hlast <;> omega
   refine Ev.step (f := fun k => vernierref01_Limbs.l1 k a out ((4 * j : Nat) : Int) 0 ((3 : Nat) : Int)) (fun k => ?_) ?_
   ·
    simp only [vernierref01_Limbs.l0]
    rw [if_pos (by omega)]
    rfl
   refine limb_step a out ha.1 (4 * j) 3 0 1 (by omega) (by omega) (by omega) (by omega) ?_
   refine limb_step a out ha.1 (4 * j) 2 _ 65536 (by omega) (by omega) (by omega) (by omega) ?_
   refine limb_step a out ha.1 (4 * j) 1 _ 4294967296 (by omega) (by omega) (by omega) (by omega) ?_
   refine limb_step a out ha.1 (4 * j) 0 _ 281474976710656 (by omega) (by omega) (by omega) (by omega) ?_
   refine Ev.step (fun k => ?_) key
   simp only [vernierref01_Limbs.l1]
   rw [if_neg (by omega), if_pos (by omega), ew]
   rfl
  ·
   refine Ev.step (f := fun _ => some out) (fun k => ?_) ?_
   ·
    simp only [vernierref01_Limbs.l0]
    rw [if_neg (by omega)]
   ·
    rw [V_drop_all _ a (by omega), Int.mul_zero, Int.add_zero] at hV
    have hN' : Nrm 18446744073709551616 out := ⟨hD, by rcases hN with h | h | h; exact .inl h; omega; exact .inr h⟩
    rw [← hV, ← dg_eq one_lt_B hN']
    exact Ev.now _
theorem limbs_ev (a : List Int) (ha : Nrm 65536 a) (hl : a.length ≤ 70368744177664) : Ev (fun k => vernierref01_Limbs.f k a) (dg 18446744073709551616 (V 65536 a)) :=
 Ev.congr (fun k => rfl) (limbs_loop a ha hl a.length 0 [] (by omega) (by omega) rfl (Dig.nil _) (by simp [V]) (.inl rfl))
theorem rcmp_loop (a b : List Int) (ha : Dig 65536 a) (hb : Dig 65536 b) (hl : a.length = b.length) (hm : a.length ≤ 4611686018427387904) : ∀ n : Nat, n ≤ a.length →
  Ev (fun k => vernierref01_Cmp.l0 k a b ((n : Int) - 1)) (sgn (V 65536 (a.take n) - V 65536 (b.take n)))
 | 0, _ => by
  refine Ev.step (f := fun _ => some _) (fun k => ?_) (Ev.now _)
  simp only [vernierref01_Cmp.l0]
  rw [if_neg (by omega)]
  simp [V, sgn]
 | n + 1, hn => by
  have e0 : ((n + 1 : Nat) : Int) - 1 = (n : Int) := by omega
  have ew : wrap64 ((n : Int) - 1) = (n : Int) - 1 := w64 (by omega) (by omega)
  rw [e0]
  by_cases h1 : a.getD n 0 < b.getD n 0
  ·
   have := lt_of_digit D_pos ha hb n h1
   have es : sgn (V 65536 (a.take (n + 1)) - V 65536 (b.take (n + 1))) = -1 := by unfold sgn; rw [if_pos (by omega)]
   rw [es]
   refine Ev.step (f := fun _ => some _) (fun k => ?_) (Ev.now _)
   simp only [vernierref01_Cmp.l0]
   rw [if_pos (by omega), if_pos (by omega), if_pos (by omega), if_pos (by omega), rd_nat, rd_nat, if_pos h1]
  ·
   by_cases h2 : a.getD n 0 > b.getD n 0
   ·
    have := lt_of_digit D_pos hb ha n h2
    have es : sgn (V 65536 (a.take (n + 1)) - V 65536 (b.take (n + 1))) = 1 := by unfold sgn; rw [if_neg (by omega), if_neg (by omega)]
    rw [es]
    refine Ev.step (f := fun _ => some _) (fun k => ?_) (Ev.now _)
    simp only [vernierref01_Cmp.l0]
    rw [if_pos (by omega), if_pos (by omega), if_pos (by omega), if_pos (by omega), rd_nat, rd_nat, if_neg h1, if_pos h2]
   ·
    have e : a.getD n 0 = b.getD n 0 := by omega
    have := rcmp_loop a b ha hb hl hm n (by omega)
    rw [V_take_succ, V_take_succ, e, show V 65536 (a.take n) + 65536 ^ n * b.getD n 0 - (V 65536 (b.take n) + 65536 ^ n * b.getD n 0) = V 65536 (a.take n) - V 65536 (b.take n) by omega]
    refine Ev.step (fun k => ?_) this
    simp only [vernierref01_Cmp.l0]
    rw [if_pos (by omega), if_pos (by omega), if_pos (by omega), if_pos (by omega), rd_nat, rd_nat, if_neg h1, if_neg h2, ew]
theorem rcmp_ev (a b : List Int) (ha : Nrm 65536 a) (hb : Nrm 65536 b) (hla : a.length ≤ 4611686018427387904) (hlb : b.length ≤ 4611686018427387904) : Ev (fun k => vernierref01_Cmp.f k a b) (sgn (V 65536 a - V 65536 b)) := by
 unfold vernierref01_Cmp.f
 by_cases h : a.length = b.length
 ·
  refine Ev.congr (fun k => if_pos (by omega)) ?_
  have := rcmp_loop a b ha.1 hb.1 h hla a.length (Nat.le_refl _)
  rw [List.take_of_length_le (Nat.le_refl _), List.take_of_length_le (by omega)] at this
  rw [w64 (by omega) (by omega)]
  exact this
 ·
  refine Ev.congr (fun k => if_neg (by omega)) ?_
  by_cases h2 : a.length < b.length
  ·
   refine Ev.congr (fun k => if_pos (by omega)) ?_
   have := lt_of_len one_lt_D ha.1 hb h2
   have es : sgn (V 65536 a - V 65536 b) = -1 := by unfold sgn; rw [if_pos (by omega)]
   rw [es]
   exact Ev.now _
  ·
   refine Ev.congr (fun k => if_neg (by omega)) ?_
   have := lt_of_len one_lt_D hb.1 ha (by omega)
   have es : sgn (V 65536 a - V 65536 b) = 1 := by unfold sgn; rw [if_neg (by omega), if_neg (by omega)]
   rw [es]
   exact Ev.now _
end Go.Proofs.YtjgdpjbkmcjbcaaDoor.PG
end
