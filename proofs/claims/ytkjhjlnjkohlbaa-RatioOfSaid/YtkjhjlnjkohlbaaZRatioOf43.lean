/- What nat's functions compute: products, how many bits, evenness. -/
import Derived.Test.YtkjhjlnjkohlbaaZRatioOf42
import Derived.WalkSmall
namespace Go.Proofs.Ytkjhjlnjkohlbaa.PR
open Go.RowKit Go.Proofs.YtkjhjlnjkohlbaaW.PrintWords Go.Proofs.YtkjhjlnjkohlbaaW.PrintLast Go.Proofs.Ytkjhjlnjkohlbaa.Num
set_option linter.unusedVariables false
set_option linter.unusedSimpArgs false
theorem add64_some {a b c : Int} (ha : 0 ≤ a) (hb : 0 ≤ b) (h0 : 0 ≤ c) (h1 : c ≤ 1) : bits_Add64.f a b c = some ((a + b + c) % 18446744073709551616, (a + b + c) / 18446744073709551616) := by
 unfold bits_Add64.f
 rw [if_pos ⟨ha, hb, h0, h1⟩]
theorem mul64_some {a b : Int} (ha : 0 ≤ a) (ha' : a < 18446744073709551616) (hb : 0 ≤ b) (hb' : b < 18446744073709551616) : bits_Mul64.f a b = some (a * b / 18446744073709551616, a * b % 18446744073709551616) := by
 unfold bits_Mul64.f
 rw [if_pos ⟨ha, ha', hb, hb'⟩]
theorem row_step {x y c s : Int} (hx : 0 ≤ x) (hx' : x < 18446744073709551616) (hy : 0 ≤ y) (hy' : y < 18446744073709551616) (hc : 0 ≤ c) (hc' : c < 18446744073709551616) (hs : 0 ≤ s) (hs' : s < 18446744073709551616) :
  ∃ hi lo q c1 r c2 : Int, bits_Mul64.f x y = some (hi, lo) ∧ bits_Add64.f lo c 0 = some (q, c1) ∧ bits_Add64.f s q 0 = some (r, c2) ∧ 0 ≤ r ∧ r < 18446744073709551616 ∧
   IntKind.u64.wrap (IntKind.u64.wrap (hi + c1) + c2) = hi + c1 + c2 ∧ 0 ≤ hi + c1 + c2 ∧ hi + c1 + c2 < 18446744073709551616 ∧ r + 18446744073709551616 * (hi + c1 + c2) = s + x * y + c := by
 have hm := mul64_some hx hx' hy hy'
 have p0 : 0 ≤ x * y := Int.mul_nonneg hx hy
 have p1 : x * y ≤ 18446744073709551615 * 18446744073709551615 := Int.mul_le_mul (by omega) (by omega) hy (by omega)
 generalize x * y = m at *
 refine ⟨m / 18446744073709551616, m % 18446744073709551616, (m % 18446744073709551616 + c + 0) % 18446744073709551616, (m % 18446744073709551616 + c + 0) / 18446744073709551616, (s + (m % 18446744073709551616 + c + 0) % 18446744073709551616 + 0) % 18446744073709551616, (s + (m % 18446744073709551616 + c + 0) % 18446744073709551616 + 0) / 18446744073709551616, hm,
  add64_some (by omega) (by omega) (by omega) (by omega), add64_some (by omega) (by omega) (by omega) (by omega), by omega, by omega, ?_, by omega, by omega, by omega⟩
 rw [u64w (x := m / 18446744073709551616 + (m % 18446744073709551616 + c + 0) / 18446744073709551616) (by omega) (by omega), u64w (by omega) (by omega)]
theorem row_spec (off : Nat) (x : Int) (hx : 0 ≤ x) (hx' : x < 18446744073709551616) : ∀ (ys : List Int) (i : Nat) (c : Int) (L : List Int), Dig 18446744073709551616 ys → 0 ≤ c → c < 18446744073709551616 → Dig 18446744073709551616 L → off + i + ys.length < L.length → L.getD (off + i + ys.length) 0 = 0 →
  ∃ L', nat_row.go off x ys i c L = some L' ∧ L'.length = L.length ∧ Dig 18446744073709551616 L' ∧ V 18446744073709551616 L' = V 18446744073709551616 L + 18446744073709551616 ^ (off + i) * (c + x * V 18446744073709551616 ys) ∧ ∀ j, off + i + ys.length < j → L'.getD j 0 = L.getD j 0
 | [], i, c, L, _, h0, h1, hL, hl, hz => by
  simp only [List.length_nil, Nat.add_zero] at hl hz
  refine ⟨L.set (off + i) c, rfl, by simp, hL.set _ h0 h1, ?_, ?_⟩
  ·
   rw [V_set _ _ _ _ hl, hz]
   simp [V]
  ·
   intro j hj
   simp only [List.length_nil, Nat.add_zero] at hj
   rw [getD_set _ _ _ _ hl, if_neg (by omega)]
 | y :: ys, i, c, L, hy, h0, h1, hL, hl, hz => by
  simp only [List.length_cons] at hl hz
  have gy := hy.head
  have gs := hL.getD B_pos (off + i)
  obtain ⟨hi, lo, q, c1, r, c2, e1, e2, e3, r0, r1, ew, w0, w1, ev⟩ := row_step hx hx' gy.1 gy.2 h0 h1 gs.1 gs.2
  have hlt : off + i < L.length := by omega
  obtain ⟨L', f1, f2, f3, f4, f5⟩ := row_spec off x hx hx' ys (i + 1) (hi + c1 + c2) (L.set (off + i) r) hy.tail w0 w1 (hL.set _ r0 r1) (by simp; omega) (by
   rw [getD_set _ _ _ _ hlt, if_neg (by omega)]
   rw [show off + (i + 1) + ys.length = off + i + (ys.length + 1) by omega]
   exact hz)
  refine ⟨L', ?_, by simpa using f2, f3, ?_, ?_⟩
  ·
   simp only [nat_row.go]
   rw [e1]
   simp only [Option.bind_some]
   rw [e2]
   simp only [Option.bind_some]
   rw [rd_nat, e3]
   simp only [Option.bind_some]
   rw [ew]
   exact f1
  ·
   rw [f4, V_set _ _ _ _ hlt, V_cons, show off + (i + 1) = off + i + 1 by omega, Int.pow_succ]
   clear f4 f5 f1 hz
   generalize (18446744073709551616 : Int) ^ (off + i) = p at *
   generalize L.getD (off + i) 0 = s at *
   generalize V 18446744073709551616 ys = Y at *
   generalize V 18446744073709551616 L = W at *
   generalize hk : hi + c1 + c2 = k at *
   have : p * (r + 18446744073709551616 * k) = p * (s + x * y + c) := by rw [ev]
   grind
  ·
   intro j hj
   simp only [List.length_cons] at hj
   rw [f5 j (by omega), getD_set _ _ _ _ hlt, if_neg (by omega)]
theorem mul_spec (a : List Int) (ha : Dig 18446744073709551616 a) : ∀ (xs : List Int) (i : Nat) (out : List Int), Dig 18446744073709551616 xs → Dig 18446744073709551616 out → out.length = a.length + i + xs.length + 1 → (∀ j, i + a.length ≤ j → out.getD j 0 = 0) →
  ∃ out', mulGo a xs i out = some out' ∧ out'.length = out.length ∧ Dig 18446744073709551616 out' ∧ V 18446744073709551616 out' = V 18446744073709551616 out + 18446744073709551616 ^ i * (V 18446744073709551616 a * V 18446744073709551616 xs)
 | [], i, out, _, ho, _, _ => ⟨out, rfl, rfl, ho, by simp [V]⟩
 | x :: xs, i, out, hx, ho, hl, hz => by
  simp only [List.length_cons] at hl
  obtain ⟨o, e1, e2, e3, e4, e5⟩ := row_spec i x hx.head.1 hx.head.2 a 0 0 out ha (by omega) (by omega) ho (by omega) (hz _ (by omega))
  obtain ⟨o', g1, g2, g3, g4⟩ := mul_spec a ha xs (i + 1) o hx.tail e3 (by omega) (fun j hj => by rw [e5 j (by omega)]; exact hz j (by omega))
  refine ⟨o', ?_, by omega, g3, ?_⟩
  ·
   simp only [mulGo]
   rw [e1]
   exact g1
  ·
   rw [g4, e4, V_cons, Nat.add_zero, Int.pow_succ]
   generalize (18446744073709551616 : Int) ^ i = p at *
   grind
theorem mul_ev (a b : List Int) (ha : Dig 18446744073709551616 a) (hb : Dig 18446744073709551616 b) (hl : a.length + b.length < 35184372088832) : Ev (fun k => nat_Mul.f k a b) (dg 18446744073709551616 (V 18446744073709551616 a * V 18446744073709551616 b)) := by
 unfold nat_Mul.f
 refine Ev.congr (fun k => if_pos (by omega)) ?_
 obtain ⟨out, e1, e2, e3, e4⟩ := mul_spec a ha b 0 (List.replicate (a.length + b.length + 1) 0) hb (Dig.replicate B_pos _) (by simp) (fun j _ => by
  simp only [List.getD_eq_getElem?_getD, List.getElem?_replicate]
  split <;> rfl)
 rw [e1]
 simp only [Option.bind_some]
 rw [V_replicate, Int.pow_zero, Int.one_mul, Int.zero_add] at e4
 have e2' : out.length = a.length + b.length + 1 := by simpa using e2
 have := cut_ev out (by omega) e3
 rw [e4] at this
 refine Ev.congr (fun k => ?_) this
 refine congrArg _ (funext fun t => ?_)
 by_cases h0 : 0 ≤ t
 ·
  by_cases h1 : t ≤ (out.length : Int)
  ·
   rw [if_pos ⟨h0, h1⟩, if_pos h0, if_pos h1]
  ·
   rw [if_neg (fun h => h1 h.2), if_pos h0, if_neg h1]
 ·
  rw [if_neg (fun h => h0 h.1), if_neg h0]
theorem bitLenAux_isBits : ∀ (f x : Nat), x < 2 ^ f → IsBits (x : Int) (Lib.bitLenAux f x)
 | 0, x, h => by
  obtain rfl : x = 0 := by simpa using h
  exact isBits_zero
 | f + 1, x, h => by
  simp only [Lib.bitLenAux]
  split
  ·
   rename_i e
   subst e
   exact isBits_zero
  ·
   rename_i e
   have ih := bitLenAux_isBits f (x / 2) (by rw [Nat.pow_succ] at h; omega)
   have := IsBits.half (v := (x : Int)) (n := Lib.bitLenAux f (x / 2)) (by omega) (by
    have e2 : ((x : Int) / 2) = ((x / 2 : Nat) : Int) := by omega
    rw [e2]
    exact ih)
   have e3 : (((1 + Lib.bitLenAux f (x / 2) : Nat)) : Int) = ((Lib.bitLenAux f (x / 2) : Nat) : Int) + 1 := by omega
   rw [e3]
   exact this
theorem len64_some {x : Int} (h0 : 0 ≤ x) (h1 : x < 18446744073709551616) : bits_Len64.f x = some (bitsOf x) := by
 unfold bits_Len64.f
 rw [if_pos ⟨h0, by omega⟩]
 congr 1
 have := bitLenAux_isBits 64 x.toNat (by omega)
 rw [Int.toNat_of_nonneg h0] at this
 exact bitsOf_eq this
theorem bitsOf_top {l : List Int} (h : Dig 18446744073709551616 l) (hne : l ≠ []) (ht : l.getD (l.length - 1) 0 ≠ 0) : bitsOf (V 18446744073709551616 l) = 64 * (l.length - 1 : Nat) + bitsOf (l.getD (l.length - 1) 0) := by
 have g := h.getD B_pos (l.length - 1)
 have hp : 0 < bitsOf (l.getD (l.length - 1) 0) := bitsOf_pos (by omega)
 have := IsBits.last (B := 18446744073709551616) (s := 64) (by decide) h hne (bitsOf_spec g.1) (by omega)
 exact (bitsOf_eq this).symm
theorem bits_ev (a : List Int) (ha : Dig 18446744073709551616 a) (hl : a.length ≤ 35184372088832) : Ev (fun k => nat_Bits.f k a) (bitsOf (V 18446744073709551616 a)) := by
 unfold nat_Bits.f
 refine Ev.bind (size_ev a (by omega)) ?_
 have hs := szN_le a
 have hv := trim_val 18446744073709551616 a
 have hn := trim_nrm (B := 18446744073709551616) ha
 have ln : (trim a).length = szN a := by unfold trim; rw [List.length_take]; omega
 by_cases h0 : szN a = 0
 ·
  refine Ev.congr (fun k => if_pos (by omega)) ?_
  have : trim a = [] := List.length_eq_zero_iff.1 (by omega)
  rw [← hv, this]
  exact Ev.now _
 ·
  refine Ev.congr (fun k => if_neg (by omega)) ?_
  have e1 : wrap64 ((szN a : Int) - 1) = ((szN a - 1 : Nat) : Int) := by rw [w64 (by omega) (by omega)]; omega
  have ht : a.getD (szN a - 1) 0 ≠ 0 := (szN_top a).resolve_left h0
  have gt : (trim a).getD ((trim a).length - 1) 0 = a.getD (szN a - 1) 0 := by
   unfold trim
   rw [List.length_take, getD_take, Nat.min_eq_left hs, if_pos (by omega)]
  have bt := bitsOf_top hn.1 (by intro h; rw [h] at ln; simp at ln; omega) (by rw [gt]; exact ht)
  rw [gt, ln, hv] at bt
  have ga := ha.getD B_pos (szN a - 1)
  have b64 : bitsOf (a.getD (szN a - 1) 0) ≤ 64 := bitsOf_le ga.1 (n := 64) (by omega)
  have b0 := bitsOf_nonneg (a.getD (szN a - 1) 0)
  refine Ev.congr (f := fun _ => some (bitsOf (V 18446744073709551616 a))) (fun k => ?_) (Ev.now _)
  rw [e1, if_pos (by omega), if_pos (by omega), rd_nat, len64_some ga.1 ga.2]
  simp only [Option.bind_some]
  rw [w64 (x := 64 * ((szN a - 1 : Nat) : Int)) (by omega) (by omega), w64 (by omega) (by omega), bt]
end Go.Proofs.Ytkjhjlnjkohlbaa.PR
