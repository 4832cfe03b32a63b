/- What nat's functions compute: differences, copies without zeros on top; the law's own comparison of lists. -/
import Derived.Test.YtkjhjlnjkohlbaaZRatioBack43
namespace Go.Proofs.Ytkjhjlnjkohlbaa.PR
open Go.RowKit Go.Proofs.YtkjhjlnjkohlbaaW.PrintWords Go.Proofs.YtkjhjlnjkohlbaaW.PrintLast Go.Proofs.Ytkjhjlnjkohlbaa.Num
set_option linter.unusedVariables false
set_option linter.unusedSimpArgs false
theorem sub_step {x y c : Int} (hx0 : 0 ≤ x) (hx1 : x < 18446744073709551616) (hy0 : 0 ≤ y) (hy1 : y < 18446744073709551616) (h0 : 0 ≤ c) (h1 : c ≤ 1) :
  ∃ m q, bits_Sub64.f x y c = some (m, q) ∧ 0 ≤ m ∧ m < 18446744073709551616 ∧ 0 ≤ q ∧ q ≤ 1 ∧ m - 18446744073709551616 * q = x - y - c := by
 unfold bits_Sub64.f
 rw [if_pos ⟨hx0, hx1, hy0, hy1, h0, h1⟩]
 refine ⟨_, _, rfl, Int.emod_nonneg _ (by decide), Int.emod_lt_of_pos _ B_pos, ?_⟩
 by_cases h : x < y + c
 ·
  rw [if_pos h]
  have e : (x - y - c) % 18446744073709551616 = x - y - c + 18446744073709551616 := by omega
  omega
 ·
  rw [if_neg h]
  have e : (x - y - c) % 18446744073709551616 = x - y - c := by omega
  omega
theorem sub_end {a b out : List Int} {c : Int} (ha : Dig 18446744073709551616 a) (hb : Dig 18446744073709551616 b) (hd : Dig 18446744073709551616 out) (hl : out.length = a.length) (hle : V 18446744073709551616 b ≤ V 18446744073709551616 a) (h0 : 0 ≤ c) (h1 : c ≤ 1)
  (hI : V 18446744073709551616 (out.take a.length) - c * 18446744073709551616 ^ a.length = V 18446744073709551616 (a.take a.length) - V 18446744073709551616 (b.take a.length)) : V 18446744073709551616 out = V 18446744073709551616 a - V 18446744073709551616 b := by
 rw [V_take_all 18446744073709551616 out (by omega), V_take_all 18446744073709551616 a (Nat.le_refl _)] at hI
 have hlb : V 18446744073709551616 b = V 18446744073709551616 (b.take a.length) + 18446744073709551616 ^ a.length * V 18446744073709551616 (b.drop a.length) := by
  by_cases h : a.length ≤ b.length
  ·
   exact V_split _ b h
  ·
   rw [List.take_of_length_le (by omega), V_drop_all _ b (by omega)]; omega
 have va := V_lt B_pos ha
 have pb := V_nonneg B_pos (hb.drop a.length)
 have qb := V_nonneg B_pos (hb.take a.length)
 have po := V_nonneg B_pos hd
 have vo := V_lt B_pos hd
 rw [hl] at vo
 have pM := pow_pos' B_pos a.length
 have zb : V 18446744073709551616 (b.drop a.length) = 0 := by
  by_cases h : 0 < V 18446744073709551616 (b.drop a.length)
  ·
   have : 18446744073709551616 ^ a.length * 1 ≤ 18446744073709551616 ^ a.length * V 18446744073709551616 (b.drop a.length) := Int.mul_le_mul_of_nonneg_left (by omega) (by omega)
   omega
  ·
   omega
 rw [zb] at hlb
 have hc : c = 0 ∨ c = 1 := by omega
 rcases hc with rfl | rfl
 ·
  omega
 ·
  exfalso; omega
theorem sub_loop0 (a b : List Int) (ha : Dig 18446744073709551616 a) (hb : Dig 18446744073709551616 b) (hla : a.length ≤ 35184372088832) (hle : V 18446744073709551616 b ≤ V 18446744073709551616 a) : ∀ (d j : Nat) (out : List Int) (c : Int), a.length = j + d → out.length = a.length → Dig 18446744073709551616 out → 0 ≤ c → c ≤ 1 →
  Aside0 (V 18446744073709551616 (out.take j) - c * 18446744073709551616 ^ j = V 18446744073709551616 (a.take j) - V 18446744073709551616 (b.take j)) →
  Ev (fun k => nat_Sub.l0 k a b out c (a.length : Int) (j : Int)) (dg 18446744073709551616 (V 18446744073709551616 a - V 18446744073709551616 b))
 | 0, j, out, c, hj, hl, hd, h0, h1, hI => by
  obtain rfl : j = a.length := by omega
  have hf := sub_end ha hb hd hl hle h0 h1 hI.out
  refine Ev.step (f := fun k => (nat_size.f k out).bind fun t => if 0 ≤ t then (if t ≤ (out.length : Int) then some (out.take (t : Int).toNat) else none) else none) (fun k => ?_) ?_
  ·
   simp only [nat_Sub.l0]; rw [if_neg (by omega)]
  ·
   have := cut_ev out (by omega) hd
   rw [hf] at this
   exact this
 | d + 1, j, out, c, hj, hl, hd, h0, h1, hI => by
  have ga := ha.getD B_pos j
  have gb := hb.getD B_pos j
  have ew : wrap64 ((j : Int) + 1) = ((j + 1 : Nat) : Int) := by rw [w64 (by omega) (by omega)]; omega
  obtain ⟨m, q, hf, hm0, hm1, hq0, hq1, hs⟩ := sub_step ga.1 ga.2 gb.1 gb.2 h0 h1
  refine Ev.step (f := fun k => nat_Sub.l0 k a b (out.set j m) q (a.length : Int) ((j + 1 : Nat) : Int)) (fun k => ?_)
   (sub_loop0 a b ha hb hla hle d (j + 1) _ _ (by omega) (by simpa using hl) (hd.set j hm0 hm1) hq0 hq1 ⟨?_⟩)
  ·
   simp only [nat_Sub.l0]
   rw [if_pos (by omega), if_pos (by omega), if_pos (by omega), at_some, rd_nat]
   simp only [Option.bind_some]
   rw [hf]
   simp only [Option.bind_some]
   rw [if_pos (by omega), ew, Int.toNat_natCast]
  ·
   have hI := hI.out
   rw [V_take_set_succ _ _ _ _ (by omega), V_take_succ, V_take_succ, Int.pow_succ]
   generalize a.getD j 0 = x at *
   generalize b.getD j 0 = y at *
   generalize (18446744073709551616 : Int) ^ j = p at *
   have : p * (m - 18446744073709551616 * q) = p * (x - y - c) := by rw [hs]
   grind
theorem sub_loop1 (a b : List Int) : ∀ (k : Nat) (out : List Int) (c L j : Int), nat_Sub.l1 k a b out c L j = nat_Sub.l0 k a b out c L j
 | 0, _, _, _, _ => rfl
 | k + 1, out, c, L, j => by
  simp only [nat_Sub.l1, nat_Sub.l0]
  simp only [sub_loop1 a b k]
theorem sub_ev (a b : List Int) (ha : Dig 18446744073709551616 a) (hb : Dig 18446744073709551616 b) (hla : a.length ≤ 35184372088832) (hlb : b.length ≤ 35184372088832) :
  Ev (fun k => nat_Sub.f k a b) (dg 18446744073709551616 ((V 18446744073709551616 a - V 18446744073709551616 b).natAbs : Int)) := by
 unfold nat_Sub.f
 refine Ev.bind (cmp_ev a b ha hb (by omega) (by omega)) ?_
 by_cases h : V 18446744073709551616 a < V 18446744073709551616 b
 ·
  refine Ev.congr (fun k => if_pos (sgn_neg_iff.2 (by omega))) ?_
  refine Ev.congr (f := fun k => nat_Sub.l0 k b a (List.replicate b.length 0) 0 (b.length : Int) ((0 : Nat) : Int)) (fun k => ?_) ?_
  ·
   rw [if_pos (by omega), Int.toNat_natCast, if_pos (by omega)]
   simp
  ·
   have := sub_loop0 b a hb ha hlb (by omega) b.length 0 (List.replicate b.length 0) 0 (by omega) (by simp) (Dig.replicate B_pos _) (by omega) (by omega) ⟨by simp [V]⟩
   rw [show ((V 18446744073709551616 a - V 18446744073709551616 b).natAbs : Int) = V 18446744073709551616 b - V 18446744073709551616 a by omega]
   exact this
 ·
  refine Ev.congr (fun k => if_neg (fun h' => h (by have := sgn_neg_iff.1 h'; omega))) ?_
  refine Ev.congr (f := fun k => nat_Sub.l0 k a b (List.replicate a.length 0) 0 (a.length : Int) ((0 : Nat) : Int)) (fun k => ?_) ?_
  ·
   rw [if_pos (by omega), Int.toNat_natCast, if_pos (by omega)]
   simp [sub_loop1]
  ·
   have := sub_loop0 a b ha hb hla (by omega) a.length 0 (List.replicate a.length 0) 0 (by omega) (by simp) (Dig.replicate B_pos _) (by omega) (by omega) ⟨by simp [V]⟩
   rw [show ((V 18446744073709551616 a - V 18446744073709551616 b).natAbs : Int) = V 18446744073709551616 a - V 18446744073709551616 b by omega]
   exact this
theorem norm_loop (l : List Int) (hl : l.length ≤ 17592186044416) (hd : Dig 18446744073709551616 l) : ∀ n : Nat, n ≤ l.length → (∀ i, n ≤ i → l.getD i 0 = 0) → Ev (fun k => nat_Norm.l0 k l (n : Int)) (dg 18446744073709551616 (V 18446744073709551616 l))
 | 0, _, hz => by
  have e : (0 : Nat) = szN l := szN_uniq l hz (.inl rfl)
  rw [← trim_dg one_lt_B hd]
  refine Ev.step (f := fun _ => some _) (fun k => ?_) (Ev.now _)
  simp only [nat_Norm.l0]
  rw [if_neg (by omega), if_pos (by omega), if_pos (by omega)]
  unfold slices_Clone_uint64_uint64.f
  rw [if_pos (by simp)]
  simp [trim, ← e]
 | n + 1, hn, hz => by
  have ew : wrap64 (((n + 1 : Nat) : Int) - 1) = (n : Int) := by rw [w64 (by omega) (by omega)]; omega
  by_cases h0 : l.getD n 0 = 0
  ·
   refine Ev.step (f := fun k => nat_Norm.l0 k l (n : Int)) (fun k => ?_) (norm_loop l hl hd n (by omega) (fun i hi => ?_))
   ·
    simp only [nat_Norm.l0]
    rw [if_pos (by omega), ew, if_pos (by omega), if_pos (by omega), rd_nat, if_pos h0]
   ·
    by_cases e : i = n
    ·
     rw [e]; exact h0
    ·
     exact hz i (by omega)
  ·
   have e : n + 1 = szN l := szN_uniq l hz (.inr (by simpa using h0))
   rw [← trim_dg one_lt_B hd]
   refine Ev.step (f := fun _ => some _) (fun k => ?_) (Ev.now _)
   simp only [nat_Norm.l0]
   rw [if_pos (by omega), ew, if_pos (by omega), if_pos (by omega), rd_nat, if_neg h0, if_pos (by omega), if_pos (by omega)]
   unfold slices_Clone_uint64_uint64.f
   rw [if_pos (by rw [List.length_take]; omega)]
   simp only [Option.bind_some, trim, ← e, Int.toNat_natCast]
theorem norm_ev (l : List Int) (hl : l.length ≤ 17592186044416) (hd : Dig 18446744073709551616 l) : Ev (fun k => nat_Norm.f k l) (dg 18446744073709551616 (V 18446744073709551616 l)) :=
 Ev.congr (fun k => rfl) (norm_loop l hl hd l.length (Nat.le_refl _) (fun i hi => by rw [List.getD_eq_getElem?_getD, List.getElem?_eq_none hi]; rfl))
end Go.Proofs.Ytkjhjlnjkohlbaa.PR
