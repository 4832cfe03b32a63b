/- Parts of a proof. -/
import Derived.Test.YtkjhjlnjkohlbaaZRatioTells36
import Derived.Test.YtkjhjlnjkohlbaaZRatioTells44
section
namespace Go.Proofs.Ytkjhjlnjkohlbaa.PR
open Go.RowKit Go.Proofs.YtkjhjlnjkohlbaaW.PrintWords Go.Proofs.YtkjhjlnjkohlbaaW.PrintLast Go.Proofs.Ytkjhjlnjkohlbaa.Num
set_option linter.unusedVariables false
set_option linter.unusedSimpArgs false
theorem w64 {x : Int} (h0 : -9223372036854775808 ≤ x) (h1 : x ≤ 9223372036854775807) : wrap64 x = x := by unfold wrap64; omega
theorem u64w {x : Int} (h0 : 0 ≤ x) (h1 : x < 18446744073709551616) : IntKind.u64.wrap x = x := by rw [IntKind.wrap_u64]; omega
theorem rd_nat (l : List Int) (n : Nat) : rd l (n : Int) = l.getD n 0 := by simp [rd]
theorem rd_of (l : List Int) {i : Int} {n : Nat} (h : i = (n : Int)) : rd l i = l.getD n 0 := by rw [h, rd_nat]
theorem one_lt_B : (1 : Int) < 18446744073709551616 := by decide
theorem B_pos : (0 : Int) < 18446744073709551616 := by decide
theorem dig_of_wf {l : List Int} (h : ∀ x ∈ l, (Lit.int .u64 x).wf = true) : Dig 18446744073709551616 l := by
 intro x hx
 have := h x hx
 simp [Lit.wf, IntKind.min, IntKind.max, IntKind.signed, IntKind.bits] at this
 omega
theorem size_loop (l : List Int) (hl : l.length ≤ 4611686018427387904) : ∀ n : Nat, n ≤ l.length → (∀ i, n ≤ i → l.getD i 0 = 0) → Ev (fun k => nat_size.l0 k l (n : Int)) (szN l : Int)
 | 0, _, hz => by
  have e : (0 : Nat) = szN l := szN_uniq l hz (.inl rfl)
  rw [← e]
  exact Ev.step (f := fun _ => some _) (fun k => by simp only [nat_size.l0]; rw [if_neg (by omega)]) (Ev.now _)
 | n + 1, hn, hz => by
  have ew : wrap64 (((n + 1 : Nat) : Int) - 1) = (n : Int) := by rw [w64 (by omega) (by omega)]; omega
  by_cases h0 : l.getD n 0 = 0
  ·
   refine Ev.step (f := fun k => nat_size.l0 k l (n : Int)) (fun k => ?_) (size_loop l hl n (by omega) (fun i hi => ?_))
   ·
    simp only [nat_size.l0]
    rw [if_pos (by omega), ew, if_pos (by omega), if_pos (by omega), rd_nat, if_pos h0]
   ·
    by_cases e : i = n
    ·
     rw [e]; exact h0
    ·
     exact hz i (by omega)
  ·
   have e : n + 1 = szN l := szN_uniq l hz (.inr (by simpa using h0))
   rw [← e]
   refine Ev.step (f := fun _ => some _) (fun k => ?_) (Ev.now _)
   simp only [nat_size.l0]
   rw [if_pos (by omega), ew, if_pos (by omega), if_pos (by omega), rd_nat, if_neg h0]
theorem size_ev (l : List Int) (hl : l.length ≤ 4611686018427387904) : Ev (fun k => nat_size.f k l) (szN l : Int) :=
 Ev.congr (fun k => rfl) (size_loop l hl l.length (Nat.le_refl _) (fun i hi => by rw [List.getD_eq_getElem?_getD, List.getElem?_eq_none hi]; rfl))
theorem cmpDown_val {B : Int} (hB : 0 < B) (a b : List Int) (ha : Dig B a) (hb : Dig B b) : ∀ N : Nat, cmpDown a b N = sgn (V B (a.take N) - V B (b.take N))
 | 0 => by simp [cmpDown, sgn, V]
 | N + 1 => by
  simp only [cmpDown]
  rw [rd_nat, rd_nat]
  by_cases h : a.getD N 0 = b.getD N 0
  ·
   rw [if_pos h, cmpDown_val hB a b ha hb N, V_take_succ, V_take_succ, h]
   congr 1
   omega
  ·
   rw [if_neg h]
   by_cases hlt : a.getD N 0 < b.getD N 0
   ·
    rw [if_pos hlt]
    have := lt_of_digit hB ha hb N hlt
    unfold sgn
    rw [if_pos (by omega)]
   ·
    rw [if_neg hlt]
    have := lt_of_digit hB hb ha N (by omega)
    unfold sgn
    rw [if_neg (by omega), if_neg (by omega)]
theorem sgn_neg_iff {x : Int} : sgn x < 0 ↔ x < 0 := by unfold sgn; split <;> (try split) <;> omega
theorem sgn_pos_iff {x : Int} : sgn x > 0 ↔ x > 0 := by unfold sgn; split <;> (try split) <;> omega
theorem cmp_ev (a b : List Int) (ha : Dig 18446744073709551616 a) (hb : Dig 18446744073709551616 b) (hla : a.length ≤ 4611686018427387904) (hlb : b.length ≤ 4611686018427387904) :
  Ev (fun k => nat_Cmp.f k a b) (sgn (V 18446744073709551616 a - V 18446744073709551616 b)) := by
 unfold nat_Cmp.f
 refine Ev.bind (size_ev a hla) (Ev.bind (size_ev b hlb) ?_)
 have h1 := szN_le a
 have h2 := szN_le b
 refine Ev.congr (fun k => if_pos ⟨by omega, by omega, by omega⟩) ?_
 have va := trim_val 18446744073709551616 a
 have vb := trim_val 18446744073709551616 b
 have na := trim_nrm (B := 18446744073709551616) ha
 have nb := trim_nrm (B := 18446744073709551616) hb
 have la : (trim a).length = szN a := by unfold trim; rw [List.length_take]; omega
 have lb : (trim b).length = szN b := by unfold trim; rw [List.length_take]; omega
 by_cases e : szN a = szN b
 ·
  refine Ev.congr (fun k => if_pos (by omega)) ?_
  rw [Int.toNat_natCast, cmpDown_val B_pos a b ha hb]
  have e1 : V 18446744073709551616 (a.take (szN a)) = V 18446744073709551616 a := va
  have e2 : V 18446744073709551616 (b.take (szN a)) = V 18446744073709551616 b := by rw [e]; exact vb
  rw [e1, e2]
  exact Ev.now _
 ·
  refine Ev.congr (fun k => if_neg (by omega)) ?_
  by_cases hlt : szN a < szN b
  ·
   refine Ev.congr (fun k => if_pos (by omega)) ?_
   have := lt_of_len one_lt_B na.1 nb (by omega)
   have e3 : sgn (V 18446744073709551616 a - V 18446744073709551616 b) = -1 := by unfold sgn; rw [if_pos (by omega)]
   rw [e3]
   exact Ev.now _
  ·
   refine Ev.congr (fun k => if_neg (by omega)) ?_
   have := lt_of_len one_lt_B nb.1 na (by omega)
   have e3 : sgn (V 18446744073709551616 a - V 18446744073709551616 b) = 1 := by unfold sgn; rw [if_neg (by omega), if_neg (by omega)]
   rw [e3]
   exact Ev.now _
theorem at_some (l : List Int) (i : Nat) : nat_at.f l (i : Int) = some (l.getD i 0) := by
 unfold nat_at.f
 by_cases h : i < l.length
 ·
  rw [if_pos (by omega), if_pos (by omega), rd_nat]
 ·
  rw [if_neg (by omega), List.getD_eq_getElem?_getD, List.getElem?_eq_none (by omega)]; rfl
theorem cut_ev (l : List Int) (hl : l.length ≤ 4611686018427387904) (hd : Dig 18446744073709551616 l) :
  Ev (fun k => (nat_size.f k l).bind fun t => if 0 ≤ t then (if t ≤ (l.length : Int) then some (l.take (t : Int).toNat) else none) else none) (dg 18446744073709551616 (V 18446744073709551616 l)) := by
 refine Ev.bind (size_ev l hl) ?_
 have h1 := szN_le l
 refine Ev.congr (fun k => (if_pos (by omega)).trans (if_pos (by omega))) ?_
 rw [Int.toNat_natCast, ← trim_dg one_lt_B hd]
 exact Ev.now _
theorem add_loop (a b : List Int) (ha : Dig 18446744073709551616 a) (hb : Dig 18446744073709551616 b) (M : Nat) (hM : M ≤ 35184372088832) (hv : Aside0 (V 18446744073709551616 a + V 18446744073709551616 b < 18446744073709551616 ^ M)) : ∀ (d j : Nat) (out : List Int) (c : Int), M = j + d → out.length = M → Dig 18446744073709551616 out → 0 ≤ c → c ≤ 1 →
  Aside0 (V 18446744073709551616 (out.take j) + c * 18446744073709551616 ^ j = V 18446744073709551616 (a.take j) + V 18446744073709551616 (b.take j)) →
  Ev (fun k => nat_Add.l0 k a b out c (M : Int) (j : Int)) (dg 18446744073709551616 (V 18446744073709551616 a + V 18446744073709551616 b))
 | 0, j, out, c, hj, hl, hd, h0, h1, hI => by
  obtain rfl : M = j := by omega
  replace hv := hv.out
  replace hI := hI.out
  have hf : V 18446744073709551616 out = V 18446744073709551616 a + V 18446744073709551616 b := by
   have e1 := V_take_all 18446744073709551616 out (n := M) (by omega)
   have hla : V 18446744073709551616 a = V 18446744073709551616 (a.take M) + 18446744073709551616 ^ M * V 18446744073709551616 (a.drop M) := by
    by_cases h : M ≤ a.length
    ·
     exact V_split _ a h
    ·
     rw [List.take_of_length_le (by omega), V_drop_all _ a (by omega)]; omega
   have hlb : V 18446744073709551616 b = V 18446744073709551616 (b.take M) + 18446744073709551616 ^ M * V 18446744073709551616 (b.drop M) := by
    by_cases h : M ≤ b.length
    ·
     exact V_split _ b h
    ·
     rw [List.take_of_length_le (by omega), V_drop_all _ b (by omega)]; omega
   have pa := V_nonneg B_pos (ha.drop M)
   have pb := V_nonneg B_pos (hb.drop M)
   have qa := V_nonneg B_pos (ha.take M)
   have qb := V_nonneg B_pos (hb.take M)
   have po := V_nonneg B_pos (hd.take M)
   have pM := pow_pos' B_pos M
   have za : V 18446744073709551616 (a.drop M) = 0 := by
    by_cases h : 0 < V 18446744073709551616 (a.drop M)
    ·
     have : 18446744073709551616 ^ M * 1 ≤ 18446744073709551616 ^ M * V 18446744073709551616 (a.drop M) := Int.mul_le_mul_of_nonneg_left (by omega) (by omega)
     have : 0 ≤ 18446744073709551616 ^ M * V 18446744073709551616 (b.drop M) := Int.mul_nonneg (by omega) pb
     omega
    ·
     omega
   have zb : V 18446744073709551616 (b.drop M) = 0 := by
    by_cases h : 0 < V 18446744073709551616 (b.drop M)
    ·
     have : 18446744073709551616 ^ M * 1 ≤ 18446744073709551616 ^ M * V 18446744073709551616 (b.drop M) := Int.mul_le_mul_of_nonneg_left (by omega) (by omega)
     have : 0 ≤ 18446744073709551616 ^ M * V 18446744073709551616 (a.drop M) := Int.mul_nonneg (by omega) pa
     omega
    ·
     omega
   rw [za] at hla
   rw [zb] at hlb
   have hc : c = 0 ∨ c = 1 := by omega
   rcases hc with rfl | rfl
   ·
    omega
   ·
    exfalso; omega
  refine Ev.step (f := fun k => (nat_size.f k out).bind fun t => if 0 ≤ t then (if t ≤ (out.length : Int) then some (out.take (t : Int).toNat) else none) else none) (fun k => ?_) ?_
  ·
   simp only [nat_Add.l0]; rw [if_neg (by omega)]
  ·
   have := cut_ev out (by omega) hd
   rw [hf] at this
   exact this
 | d + 1, j, out, c, hj, hl, hd, h0, h1, hI => by
  have ga := ha.getD B_pos j
  have gb := hb.getD B_pos j
  have ew : wrap64 ((j : Int) + 1) = ((j + 1 : Nat) : Int) := by rw [w64 (by omega) (by omega)]; omega
  have hs := Int.emod_add_mul_ediv (a.getD j 0 + b.getD j 0 + c) 18446744073709551616
  have hm0 := Int.emod_nonneg (a.getD j 0 + b.getD j 0 + c) (show (18446744073709551616 : Int) ≠ 0 by decide)
  have hm1 := Int.emod_lt_of_pos (a.getD j 0 + b.getD j 0 + c) B_pos
  have hf : bits_Add64.f (a.getD j 0) (b.getD j 0) c = some ((a.getD j 0 + b.getD j 0 + c) % 18446744073709551616, (a.getD j 0 + b.getD j 0 + c) / 18446744073709551616) := by
   unfold bits_Add64.f
   rw [if_pos ⟨ga.1, gb.1, h0, h1⟩]
  obtain ⟨m, hm⟩ : ∃ m, (a.getD j 0 + b.getD j 0 + c) % 18446744073709551616 = m := ⟨_, rfl⟩
  obtain ⟨q, hq⟩ : ∃ q, (a.getD j 0 + b.getD j 0 + c) / 18446744073709551616 = q := ⟨_, rfl⟩
  rw [hm, hq] at hf hs
  rw [hm] at hm0 hm1
  clear hm hq
  refine Ev.step (f := fun k => nat_Add.l0 k a b (out.set j m) q (M : Int) ((j + 1 : Nat) : Int)) (fun k => ?_)
   (add_loop a b ha hb M hM hv d (j + 1) _ _ (by omega) (by simpa using hl) (hd.set j hm0 hm1) (by omega) (by omega) ⟨?_⟩)
  ·
   simp only [nat_Add.l0]
   rw [if_pos (by omega), at_some, at_some]
   simp only [Option.bind_some]
   rw [hf]
   simp only [Option.bind_some]
   rw [if_pos (by omega), if_pos (by omega), ew, Int.toNat_natCast]
  ·
   have hI := hI.out
   rw [V_take_set_succ _ _ _ _ (by omega), V_take_succ, V_take_succ, Int.pow_succ]
   clear hv
   generalize a.getD j 0 = x at *
   generalize b.getD j 0 = y at *
   generalize (18446744073709551616 : Int) ^ j = p at *
   have : p * (m + 18446744073709551616 * q) = p * (x + y + c) := by rw [hs]
   grind
theorem add_ev (a b : List Int) (ha : Dig 18446744073709551616 a) (hb : Dig 18446744073709551616 b) (hla : a.length < 35184372088832) (hlb : b.length < 35184372088832) :
  Ev (fun k => nat_Add.f k a b) (dg 18446744073709551616 (V 18446744073709551616 a + V 18446744073709551616 b)) := by
 have main : ∀ M : Nat, a.length < M → b.length < M → M ≤ 35184372088832 → V 18446744073709551616 a + V 18446744073709551616 b < 18446744073709551616 ^ M := by
  intro M h1 h2 _
  have va := V_lt B_pos ha
  have vb := V_lt B_pos hb
  have pa := pow_le (B := 18446744073709551616) B_pos (m := a.length) (n := M - 1) (by omega)
  have pb := pow_le (B := 18446744073709551616) B_pos (m := b.length) (n := M - 1) (by omega)
  have := pow_succ_pred 18446744073709551616 (n := M) (by omega)
  have := pow_pos' B_pos (M - 1)
  omega
 unfold nat_Add.f
 by_cases h : a.length < b.length
 ·
  refine Ev.congr (fun k => if_pos (by omega)) ?_
  have ew : wrap64 ((b.length : Int) + 1) = ((b.length + 1 : Nat) : Int) := by rw [w64 (by omega) (by omega)]; omega
  refine Ev.congr (f := fun k => nat_Add.l0 k a b (List.replicate (b.length + 1) 0) 0 ((b.length + 1 : Nat) : Int) ((0 : Nat) : Int)) (fun k => ?_)
   (add_loop a b ha hb (b.length + 1) (by omega) ⟨main _ (by omega) (by omega) (by omega)⟩ (b.length + 1) 0 _ 0 (by omega) (by simp) (Dig.replicate B_pos _) (by omega) (by omega) ⟨by simp [V]⟩)
  rw [ew, if_pos (by omega), if_pos (by omega)]
  simp
 ·
  refine Ev.congr (fun k => if_neg (by omega)) ?_
  have ew : wrap64 ((a.length : Int) + 1) = ((a.length + 1 : Nat) : Int) := by rw [w64 (by omega) (by omega)]; omega
  refine Ev.congr (f := fun k => nat_Add.l0 k a b (List.replicate (a.length + 1) 0) 0 ((a.length + 1 : Nat) : Int) ((0 : Nat) : Int)) (fun k => ?_)
   (add_loop a b ha hb (a.length + 1) (by omega) ⟨main _ (by omega) (by omega) (by omega)⟩ (a.length + 1) 0 _ 0 (by omega) (by simp) (Dig.replicate B_pos _) (by omega) (by omega) ⟨by simp [V]⟩)
  rw [ew, if_pos (by omega), if_pos (by omega)]
  simp
end Go.Proofs.Ytkjhjlnjkohlbaa.PR
end
section
namespace Go.Proofs.Ytkjhjlnjkohlbaa.PR
open Go.RowKit Go.Proofs.YtkjhjlnjkohlbaaW.PrintWords Go.Proofs.YtkjhjlnjkohlbaaW.PrintLast Go.Proofs.Ytkjhjlnjkohlbaa.Num
set_option linter.unusedVariables false
set_option linter.unusedSimpArgs false
theorem sub_step {x y c : Int} (hx0 : 0 ≤ x) (hx1 : x < 18446744073709551616) (hy0 : 0 ≤ y) (hy1 : y < 18446744073709551616) (h0 : 0 ≤ c) (h1 : c ≤ 1) :
  ∃ m q, bits_Sub64.f x y c = some (m, q) ∧ 0 ≤ m ∧ m < 18446744073709551616 ∧ 0 ≤ q ∧ q ≤ 1 ∧ m - 18446744073709551616 * q = x - y - c := by
 unfold bits_Sub64.f
 rw [if_pos ⟨hx0, hx1, hy0, hy1, h0, h1⟩]
 refine ⟨_, _, rfl, Int.emod_nonneg _ (by decide), Int.emod_lt_of_pos _ B_pos, ?_⟩
 by_cases h : x < y + c
 ·
  rw [if_pos h]
  have e : (x - y - c) % 18446744073709551616 = x - y - c + 18446744073709551616 := by omega
  omega
 ·
  rw [if_neg h]
  have e : (x - y - c) % 18446744073709551616 = x - y - c := by omega
  omega
theorem sub_end {a b out : List Int} {c : Int} (ha : Dig 18446744073709551616 a) (hb : Dig 18446744073709551616 b) (hd : Dig 18446744073709551616 out) (hl : out.length = a.length) (hle : V 18446744073709551616 b ≤ V 18446744073709551616 a) (h0 : 0 ≤ c) (h1 : c ≤ 1)
  (hI : V 18446744073709551616 (out.take a.length) - c * 18446744073709551616 ^ a.length = V 18446744073709551616 (a.take a.length) - V 18446744073709551616 (b.take a.length)) : V 18446744073709551616 out = V 18446744073709551616 a - V 18446744073709551616 b := by
 rw [V_take_all 18446744073709551616 out (by omega), V_take_all 18446744073709551616 a (Nat.le_refl _)] at hI
 have hlb : V 18446744073709551616 b = V 18446744073709551616 (b.take a.length) + 18446744073709551616 ^ a.length * V 18446744073709551616 (b.drop a.length) := by
  by_cases h : a.length ≤ b.length
  ·
   exact V_split _ b h
  ·
   rw [List.take_of_length_le (by omega), V_drop_all _ b (by omega)]; omega
 have va := V_lt B_pos ha
 have pb := V_nonneg B_pos (hb.drop a.length)
 have qb := V_nonneg B_pos (hb.take a.length)
 have po := V_nonneg B_pos hd
 have vo := V_lt B_pos hd
 rw [hl] at vo
 have pM := pow_pos' B_pos a.length
 have zb : V 18446744073709551616 (b.drop a.length) = 0 := by
  by_cases h : 0 < V 18446744073709551616 (b.drop a.length)
  ·
   have : 18446744073709551616 ^ a.length * 1 ≤ 18446744073709551616 ^ a.length * V 18446744073709551616 (b.drop a.length) := Int.mul_le_mul_of_nonneg_left (by omega) (by omega)
   omega
  ·
   omega
 rw [zb] at hlb
 have hc : c = 0 ∨ c = 1 := by omega
 rcases hc with rfl | rfl
 ·
  omega
 ·
  exfalso; omega
theorem sub_loop0 (a b : List Int) (ha : Dig 18446744073709551616 a) (hb : Dig 18446744073709551616 b) (hla : a.length ≤ 35184372088832) (hle : V 18446744073709551616 b ≤ V 18446744073709551616 a) : ∀ (d j : Nat) (out : List Int) (c : Int), a.length = j + d → out.length = a.length → Dig 18446744073709551616 out → 0 ≤ c → c ≤ 1 →
  Aside0 (V 18446744073709551616 (out.take j) - c * 18446744073709551616 ^ j = V 18446744073709551616 (a.take j) - V 18446744073709551616 (b.take j)) →
  Ev (fun k => nat_Sub.l0 k a b out c (a.length : Int) (j : Int)) (dg 18446744073709551616 (V 18446744073709551616 a - V 18446744073709551616 b))
 | 0, j, out, c, hj, hl, hd, h0, h1, hI => by
  obtain rfl : j = a.length := by omega
  have hf := sub_end ha hb hd hl hle h0 h1 hI.out
  refine Ev.step (f := fun k => (nat_size.f k out).bind fun t => if 0 ≤ t then (if t ≤ (out.length : Int) then some (out.take (t : Int).toNat) else none) else none) (fun k => ?_) ?_
  ·
   simp only [nat_Sub.l0]; rw [if_neg (by omega)]
  ·
   have := cut_ev out (by omega) hd
   rw [hf] at this
   exact this
 | d + 1, j, out, c, hj, hl, hd, h0, h1, hI => by
  have ga := ha.getD B_pos j
  have gb := hb.getD B_pos j
  have ew : wrap64 ((j : Int) + 1) = ((j + 1 : Nat) : Int) := by rw [w64 (by omega) (by omega)]; omega
  obtain ⟨m, q, hf, hm0, hm1, hq0, hq1, hs⟩ := sub_step ga.1 ga.2 gb.1 gb.2 h0 h1
  refine Ev.step (f := fun k => nat_Sub.l0 k a b (out.set j m) q (a.length : Int) ((j + 1 : Nat) : Int)) (fun k => ?_)
   (sub_loop0 a b ha hb hla hle d (j + 1) _ _ (by omega) (by simpa using hl) (hd.set j hm0 hm1) hq0 hq1 ⟨?_⟩)
  ·
   simp only [nat_Sub.l0]
   rw [if_pos (by omega), if_pos (by omega), if_pos (by omega), at_some, rd_nat]
   simp only [Option.bind_some]
   rw [hf]
   simp only [Option.bind_some]
   rw [if_pos (by omega), ew, Int.toNat_natCast]
  ·
   have hI := hI.out
   rw [V_take_set_succ _ _ _ _ (by omega), V_take_succ, V_take_succ, Int.pow_succ]
   generalize a.getD j 0 = x at *
   generalize b.getD j 0 = y at *
   generalize (18446744073709551616 : Int) ^ j = p at *
   have : p * (m - 18446744073709551616 * q) = p * (x - y - c) := by rw [hs]
   grind
theorem sub_loop1 (a b : List Int) : ∀ (k : Nat) (out : List Int) (c L j : Int), nat_Sub.l1 k a b out c L j = nat_Sub.l0 k a b out c L j
 | 0, _, _, _, _ => rfl
 | k + 1, out, c, L, j => by
  simp only [nat_Sub.l1, nat_Sub.l0]
  simp only [sub_loop1 a b k]
theorem sub_ev (a b : List Int) (ha : Dig 18446744073709551616 a) (hb : Dig 18446744073709551616 b) (hla : a.length ≤ 35184372088832) (hlb : b.length ≤ 35184372088832) :
  Ev (fun k => nat_Sub.f k a b) (dg 18446744073709551616 ((V 18446744073709551616 a - V 18446744073709551616 b).natAbs : Int)) := by
 unfold nat_Sub.f
 refine Ev.bind (cmp_ev a b ha hb (by omega) (by omega)) ?_
 by_cases h : V 18446744073709551616 a < V 18446744073709551616 b
 ·
  refine Ev.congr (fun k => if_pos (sgn_neg_iff.2 (by omega))) ?_
  refine Ev.congr (f := fun k => nat_Sub.l0 k b a (List.replicate b.length 0) 0 (b.length : Int) ((0 : Nat) : Int)) (fun k => ?_) ?_
  ·
   rw [if_pos (by omega), Int.toNat_natCast, if_pos (by omega)]
   simp
  ·
   have := sub_loop0 b a hb ha hlb (by omega) b.length 0 (List.replicate b.length 0) 0 (by omega) (by simp) (Dig.replicate B_pos _) (by omega) (by omega) ⟨by simp [V]⟩
   rw [show ((V 18446744073709551616 a - V 18446744073709551616 b).natAbs : Int) = V 18446744073709551616 b - V 18446744073709551616 a by omega]
   exact this
 ·
  refine Ev.congr (fun k => if_neg (fun h' => h (by have := sgn_neg_iff.1 h'; omega))) ?_
  refine Ev.congr (f := fun k => nat_Sub.l0 k a b (List.replicate a.length 0) 0 (a.length : Int) ((0 : Nat) : Int)) (fun k => ?_) ?_
  ·
   rw [if_pos (by omega), Int.toNat_natCast, if_pos (by omega)]
   simp [sub_loop1]
  ·
   have := sub_loop0 a b ha hb hla (by omega) a.length 0 (List.replicate a.length 0) 0 (by omega) (by simp) (Dig.replicate B_pos _) (by omega) (by omega) ⟨by simp [V]⟩
   rw [show ((V 18446744073709551616 a - V 18446744073709551616 b).natAbs : Int) = V 18446744073709551616 a - V 18446744073709551616 b by omega]
   exact this
theorem norm_loop (l : List Int) (hl : l.length ≤ 17592186044416) (hd : Dig 18446744073709551616 l) : ∀ n : Nat, n ≤ l.length → (∀ i, n ≤ i → l.getD i 0 = 0) → Ev (fun k => nat_Norm.l0 k l (n : Int)) (dg 18446744073709551616 (V 18446744073709551616 l))
 | 0, _, hz => by
  have e : (0 : Nat) = szN l := szN_uniq l hz (.inl rfl)
  rw [← trim_dg one_lt_B hd]
  refine Ev.step (f := fun _ => some _) (fun k => ?_) (Ev.now _)
  simp only [nat_Norm.l0]
  rw [if_neg (by omega), if_pos (by omega), if_pos (by omega)]
  unfold slices_Clone_uint64_uint64.f
  rw [if_pos (by simp)]
  simp [trim, ← e]
 | n + 1, hn, hz => by
  have ew : wrap64 (((n + 1 : Nat) : Int) - 1) = (n : Int) := by rw [w64 (by omega) (by omega)]; omega
  by_cases h0 : l.getD n 0 = 0
  ·
   refine Ev.step (f := fun k => nat_Norm.l0 k l (n : Int)) (fun k => ?_) (norm_loop l hl hd n (by omega) (fun i hi => ?_))
   ·
    simp only [nat_Norm.l0]
    rw [if_pos (by omega), ew, if_pos (by omega), if_pos (by omega), rd_nat, if_pos h0]
   ·
    by_cases e : i = n
    ·
     rw [e]; exact h0
    ·
     exact hz i (by omega)
  ·
   have e : n + 1 = szN l := szN_uniq l hz (.inr (by simpa using h0))
   rw [← trim_dg one_lt_B hd]
   refine Ev.step (f := fun _ => some _) (fun k => ?_) (Ev.now _)
   simp only [nat_Norm.l0]
   rw [if_pos (by omega), ew, if_pos (by omega), if_pos (by omega), rd_nat, if_neg h0, if_pos (by omega), if_pos (by omega)]
   unfold slices_Clone_uint64_uint64.f
   rw [if_pos (by rw [List.length_take]; omega)]
   simp only [Option.bind_some, trim, ← e, Int.toNat_natCast]
theorem norm_ev (l : List Int) (hl : l.length ≤ 17592186044416) (hd : Dig 18446744073709551616 l) : Ev (fun k => nat_Norm.f k l) (dg 18446744073709551616 (V 18446744073709551616 l)) :=
 Ev.congr (fun k => rfl) (norm_loop l hl hd l.length (Nat.le_refl _) (fun i hi => by rw [List.getD_eq_getElem?_getD, List.getElem?_eq_none hi]; rfl))
theorem same_loop (a b : List Int) (hl : a.length = b.length) (hb : a.length ≤ 4611686018427387904) : ∀ (d j : Nat), a.length = j + d → Ev (fun k => vernierref01_Same.l0 k a b (j : Int)) (decide (a.drop j = b.drop j))
 | 0, j, hj => by
  refine Ev.step (f := fun _ => some _) (fun k => ?_) (Ev.now _)
  simp only [vernierref01_Same.l0]
  rw [if_neg (by omega), List.drop_of_length_le (by omega), List.drop_of_length_le (by omega)]
  simp
 | d + 1, j, hj => by
  have ew : wrap64 ((j : Int) + 1) = ((j + 1 : Nat) : Int) := by rw [w64 (by omega) (by omega)]; omega
  have ea : a.drop j = a.getD j 0 :: a.drop (j + 1) := by rw [List.drop_eq_getElem_cons (by omega), List.getD_eq_getElem?_getD, List.getElem?_eq_getElem (by omega)]; rfl
  have eb : b.drop j = b.getD j 0 :: b.drop (j + 1) := by rw [List.drop_eq_getElem_cons (by omega), List.getD_eq_getElem?_getD, List.getElem?_eq_getElem (by omega)]; rfl
  rw [ea, eb]
  by_cases h : a.getD j 0 = b.getD j 0
  ·
   have e : (a.getD j 0 :: a.drop (j + 1) = b.getD j 0 :: b.drop (j + 1)) ↔ (a.drop (j + 1) = b.drop (j + 1)) := by rw [h]; simp
   rw [decide_eq_decide.2 e]
   refine Ev.step (f := fun k => vernierref01_Same.l0 k a b ((j + 1 : Nat) : Int)) (fun k => ?_) (same_loop a b hl hb d (j + 1) (by omega))
   simp only [vernierref01_Same.l0]
   rw [if_pos (by omega), if_pos (by omega), if_pos (by omega), rd_nat, rd_nat, if_pos h, ew]
  ·
   have e : decide (a.getD j 0 :: a.drop (j + 1) = b.getD j 0 :: b.drop (j + 1)) = false := by
    apply decide_eq_false
    intro h2
    injection h2 with h3 _
    exact h h3
   rw [e]
   refine Ev.step (f := fun _ => some _) (fun k => ?_) (Ev.now _)
   simp only [vernierref01_Same.l0]
   rw [if_pos (by omega), if_pos (by omega), if_pos (by omega), rd_nat, rd_nat, if_neg h]
theorem same_ev (a b : List Int) (hb : a.length ≤ 4611686018427387904) : Ev (fun k => vernierref01_Same.f k a b) (decide (a = b)) := by
 unfold vernierref01_Same.f
 by_cases h : a.length = b.length
 ·
  refine Ev.congr (fun k => if_pos (by omega)) ?_
  exact same_loop a b h hb a.length 0 (by omega)
 ·
  refine Ev.congr (fun k => if_neg (by omega)) ?_
  have e : decide (a = b) = false := decide_eq_false (fun h2 => h (by rw [h2]))
  rw [e]
  exact Ev.now _
theorem same_true {a b : List Int} (h : a = b) (hb : a.length ≤ 4611686018427387904) : Ev (fun k => vernierref01_Same.f k a b) true := by
 have := same_ev a b hb
 rwa [decide_eq_true h] at this
end Go.Proofs.Ytkjhjlnjkohlbaa.PR
end
