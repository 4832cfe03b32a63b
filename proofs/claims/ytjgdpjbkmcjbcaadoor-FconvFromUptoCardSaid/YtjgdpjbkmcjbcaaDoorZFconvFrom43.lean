/- Parts of a proof. -/
import Derived.Test.YtjgdpjbkmcjbcaaDoorZFconvFrom42
import Derived.Lib.Mul64
import Derived.Laws.Bits64b
import Derived.Lib.Hide
import Derived.WalkSmall
import Derived.Test.YtjgdpjbkmcjbcaaDoorZFconvFrom33
section
namespace Go.Proofs.YtjgdpjbkmcjbcaaDoor.PG
open Go.RowKit Go.Proofs.YtjgdpjbkmcjbcaaDoorW.PrintWords Go.Proofs.YtjgdpjbkmcjbcaaDoorW.PrintLast Go.Proofs.YtjgdpjbkmcjbcaaDoor.Num
set_option linter.unusedVariables false
set_option linter.unusedSimpArgs false
theorem w64 {x : Int} (h0 : -9223372036854775808 ≤ x) (h1 : x ≤ 9223372036854775807) : wrap64 x = x := by unfold wrap64; omega
theorem u64w {x : Int} (h0 : 0 ≤ x) (h1 : x < 18446744073709551616) : IntKind.u64.wrap x = x := by rw [IntKind.wrap_u64]; omega
theorem rd_nat (l : List Int) (n : Nat) : rd l (n : Int) = l.getD n 0 := by simp [rd]
theorem one_lt_B : (1 : Int) < 18446744073709551616 := by decide
theorem B_pos : (0 : Int) < 18446744073709551616 := by decide
theorem dig_of_wf {l : List Int} (h : ∀ x ∈ l, (Lit.int .u64 x).wf = true) : Dig 18446744073709551616 l := by
 intro x hx
 have := h x hx
 simp [Lit.wf, IntKind.min, IntKind.max, IntKind.signed, IntKind.bits] at this
 omega
theorem size_loop (l : List Int) (hl : l.length ≤ 4611686018427387904) : ∀ n : Nat, n ≤ l.length → (∀ i, n ≤ i → l.getD i 0 = 0) → Ev (fun k => nat_size.l0 k l (n : Int)) (szN l : Int)
 | 0, _, hz => by
  have e : (0 : Nat) = szN l := szN_uniq l hz (.inl rfl)
  rw [← e]
  exact Ev.step (f := fun _ => some _) (fun k => by simp only [nat_size.l0]; rw [if_neg (by omega)]) (Ev.now _)
 | n + 1, hn, hz => by
  have ew : wrap64 (((n + 1 : Nat) : Int) - 1) = (n : Int) := by rw [w64 (by omega) (by omega)]; omega
  by_cases h0 : l.getD n 0 = 0
  ·
   refine Ev.step (f := fun k => nat_size.l0 k l (n : Int)) (fun k => ?_) (size_loop l hl n (by omega) (fun i hi => ?_))
   ·
    simp only [nat_size.l0]
    rw [if_pos (by omega), ew, if_pos (by omega), if_pos (by omega), rd_nat, if_pos h0]
   ·
    by_cases e : i = n
    ·
     rw [e]; exact h0
    ·
     exact hz i (by omega)
  ·
   have e : n + 1 = szN l := szN_uniq l hz (.inr (by simpa using h0))
   rw [← e]
   refine Ev.step (f := fun _ => some _) (fun k => ?_) (Ev.now _)
   simp only [nat_size.l0]
   rw [if_pos (by omega), ew, if_pos (by omega), if_pos (by omega), rd_nat, if_neg h0]
theorem size_ev (l : List Int) (hl : l.length ≤ 4611686018427387904) : Ev (fun k => nat_size.f k l) (szN l : Int) :=
 Ev.congr (fun k => rfl) (size_loop l hl l.length (Nat.le_refl _) (fun i hi => by rw [List.getD_eq_getElem?_getD, List.getElem?_eq_none hi]; rfl))
theorem cmpDown_val {B : Int} (hB : 0 < B) (a b : List Int) (ha : Dig B a) (hb : Dig B b) : ∀ N : Nat, cmpDown a b N = sgn (V B (a.take N) - V B (b.take N))
 | 0 => by simp [cmpDown, sgn, V]
 | N + 1 => by
  simp only [cmpDown]
  rw [rd_nat, rd_nat]
  by_cases h : a.getD N 0 = b.getD N 0
  ·
   rw [if_pos h, cmpDown_val hB a b ha hb N, V_take_succ, V_take_succ, h]
   congr 1
   omega
  ·
   rw [if_neg h]
   by_cases hlt : a.getD N 0 < b.getD N 0
   ·
    rw [if_pos hlt]
    have := lt_of_digit hB ha hb N hlt
    unfold sgn
    rw [if_pos (by omega)]
   ·
    rw [if_neg hlt]
    have := lt_of_digit hB hb ha N (by omega)
    unfold sgn
    rw [if_neg (by omega), if_neg (by omega)]
theorem sgn_neg_iff {x : Int} : sgn x < 0 ↔ x < 0 := by unfold sgn; split <;> (try split) <;> omega
theorem sgn_pos_iff {x : Int} : sgn x > 0 ↔ x > 0 := by unfold sgn; split <;> (try split) <;> omega
theorem sgn_zero_iff {x : Int} : sgn x = 0 ↔ x = 0 := by unfold sgn; split <;> (try split) <;> omega
theorem cmp_ev (a b : List Int) (ha : Dig 18446744073709551616 a) (hb : Dig 18446744073709551616 b) (hla : a.length ≤ 4611686018427387904) (hlb : b.length ≤ 4611686018427387904) :
  Ev (fun k => nat_Cmp.f k a b) (sgn (V 18446744073709551616 a - V 18446744073709551616 b)) := by
 unfold nat_Cmp.f
 refine Ev.bind (size_ev a hla) (Ev.bind (size_ev b hlb) ?_)
 have h1 := szN_le a
 have h2 := szN_le b
 refine Ev.congr (fun k => if_pos ⟨by omega, by omega, by omega⟩) ?_
 have va := trim_val 18446744073709551616 a
 have vb := trim_val 18446744073709551616 b
 have na := trim_nrm (B := 18446744073709551616) ha
 have nb := trim_nrm (B := 18446744073709551616) hb
 have la : (trim a).length = szN a := by unfold trim; rw [List.length_take]; omega
 have lb : (trim b).length = szN b := by unfold trim; rw [List.length_take]; omega
 by_cases e : szN a = szN b
 ·
  refine Ev.congr (fun k => if_pos (by omega)) ?_
  rw [Int.toNat_natCast, cmpDown_val B_pos a b ha hb]
  have e1 : V 18446744073709551616 (a.take (szN a)) = V 18446744073709551616 a := va
  have e2 : V 18446744073709551616 (b.take (szN a)) = V 18446744073709551616 b := by rw [e]; exact vb
  rw [e1, e2]
  exact Ev.now _
 ·
  refine Ev.congr (fun k => if_neg (by omega)) ?_
  by_cases hlt : szN a < szN b
  ·
   refine Ev.congr (fun k => if_pos (by omega)) ?_
   have := lt_of_len one_lt_B na.1 nb (by omega)
   have e3 : sgn (V 18446744073709551616 a - V 18446744073709551616 b) = -1 := by unfold sgn; rw [if_pos (by omega)]
   rw [e3]
   exact Ev.now _
  ·
   refine Ev.congr (fun k => if_neg (by omega)) ?_
   have := lt_of_len one_lt_B nb.1 na (by omega)
   have e3 : sgn (V 18446744073709551616 a - V 18446744073709551616 b) = 1 := by unfold sgn; rw [if_neg (by omega), if_neg (by omega)]
   rw [e3]
   exact Ev.now _
theorem at_some (l : List Int) (i : Nat) : nat_at.f l (i : Int) = some (l.getD i 0) := by
 unfold nat_at.f
 by_cases h : i < l.length
 ·
  rw [if_pos (by omega), if_pos (by omega), rd_nat]
 ·
  rw [if_neg (by omega), List.getD_eq_getElem?_getD, List.getElem?_eq_none (by omega)]; rfl
theorem cut_ev (l : List Int) (hl : l.length ≤ 4611686018427387904) (hd : Dig 18446744073709551616 l) :
  Ev (fun k => (nat_size.f k l).bind fun t => if 0 ≤ t then (if t ≤ (l.length : Int) then some (l.take (t : Int).toNat) else none) else none) (dg 18446744073709551616 (V 18446744073709551616 l)) := by
 refine Ev.bind (size_ev l hl) ?_
 have h1 := szN_le l
 refine Ev.congr (fun k => (if_pos (by omega)).trans (if_pos (by omega))) ?_
 rw [Int.toNat_natCast, ← trim_dg one_lt_B hd]
 exact Ev.now _
theorem add_loop (a b : List Int) (ha : Dig 18446744073709551616 a) (hb : Dig 18446744073709551616 b) (M : Nat) (hM : M ≤ 35184372088832) (hv : Aside0 (V 18446744073709551616 a + V 18446744073709551616 b < 18446744073709551616 ^ M)) : ∀ (d j : Nat) (out : List Int) (c : Int), M = j + d → out.length = M → Dig 18446744073709551616 out → 0 ≤ c → c ≤ 1 →
  Aside0 (V 18446744073709551616 (out.take j) + c * 18446744073709551616 ^ j = V 18446744073709551616 (a.take j) + V 18446744073709551616 (b.take j)) →
  Ev (fun k => nat_Add.l0 k a b out c (M : Int) (j : Int)) (dg 18446744073709551616 (V 18446744073709551616 a + V 18446744073709551616 b))
 | 0, j, out, c, hj, hl, hd, h0, h1, hI => by
  obtain rfl : M = j := by omega
  replace hv := hv.out
  replace hI := hI.out
  have hf : V 18446744073709551616 out = V 18446744073709551616 a + V 18446744073709551616 b := by
   have e1 := V_take_all 18446744073709551616 out (n := M) (by omega)
   have hla : V 18446744073709551616 a = V 18446744073709551616 (a.take M) + 18446744073709551616 ^ M * V 18446744073709551616 (a.drop M) := by
    by_cases h : M ≤ a.length
    ·
     exact V_split _ a h
    ·
     rw [List.take_of_length_le (by omega), V_drop_all _ a (by omega)]; omega
   have hlb : V 18446744073709551616 b = V 18446744073709551616 (b.take M) + 18446744073709551616 ^ M * V 18446744073709551616 (b.drop M) := by
    by_cases h : M ≤ b.length
    ·
     exact V_split _ b h
    ·
     rw [List.take_of_length_le (by omega), V_drop_all _ b (by omega)]; omega
   have pa := V_nonneg B_pos (ha.drop M)
   have pb := V_nonneg B_pos (hb.drop M)
   have qa := V_nonneg B_pos (ha.take M)
   have qb := V_nonneg B_pos (hb.take M)
   have po := V_nonneg B_pos (hd.take M)
   have pM := pow_pos' B_pos M
   have za : V 18446744073709551616 (a.drop M) = 0 := by
    by_cases h : 0 < V 18446744073709551616 (a.drop M)
    ·
     have : 18446744073709551616 ^ M * 1 ≤ 18446744073709551616 ^ M * V 18446744073709551616 (a.drop M) := Int.mul_le_mul_of_nonneg_left (by omega) (by omega)
     have : 0 ≤ 18446744073709551616 ^ M * V 18446744073709551616 (b.drop M) := Int.mul_nonneg (by omega) pb
     omega
    ·
     omega
   have zb : V 18446744073709551616 (b.drop M) = 0 := by
    by_cases h : 0 < V 18446744073709551616 (b.drop M)
    ·
     have : 18446744073709551616 ^ M * 1 ≤ 18446744073709551616 ^ M * V 18446744073709551616 (b.drop M) := Int.mul_le_mul_of_nonneg_left (by omega) (by omega)
     have : 0 ≤ 18446744073709551616 ^ M * V 18446744073709551616 (a.drop M) := Int.mul_nonneg (by omega) pa
     omega
    ·
     omega
   rw [za] at hla
   rw [zb] at hlb
   have hc : c = 0 ∨ c = 1 := by omega
   rcases hc with rfl | rfl
   ·
    omega
   ·
    exfalso; omega
  refine Ev.step (f := fun k => (nat_size.f k out).bind fun t => if 0 ≤ t then (if t ≤ (out.length : Int) then some (out.take (t : Int).toNat) else none) else none) (fun k => ?_) ?_
  ·
   simp only [nat_Add.l0]; rw [if_neg (by omega)]
  ·
   have := cut_ev out (by omega) hd
   rw [hf] at this
   exact this
 | d + 1, j, out, c, hj, hl, hd, h0, h1, hI => by
  have ga := ha.getD B_pos j
  have gb := hb.getD B_pos j
  have ew : wrap64 ((j : Int) + 1) = ((j + 1 : Nat) : Int) := by rw [w64 (by omega) (by omega)]; omega
  have hs := Int.emod_add_mul_ediv (a.getD j 0 + b.getD j 0 + c) 18446744073709551616
  have hm0 := Int.emod_nonneg (a.getD j 0 + b.getD j 0 + c) (show (18446744073709551616 : Int) ≠ 0 by decide)
  have hm1 := Int.emod_lt_of_pos (a.getD j 0 + b.getD j 0 + c) B_pos
  have hf : bits_Add64.f (a.getD j 0) (b.getD j 0) c = some ((a.getD j 0 + b.getD j 0 + c) % 18446744073709551616, (a.getD j 0 + b.getD j 0 + c) / 18446744073709551616) := by
   unfold bits_Add64.f
   rw [if_pos ⟨ga.1, gb.1, h0, h1⟩]
  obtain ⟨m, hm⟩ : ∃ m, (a.getD j 0 + b.getD j 0 + c) % 18446744073709551616 = m := ⟨_, rfl⟩
  obtain ⟨q, hq⟩ : ∃ q, (a.getD j 0 + b.getD j 0 + c) / 18446744073709551616 = q := ⟨_, rfl⟩
  rw [hm, hq] at hf hs
  rw [hm] at hm0 hm1
  clear hm hq
  refine Ev.step (f := fun k => nat_Add.l0 k a b (out.set j m) q (M : Int) ((j + 1 : Nat) : Int)) (fun k => ?_)
   (add_loop a b ha hb M hM hv d (j + 1) _ _ (by omega) (by simpa using hl) (hd.set j hm0 hm1) (by omega) (by omega) ⟨?_⟩)
  ·
   simp only [nat_Add.l0]
   rw [if_pos (by omega), at_some, at_some]
   simp only [Option.bind_some]
   rw [hf]
   simp only [Option.bind_some]
   rw [if_pos (by omega), if_pos (by omega), ew, Int.toNat_natCast]
  ·
   have hI := hI.out
   rw [V_take_set_succ _ _ _ _ (by omega), V_take_succ, V_take_succ, Int.pow_succ]
   clear hv
   generalize a.getD j 0 = x at *
   generalize b.getD j 0 = y at *
   generalize (18446744073709551616 : Int) ^ j = p at *
   have : p * (m + 18446744073709551616 * q) = p * (x + y + c) := by rw [hs]
   grind
theorem add_ev (a b : List Int) (ha : Dig 18446744073709551616 a) (hb : Dig 18446744073709551616 b) (hla : a.length < 35184372088832) (hlb : b.length < 35184372088832) :
  Ev (fun k => nat_Add.f k a b) (dg 18446744073709551616 (V 18446744073709551616 a + V 18446744073709551616 b)) := by
 have main : ∀ M : Nat, a.length < M → b.length < M → M ≤ 35184372088832 → V 18446744073709551616 a + V 18446744073709551616 b < 18446744073709551616 ^ M := by
  intro M h1 h2 _
  have va := V_lt B_pos ha
  have vb := V_lt B_pos hb
  have pa := pow_le (B := 18446744073709551616) B_pos (m := a.length) (n := M - 1) (by omega)
  have pb := pow_le (B := 18446744073709551616) B_pos (m := b.length) (n := M - 1) (by omega)
  have := pow_succ_pred 18446744073709551616 (n := M) (by omega)
  have := pow_pos' B_pos (M - 1)
  omega
 unfold nat_Add.f
 by_cases h : a.length < b.length
 ·
  refine Ev.congr (fun k => if_pos (by omega)) ?_
  have ew : wrap64 ((b.length : Int) + 1) = ((b.length + 1 : Nat) : Int) := by rw [w64 (by omega) (by omega)]; omega
  refine Ev.congr (f := fun k => nat_Add.l0 k a b (List.replicate (b.length + 1) 0) 0 ((b.length + 1 : Nat) : Int) ((0 : Nat) : Int)) (fun k => ?_)
   (add_loop a b ha hb (b.length + 1) (by omega) ⟨main _ (by omega) (by omega) (by omega)⟩ (b.length + 1) 0 _ 0 (by omega) (by simp) (Dig.replicate B_pos _) (by omega) (by omega) ⟨by simp [V]⟩)
  rw [ew, if_pos (by omega), if_pos (by omega)]
  simp
 ·
  refine Ev.congr (fun k => if_neg (by omega)) ?_
  have ew : wrap64 ((a.length : Int) + 1) = ((a.length + 1 : Nat) : Int) := by rw [w64 (by omega) (by omega)]; omega
  refine Ev.congr (f := fun k => nat_Add.l0 k a b (List.replicate (a.length + 1) 0) 0 ((a.length + 1 : Nat) : Int) ((0 : Nat) : Int)) (fun k => ?_)
   (add_loop a b ha hb (a.length + 1) (by omega) ⟨main _ (by omega) (by omega) (by omega)⟩ (a.length + 1) 0 _ 0 (by omega) (by simp) (Dig.replicate B_pos _) (by omega) (by omega) ⟨by simp [V]⟩)
  rw [ew, if_pos (by omega), if_pos (by omega)]
  simp
end Go.Proofs.YtjgdpjbkmcjbcaaDoor.PG
end
section
namespace Go.Proofs.YtjgdpjbkmcjbcaaDoor.PG
open Go.RowKit Go.Proofs.YtjgdpjbkmcjbcaaDoorW.PrintWords Go.Proofs.YtjgdpjbkmcjbcaaDoorW.PrintLast Go.Proofs.YtjgdpjbkmcjbcaaDoor.Num
set_option linter.unusedVariables false
set_option linter.unusedSimpArgs false
theorem sub_step {x y c : Int} (hx0 : 0 ≤ x) (hx1 : x < 18446744073709551616) (hy0 : 0 ≤ y) (hy1 : y < 18446744073709551616) (h0 : 0 ≤ c) (h1 : c ≤ 1) :
  ∃ m q, bits_Sub64.f x y c = some (m, q) ∧ 0 ≤ m ∧ m < 18446744073709551616 ∧ 0 ≤ q ∧ q ≤ 1 ∧ m - 18446744073709551616 * q = x - y - c := by
 unfold bits_Sub64.f
 rw [if_pos ⟨hx0, hx1, hy0, hy1, h0, h1⟩]
 refine ⟨_, _, rfl, Int.emod_nonneg _ (by decide), Int.emod_lt_of_pos _ B_pos, ?_⟩
 by_cases h : x < y + c
 ·
  rw [if_pos h]
  have e : (x - y - c) % 18446744073709551616 = x - y - c + 18446744073709551616 := by omega
  omega
 ·
  rw [if_neg h]
  have e : (x - y - c) % 18446744073709551616 = x - y - c := by omega
  omega
theorem sub_end {a b out : List Int} {c : Int} (ha : Dig 18446744073709551616 a) (hb : Dig 18446744073709551616 b) (hd : Dig 18446744073709551616 out) (hl : out.length = a.length) (hle : V 18446744073709551616 b ≤ V 18446744073709551616 a) (h0 : 0 ≤ c) (h1 : c ≤ 1)
  (hI : V 18446744073709551616 (out.take a.length) - c * 18446744073709551616 ^ a.length = V 18446744073709551616 (a.take a.length) - V 18446744073709551616 (b.take a.length)) : V 18446744073709551616 out = V 18446744073709551616 a - V 18446744073709551616 b := by
 rw [V_take_all 18446744073709551616 out (by omega), V_take_all 18446744073709551616 a (Nat.le_refl _)] at hI
 have hlb : V 18446744073709551616 b = V 18446744073709551616 (b.take a.length) + 18446744073709551616 ^ a.length * V 18446744073709551616 (b.drop a.length) := by
  by_cases h : a.length ≤ b.length
  ·
   exact V_split _ b h
  ·
   rw [List.take_of_length_le (by omega), V_drop_all _ b (by omega)]; omega
 have va := V_lt B_pos ha
 have pb := V_nonneg B_pos (hb.drop a.length)
 have qb := V_nonneg B_pos (hb.take a.length)
 have po := V_nonneg B_pos hd
 have vo := V_lt B_pos hd
 rw [hl] at vo
 have pM := pow_pos' B_pos a.length
 have zb : V 18446744073709551616 (b.drop a.length) = 0 := by
  by_cases h : 0 < V 18446744073709551616 (b.drop a.length)
  ·
   have : 18446744073709551616 ^ a.length * 1 ≤ 18446744073709551616 ^ a.length * V 18446744073709551616 (b.drop a.length) := Int.mul_le_mul_of_nonneg_left (by omega) (by omega)
   omega
  ·
   omega
 rw [zb] at hlb
 have hc : c = 0 ∨ c = 1 := by omega
 rcases hc with rfl | rfl
 ·
  omega
 ·
  exfalso; omega
theorem sub_loop0 (a b : List Int) (ha : Dig 18446744073709551616 a) (hb : Dig 18446744073709551616 b) (hla : a.length ≤ 35184372088832) (hle : V 18446744073709551616 b ≤ V 18446744073709551616 a) : ∀ (d j : Nat) (out : List Int) (c : Int), a.length = j + d → out.length = a.length → Dig 18446744073709551616 out → 0 ≤ c → c ≤ 1 →
  Aside0 (V 18446744073709551616 (out.take j) - c * 18446744073709551616 ^ j = V 18446744073709551616 (a.take j) - V 18446744073709551616 (b.take j)) →
  Ev (fun k => nat_Sub.l0 k a b out c (a.length : Int) (j : Int)) (dg 18446744073709551616 (V 18446744073709551616 a - V 18446744073709551616 b))
 | 0, j, out, c, hj, hl, hd, h0, h1, hI => by
  obtain rfl : j = a.length := by omega
  have hf := sub_end ha hb hd hl hle h0 h1 hI.out
  refine Ev.step (f := fun k => (nat_size.f k out).bind fun t => if 0 ≤ t then (if t ≤ (out.length : Int) then some (out.take (t : Int).toNat) else none) else none) (fun k => ?_) ?_
  ·
   simp only [nat_Sub.l0]; rw [if_neg (by omega)]
  ·
   have := cut_ev out (by omega) hd
   rw [hf] at this
   exact this
 | d + 1, j, out, c, hj, hl, hd, h0, h1, hI => by
  have ga := ha.getD B_pos j
  have gb := hb.getD B_pos j
  have ew : wrap64 ((j : Int) + 1) = ((j + 1 : Nat) : Int) := by rw [w64 (by omega) (by omega)]; omega
  obtain ⟨m, q, hf, hm0, hm1, hq0, hq1, hs⟩ := sub_step ga.1 ga.2 gb.1 gb.2 h0 h1
  refine Ev.step (f := fun k => nat_Sub.l0 k a b (out.set j m) q (a.length : Int) ((j + 1 : Nat) : Int)) (fun k => ?_)
   (sub_loop0 a b ha hb hla hle d (j + 1) _ _ (by omega) (by simpa using hl) (hd.set j hm0 hm1) hq0 hq1 ⟨?_⟩)
  ·
   simp only [nat_Sub.l0]
   rw [if_pos (by omega), if_pos (by omega), if_pos (by omega), at_some, rd_nat]
   simp only [Option.bind_some]
   rw [hf]
   simp only [Option.bind_some]
   rw [if_pos (by omega), ew, Int.toNat_natCast]
  ·
   have hI := hI.out
   rw [V_take_set_succ _ _ _ _ (by omega), V_take_succ, V_take_succ, Int.pow_succ]
   generalize a.getD j 0 = x at *
   generalize b.getD j 0 = y at *
   generalize (18446744073709551616 : Int) ^ j = p at *
   have : p * (m - 18446744073709551616 * q) = p * (x - y - c) := by rw [hs]
   grind
theorem sub_loop1 (a b : List Int) : ∀ (k : Nat) (out : List Int) (c L j : Int), nat_Sub.l1 k a b out c L j = nat_Sub.l0 k a b out c L j
 | 0, _, _, _, _ => rfl
 | k + 1, out, c, L, j => by
  simp only [nat_Sub.l1, nat_Sub.l0]
  simp only [sub_loop1 a b k]
theorem sub_ev (a b : List Int) (ha : Dig 18446744073709551616 a) (hb : Dig 18446744073709551616 b) (hla : a.length ≤ 35184372088832) (hlb : b.length ≤ 35184372088832) :
  Ev (fun k => nat_Sub.f k a b) (dg 18446744073709551616 ((V 18446744073709551616 a - V 18446744073709551616 b).natAbs : Int)) := by
 unfold nat_Sub.f
 refine Ev.bind (cmp_ev a b ha hb (by omega) (by omega)) ?_
 by_cases h : V 18446744073709551616 a < V 18446744073709551616 b
 ·
  refine Ev.congr (fun k => if_pos (sgn_neg_iff.2 (by omega))) ?_
  refine Ev.congr (f := fun k => nat_Sub.l0 k b a (List.replicate b.length 0) 0 (b.length : Int) ((0 : Nat) : Int)) (fun k => ?_) ?_
  ·
   rw [if_pos (by omega), Int.toNat_natCast, if_pos (by omega)]
   simp
  ·
   have := sub_loop0 b a hb ha hlb (by omega) b.length 0 (List.replicate b.length 0) 0 (by omega) (by simp) (Dig.replicate B_pos _) (by omega) (by omega) ⟨by simp [V]⟩
   rw [show ((V 18446744073709551616 a - V 18446744073709551616 b).natAbs : Int) = V 18446744073709551616 b - V 18446744073709551616 a by omega]
   exact this
 ·
  refine Ev.congr (fun k => if_neg (fun h' => h (by have := sgn_neg_iff.1 h'; omega))) ?_
  refine Ev.congr (f := fun k => nat_Sub.l0 k a b (List.replicate a.length 0) 0 (a.length : Int) ((0 : Nat) : Int)) (fun k => ?_) ?_
  ·
   rw [if_pos (by omega), Int.toNat_natCast, if_pos (by omega)]
   simp [sub_loop1]
  ·
   have := sub_loop0 a b ha hb hla (by omega) a.length 0 (List.replicate a.length 0) 0 (by omega) (by simp) (Dig.replicate B_pos _) (by omega) (by omega) ⟨by simp [V]⟩
   rw [show ((V 18446744073709551616 a - V 18446744073709551616 b).natAbs : Int) = V 18446744073709551616 a - V 18446744073709551616 b by omega]
   exact this
theorem norm_loop (l : List Int) (hl : l.length ≤ 17592186044416) (hd : Dig 18446744073709551616 l) : ∀ n : Nat, n ≤ l.length → (∀ i, n ≤ i → l.getD i 0 = 0) → Ev (fun k => nat_Norm.l0 k l (n : Int)) (dg 18446744073709551616 (V 18446744073709551616 l))
 | 0, _, hz => by
  have e : (0 : Nat) = szN l := szN_uniq l hz (.inl rfl)
  rw [← trim_dg one_lt_B hd]
  refine Ev.step (f := fun _ => some _) (fun k => ?_) (Ev.now _)
  simp only [nat_Norm.l0]
  rw [if_neg (by omega), if_pos (by omega), if_pos (by omega)]
  unfold slices_Clone_uint64_uint64.f
  rw [if_pos (by simp)]
  simp [trim, ← e]
 | n + 1, hn, hz => by
  have ew : wrap64 (((n + 1 : Nat) : Int) - 1) = (n : Int) := by rw [w64 (by omega) (by omega)]; omega
  by_cases h0 : l.getD n 0 = 0
  ·
   refine Ev.step (f := fun k => nat_Norm.l0 k l (n : Int)) (fun k => ?_) (norm_loop l hl hd n (by omega) (fun i hi => ?_))
   ·
    simp only [nat_Norm.l0]
    rw [if_pos (by omega), ew, if_pos (by omega), if_pos (by omega), rd_nat, if_pos h0]
   ·
    by_cases e : i = n
    ·
     rw [e]; exact h0
    ·
     exact hz i (by omega)
  ·
   have e : n + 1 = szN l := szN_uniq l hz (.inr (by simpa using h0))
   rw [← trim_dg one_lt_B hd]
   refine Ev.step (f := fun _ => some _) (fun k => ?_) (Ev.now _)
   simp only [nat_Norm.l0]
   rw [if_pos (by omega), ew, if_pos (by omega), if_pos (by omega), rd_nat, if_neg h0, if_pos (by omega), if_pos (by omega)]
   unfold slices_Clone_uint64_uint64.f
   rw [if_pos (by rw [List.length_take]; omega)]
   simp only [Option.bind_some, trim, ← e, Int.toNat_natCast]
theorem norm_ev (l : List Int) (hl : l.length ≤ 17592186044416) (hd : Dig 18446744073709551616 l) : Ev (fun k => nat_Norm.f k l) (dg 18446744073709551616 (V 18446744073709551616 l)) :=
 Ev.congr (fun k => rfl) (norm_loop l hl hd l.length (Nat.le_refl _) (fun i hi => by rw [List.getD_eq_getElem?_getD, List.getElem?_eq_none hi]; rfl))
theorem same_loop (a b : List Int) (hl : a.length = b.length) (hb : a.length ≤ 4611686018427387904) : ∀ (d j : Nat), a.length = j + d → Ev (fun k => vernierref01_Same.l0 k a b (j : Int)) (decide (a.drop j = b.drop j))
 | 0, j, hj => by
  refine Ev.step (f := fun _ => some _) (fun k => ?_) (Ev.now _)
  simp only [vernierref01_Same.l0]
  rw [if_neg (by omega), List.drop_of_length_le (by omega), List.drop_of_length_le (by omega)]
  simp
 | d + 1, j, hj => by
  have ew : wrap64 ((j : Int) + 1) = ((j + 1 : Nat) : Int) := by rw [w64 (by omega) (by omega)]; omega
  have ea : a.drop j = a.getD j 0 :: a.drop (j + 1) := by rw [List.drop_eq_getElem_cons (by omega), List.getD_eq_getElem?_getD, List.getElem?_eq_getElem (by omega)]; rfl
  have eb : b.drop j = b.getD j 0 :: b.drop (j + 1) := by rw [List.drop_eq_getElem_cons (by omega), List.getD_eq_getElem?_getD, List.getElem?_eq_getElem (by omega)]; rfl
  rw [ea, eb]
  by_cases h : a.getD j 0 = b.getD j 0
  ·
   have e : (a.getD j 0 :: a.drop (j + 1) = b.getD j 0 :: b.drop (j + 1)) ↔ (a.drop (j + 1) = b.drop (j + 1)) := by rw [h]; simp
   rw [decide_eq_decide.2 e]
   refine Ev.step (f := fun k => vernierref01_Same.l0 k a b ((j + 1 : Nat) : Int)) (fun k => ?_) (same_loop a b hl hb d (j + 1) (by omega))
   simp only [vernierref01_Same.l0]
   rw [if_pos (by omega), if_pos (by omega), if_pos (by omega), rd_nat, rd_nat, if_pos h, ew]
  ·
   have e : decide (a.getD j 0 :: a.drop (j + 1) = b.getD j 0 :: b.drop (j + 1)) = false := by
    apply decide_eq_false
    intro h2
    injection h2 with h3 _
    exact h h3
   rw [e]
   refine Ev.step (f := fun _ => some _) (fun k => ?_) (Ev.now _)
   simp only [vernierref01_Same.l0]
   rw [if_pos (by omega), if_pos (by omega), if_pos (by omega), rd_nat, rd_nat, if_neg h]
theorem same_ev (a b : List Int) (hb : a.length ≤ 4611686018427387904) : Ev (fun k => vernierref01_Same.f k a b) (decide (a = b)) := by
 unfold vernierref01_Same.f
 by_cases h : a.length = b.length
 ·
  refine Ev.congr (fun k => if_pos (by omega)) ?_
  exact same_loop a b h hb a.length 0 (by omega)
 ·
  refine Ev.congr (fun k => if_neg (by omega)) ?_
  have e : decide (a = b) = false := decide_eq_false (fun h2 => h (by rw [h2]))
  rw [e]
  exact Ev.now _
theorem same_true {a b : List Int} (h : a = b) (hb : a.length ≤ 4611686018427387904) : Ev (fun k => vernierref01_Same.f k a b) true := by
 have := same_ev a b hb
 rwa [decide_eq_true h] at this
end Go.Proofs.YtjgdpjbkmcjbcaaDoor.PG
end
section
namespace Go.Proofs.YtjgdpjbkmcjbcaaDoor.PG
open Go.RowKit Go.Proofs.YtjgdpjbkmcjbcaaDoorW.PrintWords Go.Proofs.YtjgdpjbkmcjbcaaDoorW.PrintLast Go.Proofs.YtjgdpjbkmcjbcaaDoor.Num
set_option linter.unusedVariables false
set_option linter.unusedSimpArgs false
theorem bitLenAux_isBits : ∀ (f x : Nat), x < 2 ^ f → IsBits (x : Int) (Lib.bitLenAux f x)
 | 0, x, h => by
  obtain rfl : x = 0 := by simpa using h
  exact isBits_zero
 | f + 1, x, h => by
  simp only [Lib.bitLenAux]
  split
  ·
   rename_i e
   subst e
   exact isBits_zero
  ·
   rename_i e
   have ih := bitLenAux_isBits f (x / 2) (by rw [Nat.pow_succ] at h; omega)
   have := IsBits.half (v := (x : Int)) (n := Lib.bitLenAux f (x / 2)) (by omega) (by
    have e2 : ((x : Int) / 2) = ((x / 2 : Nat) : Int) := by omega
    rw [e2]
    exact ih)
   have e3 : (((1 + Lib.bitLenAux f (x / 2) : Nat)) : Int) = ((Lib.bitLenAux f (x / 2) : Nat) : Int) + 1 := by omega
   rw [e3]
   exact this
theorem len64_some {x : Int} (h0 : 0 ≤ x) (h1 : x < 18446744073709551616) : bits_Len64.f x = some (bitsOf x) := by
 unfold bits_Len64.f
 rw [if_pos ⟨h0, by omega⟩]
 congr 1
 have := bitLenAux_isBits 64 x.toNat (by omega)
 rw [Int.toNat_of_nonneg h0] at this
 exact bitsOf_eq this
theorem bitsOf_top {l : List Int} (h : Dig 18446744073709551616 l) (hne : l ≠ []) (ht : l.getD (l.length - 1) 0 ≠ 0) : bitsOf (V 18446744073709551616 l) = 64 * (l.length - 1 : Nat) + bitsOf (l.getD (l.length - 1) 0) := by
 have g := h.getD B_pos (l.length - 1)
 have hp : 0 < bitsOf (l.getD (l.length - 1) 0) := bitsOf_pos (by omega)
 have := IsBits.last (B := 18446744073709551616) (s := 64) (by decide) h hne (bitsOf_spec g.1) (by omega)
 exact (bitsOf_eq this).symm
theorem bits_ev (a : List Int) (ha : Dig 18446744073709551616 a) (hl : a.length ≤ 35184372088832) : Ev (fun k => nat_Bits.f k a) (bitsOf (V 18446744073709551616 a)) := by
 unfold nat_Bits.f
 refine Ev.bind (size_ev a (by omega)) ?_
 have hs := szN_le a
 have hv := trim_val 18446744073709551616 a
 have hn := trim_nrm (B := 18446744073709551616) ha
 have ln : (trim a).length = szN a := by unfold trim; rw [List.length_take]; omega
 by_cases h0 : szN a = 0
 ·
  refine Ev.congr (fun k => if_pos (by omega)) ?_
  have : trim a = [] := List.length_eq_zero_iff.1 (by omega)
  rw [← hv, this]
  exact Ev.now _
 ·
  refine Ev.congr (fun k => if_neg (by omega)) ?_
  have e1 : wrap64 ((szN a : Int) - 1) = ((szN a - 1 : Nat) : Int) := by rw [w64 (by omega) (by omega)]; omega
  have ht : a.getD (szN a - 1) 0 ≠ 0 := (szN_top a).resolve_left h0
  have gt : (trim a).getD ((trim a).length - 1) 0 = a.getD (szN a - 1) 0 := by
   unfold trim
   rw [List.length_take, getD_take, Nat.min_eq_left hs, if_pos (by omega)]
  have bt := bitsOf_top hn.1 (by intro h; rw [h] at ln; simp at ln; omega) (by rw [gt]; exact ht)
  rw [gt, ln, hv] at bt
  have ga := ha.getD B_pos (szN a - 1)
  have b64 : bitsOf (a.getD (szN a - 1) 0) ≤ 64 := bitsOf_le ga.1 (n := 64) (by omega)
  have b0 := bitsOf_nonneg (a.getD (szN a - 1) 0)
  refine Ev.congr (f := fun _ => some (bitsOf (V 18446744073709551616 a))) (fun k => ?_) (Ev.now _)
  rw [e1, if_pos (by omega), if_pos (by omega), rd_nat, len64_some ga.1 ga.2]
  simp only [Option.bind_some]
  rw [w64 (x := 64 * ((szN a - 1 : Nat) : Int)) (by omega) (by omega), w64 (by omega) (by omega), bt]
end Go.Proofs.YtjgdpjbkmcjbcaaDoor.PG
end
section
namespace Go.Proofs.YtjgdpjbkmcjbcaaDoor.PG
open Go.RowKit Go.Proofs.YtjgdpjbkmcjbcaaDoorW.PrintWords Go.Proofs.YtjgdpjbkmcjbcaaDoorW.PrintLast Go.Proofs.YtjgdpjbkmcjbcaaDoor.Num
set_option linter.unusedVariables false
structure Nm (a : List Int) (v : Int) (n : Nat) : Prop where
 dig : Dig 18446744073709551616 a
 val : V 18446744073709551616 a = v
 len : a.length ≤ n
theorem Nm.nonneg {a v n} (h : Nm a v n) : 0 ≤ v := h.val ▸ V_nonneg B_pos h.dig
theorem Nm.lt {a v n} (h : Nm a v n) : v < 18446744073709551616 ^ n := h.val ▸ Int.lt_of_lt_of_le (V_lt B_pos h.dig) (pow_le B_pos h.len)
theorem Nm.of_wf {l : List Int} {n : Nat} (h : ∀ x ∈ l, (Lit.int .u64 x).wf = true) (hl : l.length ≤ n) : Nm l (V 18446744073709551616 l) n := ⟨dig_of_wf h, rfl, hl⟩
theorem Nm.dg {v : Int} {n : Nat} (h0 : 0 ≤ v) (h1 : v < 18446744073709551616 ^ n) : Nm (dg 18446744073709551616 v) v n := ⟨dg_dig one_lt_B v, dg_val one_lt_B h0, dg_len_le one_lt_B h0 h1⟩
theorem Nm.dg_le {a v n w} (h : Nm a v n) (h0 : 0 ≤ w) (h1 : w ≤ v) : Nm (Num.dg 18446744073709551616 w) w n := Nm.dg h0 (Int.lt_of_le_of_lt h1 h.lt)
theorem Nm.mono {a v n m} (h : Nm a v n) (hm : n ≤ m) : Nm a v m := ⟨h.dig, h.val, Nat.le_trans h.len hm⟩
theorem Nm.nil {n} : Nm [] 0 n := ⟨Dig.nil _, rfl, by simp⟩
theorem Nm.one {x : Int} {n : Nat} (h0 : 0 ≤ x) (h1 : x < 18446744073709551616) (hn : 1 ≤ n) : Nm [x] x n := ⟨Dig.cons h0 h1 (Dig.nil _), by simp [V], by simpa using hn⟩
theorem Nm.add {a b v w n m} (p : Nat) (h : Nm a v n) (g : Nm b w m) (hn : n ≤ p) (hm : m ≤ p) (hp : p < 35184372088832) : Ev (fun k => nat_Add.f k a b) (Num.dg 18446744073709551616 (v + w)) ∧ Nm (Num.dg 18446744073709551616 (v + w)) (v + w) (p + 1) := by
 have h1 := h.len
 have h2 := g.len
 have e := add_ev a b h.dig g.dig (by omega) (by omega)
 rw [h.val, g.val] at e
 have l1 := (h.mono hn).lt
 have l2 := (g.mono hm).lt
 have n1 := h.nonneg
 have n2 := g.nonneg
 have pp := pow_pos' B_pos p
 refine ⟨e, Nm.dg (by omega) ?_⟩
 rw [Int.pow_succ]
 omega
theorem Nm.sub {a b v w n m} (p : Nat) (h : Nm a v n) (g : Nm b w m) (hn : n ≤ p) (hm : m ≤ p) (hp : p < 35184372088832) : Ev (fun k => nat_Sub.f k a b) (Num.dg 18446744073709551616 ((v - w).natAbs : Int)) ∧ Nm (Num.dg 18446744073709551616 ((v - w).natAbs : Int)) ((v - w).natAbs : Int) p := by
 have h1 := h.len
 have h2 := g.len
 have e := sub_ev a b h.dig g.dig (by omega) (by omega)
 rw [h.val, g.val] at e
 have l1 := (h.mono hn).lt
 have l2 := (g.mono hm).lt
 have n1 := h.nonneg
 have n2 := g.nonneg
 exact ⟨e, Nm.dg (by omega) (by omega)⟩
theorem Nm.norm {a v n} (h : Nm a v n) (hp : n ≤ 17592186044416) : Ev (fun k => nat_Norm.f k a) (Num.dg 18446744073709551616 v) ∧ Nm (Num.dg 18446744073709551616 v) v n := by
 have h1 := h.len
 have e := norm_ev a (by omega) h.dig
 rw [h.val] at e
 exact ⟨e, h.dg_le h.nonneg (Int.le_refl _)⟩
theorem Nm.cmp {a b v w n m} (h : Nm a v n) (g : Nm b w m) (hn : n ≤ 4611686018427387904) (hm : m ≤ 4611686018427387904) : Ev (fun k => nat_Cmp.f k a b) (sgn (v - w)) := by
 have h1 := h.len
 have h2 := g.len
 have e := cmp_ev a b h.dig g.dig (by omega) (by omega)
 rwa [h.val, g.val] at e
theorem Nm.bits {a v n} (h : Nm a v n) (hn : n ≤ 35184372088832) : Ev (fun k => nat_Bits.f k a) (bitsOf v) := by
 have h1 := h.len
 have e := bits_ev a h.dig (by omega)
 rwa [h.val] at e
theorem Nm.same {v w : Int} {n : Nat} (e : v = w) (h : Nm (Num.dg 18446744073709551616 v) v n) (hn : n ≤ 4611686018427387904) : Ev (fun k => vernierref01_Same.f k (Num.dg 18446744073709551616 v) (Num.dg 18446744073709551616 w)) true :=
 same_true (by rw [e]) (Nat.le_trans h.len hn)
end Go.Proofs.YtjgdpjbkmcjbcaaDoor.PG
end
section
namespace Go.Proofs.YtjgdpjbkmcjbcaaDoor.PG
open Go.RowKit Go.Proofs.YtjgdpjbkmcjbcaaDoorW.PrintWords Go.Proofs.YtjgdpjbkmcjbcaaDoorW.PrintLast Go.Proofs.YtjgdpjbkmcjbcaaDoor.Num
set_option linter.unusedVariables false
set_option linter.unusedSimpArgs false
theorem one_lt_D : (1 : Int) < 65536 := by decide
theorem D_pos : (0 : Int) < 65536 := by decide
theorem tmod_nn {x y : Int} (h : 0 ≤ x) : Int.tmod x y = x % y := Int.tmod_eq_emod_of_nonneg h
theorem tdiv_nn {x y : Int} (h : 0 ≤ x) : Int.tdiv x y = x / y := Int.tdiv_eq_ediv_of_nonneg h
theorem getD_out {l : List Int} {n : Nat} (h : l.length ≤ n) : l.getD n 0 = 0 := by rw [List.getD_eq_getElem?_getD, List.getElem?_eq_none h]; rfl
theorem rcut_loop (l : List Int) (hl : l.length ≤ 4611686018427387904) (hd : Dig 65536 l) : ∀ n : Nat, n ≤ l.length → (∀ i, n ≤ i → l.getD i 0 = 0) → Ev (fun k => vernierref01_cut.l0 k l (n : Int)) (dg 65536 (V 65536 l))
 | 0, _, hz => by
  have e : (0 : Nat) = szN l := szN_uniq l hz (.inl rfl)
  refine Ev.step (f := fun _ => some (dg 65536 (V 65536 l))) (fun k => ?_) (Ev.now _)
  simp only [vernierref01_cut.l0]
  rw [if_neg (by omega), if_pos (by omega), if_pos (by omega), ← trim_dg one_lt_D hd]
  unfold trim
  rw [← e]
  rfl
 | n + 1, hn, hz => by
  have ew : wrap64 (((n + 1 : Nat) : Int) - 1) = (n : Int) := by rw [w64 (by omega) (by omega)]; omega
  by_cases h0 : l.getD n 0 = 0
  ·
   refine Ev.step (f := fun k => vernierref01_cut.l0 k l (n : Int)) (fun k => ?_) (rcut_loop l hl hd n (by omega) (fun i hi => ?_))
   ·
    simp only [vernierref01_cut.l0]
    rw [if_pos (by omega), ew, if_pos (by omega), if_pos (by omega), rd_nat, if_pos h0]
   ·
    by_cases e : i = n
    ·
     rw [e]; exact h0
    ·
     exact hz i (by omega)
  ·
   have e : n + 1 = szN l := szN_uniq l hz (.inr (by simpa using h0))
   refine Ev.step (f := fun _ => some (dg 65536 (V 65536 l))) (fun k => ?_) (Ev.now _)
   simp only [vernierref01_cut.l0]
   rw [if_pos (by omega), ew, if_pos (by omega), if_pos (by omega), rd_nat, if_neg h0, if_pos (by omega), if_pos (by omega), ← trim_dg one_lt_D hd]
   unfold trim
   rw [← e, Int.toNat_natCast]
theorem rcut_ev (l : List Int) (hl : l.length ≤ 4611686018427387904) (hd : Dig 65536 l) : Ev (fun k => vernierref01_cut.f k l) (dg 65536 (V 65536 l)) :=
 Ev.congr (fun k => rfl) (rcut_loop l hl hd l.length (Nat.le_refl _) (fun i hi => getD_out hi))
theorem rcut_ev' (l : List Int) (hl : l.length ≤ 4611686018427387904) (hd : Dig 65536 l) : Ev (fun k => (vernierref01_cut.f k l).bind fun t => some t) (dg 65536 (V 65536 l)) :=
 Ev.bind (rcut_ev l hl hd) (Ev.now _)
theorem pow_DB : ∀ i : Nat, (65536 : Int) ^ (4 * i) = 18446744073709551616 ^ i
 | 0 => rfl
 | i + 1 => by
  have := pow_DB i
  rw [show 4 * (i + 1) = 4 * i + 1 + 1 + 1 + 1 by omega, Int.pow_succ, Int.pow_succ, Int.pow_succ, Int.pow_succ, Int.pow_succ, this]
  omega
theorem V4 (d0 d1 d2 d3 : Int) : V 65536 [d0, d1, d2, d3] = d0 + 65536 * (d1 + 65536 * (d2 + 65536 * d3)) := by simp [V]
theorem of_digit {x : Int} (h0 : 0 ≤ x) (h1 : x < 18446744073709551616) : wrap64 (Int.tmod x 65536) = x % 65536 ∧ IntKind.u64.wrap (Int.tdiv x 65536) = x / 65536 := by
 rw [tmod_nn h0, tdiv_nn h0]
 exact ⟨w64 (by omega) (by omega), u64w (by omega) (by omega)⟩
theorem of_limb (l out : List Int) (i : Nat) (x : Int) (h0 : 0 ≤ x) (h1 : x < 18446744073709551616) (ho : out.length + 4 ≤ 17592186044416) (hi : i < 4611686018427387904) {v : List Int}
  (h : Ev (fun k => vernierref01_Of.l0 k l (out ++ [x % 65536, x / 65536 % 65536, x / 65536 / 65536 % 65536, x / 65536 / 65536 / 65536 % 65536]) ((i + 1 : Nat) : Int)) v) :
  Ev (fun k => vernierref01_Of.l1 k l out (i : Int) x 0) v := by
 have ew : wrap64 ((i : Int) + 1) = ((i + 1 : Nat) : Int) := by rw [w64 (by omega) (by omega)]; omega
 obtain ⟨a0, b0⟩ := of_digit h0 h1
 obtain ⟨a1, b1⟩ := of_digit (x := x / 65536) (by omega) (by omega)
 obtain ⟨a2, b2⟩ := of_digit (x := x / 65536 / 65536) (by omega) (by omega)
 obtain ⟨a3, b3⟩ := of_digit (x := x / 65536 / 65536 / 65536) (by omega) (by omega)
 have s1 : wrap64 (0 + 1) = 1 := (w64 (x := 0 + 1) (by omega) (by omega)).trans (by omega)
 have s2 : wrap64 (1 + 1) = 2 := (w64 (x := 1 + 1) (by omega) (by omega)).trans (by omega)
 have s3 : wrap64 (2 + 1) = 3 := (w64 (x := 2 + 1) (by omega) (by omega)).trans (by omega)
 have s4 : wrap64 (3 + 1) = 4 := (w64 (x := 3 + 1) (by omega) (by omega)).trans (by omega)
 refine Ev.step (f := fun k => vernierref01_Of.l1 k l (out ++ [x % 65536]) (i : Int) (x / 65536) 1) (fun k => ?_) ?_
 ·
  simp only [vernierref01_Of.l1]
  rw [if_pos (by decide), if_pos (by omega), a0, b0, s1]
 refine Ev.step (f := fun k => vernierref01_Of.l1 k l (out ++ [x % 65536, x / 65536 % 65536]) (i : Int) (x / 65536 / 65536) 2) (fun k => ?_) ?_
 ·
  simp only [vernierref01_Of.l1]
  rw [if_pos (by decide), if_pos (by simp; omega), a1, b1, s2, List.append_assoc]
  rfl
 refine Ev.step (f := fun k => vernierref01_Of.l1 k l (out ++ [x % 65536, x / 65536 % 65536, x / 65536 / 65536 % 65536]) (i : Int) (x / 65536 / 65536 / 65536) 3) (fun k => ?_) ?_
 ·
  simp only [vernierref01_Of.l1]
  rw [if_pos (by decide), if_pos (by simp; omega), a2, b2, s3, List.append_assoc]
  rfl
 refine Ev.step (f := fun k => vernierref01_Of.l1 k l (out ++ [x % 65536, x / 65536 % 65536, x / 65536 / 65536 % 65536, x / 65536 / 65536 / 65536 % 65536]) (i : Int) (x / 65536 / 65536 / 65536 / 65536) 4) (fun k => ?_) ?_
 ·
  simp only [vernierref01_Of.l1]
  rw [if_pos (by decide), if_pos (by simp; omega), a3, b3, s4, List.append_assoc]
  rfl
 refine Ev.step (fun k => ?_) h
 simp only [vernierref01_Of.l1]
 rw [if_neg (by decide), ew]
theorem of_loop (l : List Int) (hd : Dig 18446744073709551616 l) (hl : l.length ≤ 4398046511103) : ∀ (d i : Nat) (out : List Int), l.length = i + d → out.length = 4 * i → Dig 65536 out → V 65536 out = V 18446744073709551616 (l.take i) →
  Ev (fun k => vernierref01_Of.l0 k l out (i : Int)) (dg 65536 (V 18446744073709551616 l))
 | 0, i, out, hi, ho, hD, hV => by
  refine Ev.step (f := fun k => (vernierref01_cut.f k out).bind fun t => some t) (fun k => ?_) ?_
  ·
   simp only [vernierref01_Of.l0]
   rw [if_neg (by omega)]
  ·
   rw [V_take_all _ _ (by omega)] at hV
   rw [← hV]
   exact rcut_ev' out (by omega) hD
 | d + 1, i, out, hi, ho, hD, hV => by
  have g := hd.getD B_pos i
  refine Ev.step (f := fun k => vernierref01_Of.l1 k l out (i : Int) (l.getD i 0) 0) (fun k => ?_) ?_
  ·
   simp only [vernierref01_Of.l0]
   rw [if_pos (by omega), if_pos (by omega), rd_nat]
  refine of_limb l out i _ g.1 g.2 (by omega) (by omega) (of_loop l hd hl d (i + 1) _ (by omega) (by simp; omega) ?_ ?_)
  ·
   refine hD.append (Dig.cons (by omega) (by omega) (Dig.cons (by omega) (by omega) (Dig.cons (by omega) (by omega) (Dig.cons (by omega) (by omega) (Dig.nil _)))))
  ·
   rw [V_append, V4, V_take_succ, hV, ho, pow_DB]
   congr 2
   omega
theorem of_ev (l : List Int) (hd : Dig 18446744073709551616 l) (hl : l.length ≤ 4398046511103) : Ev (fun k => vernierref01_Of.f k l) (dg 65536 (V 18446744073709551616 l)) :=
 Ev.congr (fun k => rfl) (of_loop l hd hl l.length 0 [] (by omega) rfl (Dig.nil _) (by simp [V]))
theorem rcmp_loop (a b : List Int) (ha : Dig 65536 a) (hb : Dig 65536 b) (hl : a.length = b.length) (hm : a.length ≤ 4611686018427387904) : ∀ n : Nat, n ≤ a.length →
  Ev (fun k => vernierref01_Cmp.l0 k a b ((n : Int) - 1)) (sgn (V 65536 (a.take n) - V 65536 (b.take n)))
 | 0, _ => by
  refine Ev.step (f := fun _ => some _) (fun k => ?_) (Ev.now _)
  simp only [vernierref01_Cmp.l0]
  rw [if_neg (by omega)]
  simp [V, sgn]
 | n + 1, hn => by
  have e0 : ((n + 1 : Nat) : Int) - 1 = (n : Int) := by omega
  have ew : wrap64 ((n : Int) - 1) = (n : Int) - 1 := w64 (by omega) (by omega)
  rw [e0]
  by_cases h1 : a.getD n 0 < b.getD n 0
  ·
   have := lt_of_digit D_pos ha hb n h1
   have es : sgn (V 65536 (a.take (n + 1)) - V 65536 (b.take (n + 1))) = -1 := by unfold sgn; rw [if_pos (by omega)]
   rw [es]
   refine Ev.step (f := fun _ => some _) (fun k => ?_) (Ev.now _)
   simp only [vernierref01_Cmp.l0]
   rw [if_pos (by omega), if_pos (by omega), if_pos (by omega), if_pos (by omega), rd_nat, rd_nat, if_pos h1]
  ·
   by_cases h2 : a.getD n 0 > b.getD n 0
   ·
    have := lt_of_digit D_pos hb ha n h2
    have es : sgn (V 65536 (a.take (n + 1)) - V 65536 (b.take (n + 1))) = 1 := by unfold sgn; rw [if_neg (by omega), if_neg (by omega)]
    rw [es]
    refine Ev.step (f := fun _ => some _) (fun k => ?_) (Ev.now _)
    simp only [vernierref01_Cmp.l0]
    rw [if_pos (by omega), if_pos (by omega), if_pos (by omega), if_pos (by omega), rd_nat, rd_nat, if_neg h1, if_pos h2]
   ·
    have e : a.getD n 0 = b.getD n 0 := by omega
    have := rcmp_loop a b ha hb hl hm n (by omega)
    rw [V_take_succ, V_take_succ, e, show V 65536 (a.take n) + 65536 ^ n * b.getD n 0 - (V 65536 (b.take n) + 65536 ^ n * b.getD n 0) = V 65536 (a.take n) - V 65536 (b.take n) by omega]
    refine Ev.step (fun k => ?_) this
    simp only [vernierref01_Cmp.l0]
    rw [if_pos (by omega), if_pos (by omega), if_pos (by omega), if_pos (by omega), rd_nat, rd_nat, if_neg h1, if_neg h2, ew]
theorem rcmp_ev (a b : List Int) (ha : Nrm 65536 a) (hb : Nrm 65536 b) (hla : a.length ≤ 4611686018427387904) (hlb : b.length ≤ 4611686018427387904) : Ev (fun k => vernierref01_Cmp.f k a b) (sgn (V 65536 a - V 65536 b)) := by
 unfold vernierref01_Cmp.f
 by_cases h : a.length = b.length
 ·
  refine Ev.congr (fun k => if_pos (by omega)) ?_
  have := rcmp_loop a b ha.1 hb.1 h hla a.length (Nat.le_refl _)
  rw [List.take_of_length_le (Nat.le_refl _), List.take_of_length_le (by omega)] at this
  rw [w64 (by omega) (by omega)]
  exact this
 ·
  refine Ev.congr (fun k => if_neg (by omega)) ?_
  by_cases h2 : a.length < b.length
  ·
   refine Ev.congr (fun k => if_pos (by omega)) ?_
   have := lt_of_len one_lt_D ha.1 hb h2
   have es : sgn (V 65536 a - V 65536 b) = -1 := by unfold sgn; rw [if_pos (by omega)]
   rw [es]
   exact Ev.now _
  ·
   refine Ev.congr (fun k => if_neg (by omega)) ?_
   have := lt_of_len one_lt_D hb.1 ha (by omega)
   have es : sgn (V 65536 a - V 65536 b) = 1 := by unfold sgn; rw [if_neg (by omega), if_neg (by omega)]
   rw [es]
   exact Ev.now _
end Go.Proofs.YtjgdpjbkmcjbcaaDoor.PG
end
