/- Parts of a proof. -/
import Derived.Test.YtjgdpjbkmcjbcaaDoorZFfmaDots31
import Derived.Test.YtjgdpjbkmcjbcaaDoorZFfmaDots45
import Derived.WalkSmall
import Derived.Lib.EndianBits
section
namespace Go.Proofs.YtjgdpjbkmcjbcaaDoor.PG
open Go.RowKit Go.Proofs.YtjgdpjbkmcjbcaaDoorW.PrintWords Go.Proofs.YtjgdpjbkmcjbcaaDoorW.PrintLast Go.Proofs.YtjgdpjbkmcjbcaaDoor.Num
set_option linter.unusedVariables false
set_option linter.unusedSimpArgs false
theorem w64 {x : Int} (h0 : -9223372036854775808 ≤ x) (h1 : x ≤ 9223372036854775807) : wrap64 x = x := by unfold wrap64; omega
theorem u64w {x : Int} (h0 : 0 ≤ x) (h1 : x < 18446744073709551616) : IntKind.u64.wrap x = x := by rw [IntKind.wrap_u64]; omega
theorem rd_nat (l : List Int) (n : Nat) : rd l (n : Int) = l.getD n 0 := by simp [rd]
theorem one_lt_B : (1 : Int) < 18446744073709551616 := by decide
theorem B_pos : (0 : Int) < 18446744073709551616 := by decide
theorem dig_of_wf {l : List Int} (h : ∀ x ∈ l, (Lit.int .u64 x).wf = true) : Dig 18446744073709551616 l := by
 intro x hx
 have := h x hx
 simp [Lit.wf, IntKind.min, IntKind.max, IntKind.signed, IntKind.bits] at this
 omega
theorem size_loop (l : List Int) (hl : l.length ≤ 4611686018427387904) : ∀ n : Nat, n ≤ l.length → (∀ i, n ≤ i → l.getD i 0 = 0) → Ev (fun k => nat_size.l0 k l (n : Int)) (szN l : Int)
 | 0, _, hz => by
  have e : (0 : Nat) = szN l := szN_uniq l hz (.inl rfl)
  rw [← e]
  exact Ev.step (f := fun _ => some _) (fun k => by simp only [nat_size.l0]; rw [if_neg (by omega)]) (Ev.now _)
 | n + 1, hn, hz => by
  have ew : wrap64 (((n + 1 : Nat) : Int) - 1) = (n : Int) := by rw [w64 (by omega) (by omega)]; omega
  by_cases h0 : l.getD n 0 = 0
  ·
   refine Ev.step (f := fun k => nat_size.l0 k l (n : Int)) (fun k => ?_) (size_loop l hl n (by omega) (fun i hi => ?_))
   ·
    simp only [nat_size.l0]
    rw [if_pos (by omega), ew, if_pos (by omega), if_pos (by omega), rd_nat, if_pos h0]
   ·
    by_cases e : i = n
    ·
     rw [e]; exact h0
    ·
     exact hz i (by omega)
  ·
   have e : n + 1 = szN l := szN_uniq l hz (.inr (by simpa using h0))
   rw [← e]
   refine Ev.step (f := fun _ => some _) (fun k => ?_) (Ev.now _)
   simp only [nat_size.l0]
   rw [if_pos (by omega), ew, if_pos (by omega), if_pos (by omega), rd_nat, if_neg h0]
theorem size_ev (l : List Int) (hl : l.length ≤ 4611686018427387904) : Ev (fun k => nat_size.f k l) (szN l : Int) :=
 Ev.congr (fun k => rfl) (size_loop l hl l.length (Nat.le_refl _) (fun i hi => by rw [List.getD_eq_getElem?_getD, List.getElem?_eq_none hi]; rfl))
theorem cmpDown_val {B : Int} (hB : 0 < B) (a b : List Int) (ha : Dig B a) (hb : Dig B b) : ∀ N : Nat, cmpDown a b N = sgn (V B (a.take N) - V B (b.take N))
 | 0 => by simp [cmpDown, sgn, V]
 | N + 1 => by
  simp only [cmpDown]
  rw [rd_nat, rd_nat]
  by_cases h : a.getD N 0 = b.getD N 0
  ·
   rw [if_pos h, cmpDown_val hB a b ha hb N, V_take_succ, V_take_succ, h]
   congr 1
   omega
  ·
   rw [if_neg h]
   by_cases hlt : a.getD N 0 < b.getD N 0
   ·
    rw [if_pos hlt]
    have := lt_of_digit hB ha hb N hlt
    unfold sgn
    rw [if_pos (by omega)]
   ·
    rw [if_neg hlt]
    have := lt_of_digit hB hb ha N (by omega)
    unfold sgn
    rw [if_neg (by omega), if_neg (by omega)]
theorem sgn_neg_iff {x : Int} : sgn x < 0 ↔ x < 0 := by unfold sgn; split <;> (try split) <;> omega
theorem sgn_pos_iff {x : Int} : sgn x > 0 ↔ x > 0 := by unfold sgn; split <;> (try split) <;> omega
theorem sgn_zero_iff {x : Int} : sgn x = 0 ↔ x = 0 := by unfold sgn; split <;> (try split) <;> omega
theorem cmp_ev (a b : List Int) (ha : Dig 18446744073709551616 a) (hb : Dig 18446744073709551616 b) (hla : a.length ≤ 4611686018427387904) (hlb : b.length ≤ 4611686018427387904) :
  Ev (fun k => nat_Cmp.f k a b) (sgn (V 18446744073709551616 a - V 18446744073709551616 b)) := by
 unfold nat_Cmp.f
 refine Ev.bind (size_ev a hla) (Ev.bind (size_ev b hlb) ?_)
 have h1 := szN_le a
 have h2 := szN_le b
 refine Ev.congr (fun k => if_pos ⟨by omega, by omega, by omega⟩) ?_
 have va := trim_val 18446744073709551616 a
 have vb := trim_val 18446744073709551616 b
 have na := trim_nrm (B := 18446744073709551616) ha
 have nb := trim_nrm (B := 18446744073709551616) hb
 have la : (trim a).length = szN a := by unfold trim; rw [List.length_take]; omega
 have lb : (trim b).length = szN b := by unfold trim; rw [List.length_take]; omega
 by_cases e : szN a = szN b
 ·
  refine Ev.congr (fun k => if_pos (by omega)) ?_
  rw [Int.toNat_natCast, cmpDown_val B_pos a b ha hb]
  have e1 : V 18446744073709551616 (a.take (szN a)) = V 18446744073709551616 a := va
  have e2 : V 18446744073709551616 (b.take (szN a)) = V 18446744073709551616 b := by rw [e]; exact vb
  rw [e1, e2]
  exact Ev.now _
 ·
  refine Ev.congr (fun k => if_neg (by omega)) ?_
  by_cases hlt : szN a < szN b
  ·
   refine Ev.congr (fun k => if_pos (by omega)) ?_
   have := lt_of_len one_lt_B na.1 nb (by omega)
   have e3 : sgn (V 18446744073709551616 a - V 18446744073709551616 b) = -1 := by unfold sgn; rw [if_pos (by omega)]
   rw [e3]
   exact Ev.now _
  ·
   refine Ev.congr (fun k => if_neg (by omega)) ?_
   have := lt_of_len one_lt_B nb.1 na (by omega)
   have e3 : sgn (V 18446744073709551616 a - V 18446744073709551616 b) = 1 := by unfold sgn; rw [if_neg (by omega), if_neg (by omega)]
   rw [e3]
   exact Ev.now _
theorem at_some (l : List Int) (i : Nat) : nat_at.f l (i : Int) = some (l.getD i 0) := by
 unfold nat_at.f
 by_cases h : i < l.length
 ·
  rw [if_pos (by omega), if_pos (by omega), rd_nat]
 ·
  rw [if_neg (by omega), List.getD_eq_getElem?_getD, List.getElem?_eq_none (by omega)]; rfl
theorem cut_ev (l : List Int) (hl : l.length ≤ 4611686018427387904) (hd : Dig 18446744073709551616 l) :
  Ev (fun k => (nat_size.f k l).bind fun t => if 0 ≤ t then (if t ≤ (l.length : Int) then some (l.take (t : Int).toNat) else none) else none) (dg 18446744073709551616 (V 18446744073709551616 l)) := by
 refine Ev.bind (size_ev l hl) ?_
 have h1 := szN_le l
 refine Ev.congr (fun k => (if_pos (by omega)).trans (if_pos (by omega))) ?_
 rw [Int.toNat_natCast, ← trim_dg one_lt_B hd]
 exact Ev.now _
theorem add_loop (a b : List Int) (ha : Dig 18446744073709551616 a) (hb : Dig 18446744073709551616 b) (M : Nat) (hM : M ≤ 35184372088832) (hv : Aside0 (V 18446744073709551616 a + V 18446744073709551616 b < 18446744073709551616 ^ M)) : ∀ (d j : Nat) (out : List Int) (c : Int), M = j + d → out.length = M → Dig 18446744073709551616 out → 0 ≤ c → c ≤ 1 →
  Aside0 (V 18446744073709551616 (out.take j) + c * 18446744073709551616 ^ j = V 18446744073709551616 (a.take j) + V 18446744073709551616 (b.take j)) →
  Ev (fun k => nat_Add.l0 k a b out c (M : Int) (j : Int)) (dg 18446744073709551616 (V 18446744073709551616 a + V 18446744073709551616 b))
 | 0, j, out, c, hj, hl, hd, h0, h1, hI => by
  obtain rfl : M = j := by omega
  replace hv := hv.out
  replace hI := hI.out
  have hf : V 18446744073709551616 out = V 18446744073709551616 a + V 18446744073709551616 b := by
   have e1 := V_take_all 18446744073709551616 out (n := M) (by omega)
   have hla : V 18446744073709551616 a = V 18446744073709551616 (a.take M) + 18446744073709551616 ^ M * V 18446744073709551616 (a.drop M) := by
    by_cases h : M ≤ a.length
    ·
     exact V_split _ a h
    ·
     rw [List.take_of_length_le (by omega), V_drop_all _ a (by omega)]; omega
   have hlb : V 18446744073709551616 b = V 18446744073709551616 (b.take M) + 18446744073709551616 ^ M * V 18446744073709551616 (b.drop M) := by
    by_cases h : M ≤ b.length
    ·
     exact V_split _ b h
    ·
     rw [List.take_of_length_le (by omega), V_drop_all _ b (by omega)]; omega
   have pa := V_nonneg B_pos (ha.drop M)
   have pb := V_nonneg B_pos (hb.drop M)
   have qa := V_nonneg B_pos (ha.take M)
   have qb := V_nonneg B_pos (hb.take M)
   have po := V_nonneg B_pos (hd.take M)
   have pM := pow_pos' B_pos M
   have za : V 18446744073709551616 (a.drop M) = 0 := by
    by_cases h : 0 < V 18446744073709551616 (a.drop M)
    ·
     have : 18446744073709551616 ^ M * 1 ≤ 18446744073709551616 ^ M * V 18446744073709551616 (a.drop M) := Int.mul_le_mul_of_nonneg_left (by omega) (by omega)
     have : 0 ≤ 18446744073709551616 ^ M * V 18446744073709551616 (b.drop M) := Int.mul_nonneg (by omega) pb
     omega
    ·
     omega
   have zb : V 18446744073709551616 (b.drop M) = 0 := by
    by_cases h : 0 < V 18446744073709551616 (b.drop M)
    ·
     have : 18446744073709551616 ^ M * 1 ≤ 18446744073709551616 ^ M * V 18446744073709551616 (b.drop M) := Int.mul_le_mul_of_nonneg_left (by omega) (by omega)
     have : 0 ≤ 18446744073709551616 ^ M * V 18446744073709551616 (a.drop M) := Int.mul_nonneg (by omega) pa
     omega
    ·
     omega
   rw [za] at hla
   rw [zb] at hlb
   have hc : c = 0 ∨ c = 1 := by omega
   rcases hc with rfl | rfl
   ·
    omega
   ·
    exfalso; omega
  refine Ev.step (f := fun k => (nat_size.f k out).bind fun t => if 0 ≤ t then (if t ≤ (out.length : Int) then some (out.take (t : Int).toNat) else none) else none) (fun k => ?_) ?_
  ·
   simp only [nat_Add.l0]; rw [if_neg (by omega)]
  ·
   have := cut_ev out (by omega) hd
   rw [hf] at this
   exact this
 | d + 1, j, out, c, hj, hl, hd, h0, h1, hI => by
  have ga := ha.getD B_pos j
  have gb := hb.getD B_pos j
  have ew : wrap64 ((j : Int) + 1) = ((j + 1 : Nat) : Int) := by rw [w64 (by omega) (by omega)]; omega
  have hs := Int.emod_add_mul_ediv (a.getD j 0 + b.getD j 0 + c) 18446744073709551616
  have hm0 := Int.emod_nonneg (a.getD j 0 + b.getD j 0 + c) (show (18446744073709551616 : Int) ≠ 0 by decide)
  have hm1 := Int.emod_lt_of_pos (a.getD j 0 + b.getD j 0 + c) B_pos
  have hf : bits_Add64.f (a.getD j 0) (b.getD j 0) c = some ((a.getD j 0 + b.getD j 0 + c) % 18446744073709551616, (a.getD j 0 + b.getD j 0 + c) / 18446744073709551616) := by
   unfold bits_Add64.f
   rw [if_pos ⟨ga.1, gb.1, h0, h1⟩]
  obtain ⟨m, hm⟩ : ∃ m, (a.getD j 0 + b.getD j 0 + c) % 18446744073709551616 = m := ⟨_, rfl⟩
  obtain ⟨q, hq⟩ : ∃ q, (a.getD j 0 + b.getD j 0 + c) / 18446744073709551616 = q := ⟨_, rfl⟩
  rw [hm, hq] at hf hs
  rw [hm] at hm0 hm1
  clear hm hq
  refine Ev.step (f := fun k => nat_Add.l0 k a b (out.set j m) q (M : Int) ((j + 1 : Nat) : Int)) (fun k => ?_)
   (add_loop a b ha hb M hM hv d (j + 1) _ _ (by omega) (by simpa using hl) (hd.set j hm0 hm1) (by omega) (by omega) ⟨?_⟩)
  ·
   simp only [nat_Add.l0]
   rw [if_pos (by omega), at_some, at_some]
   simp only [Option.bind_some]
   rw [hf]
   simp only [Option.bind_some]
   rw [if_pos (by omega), if_pos (by omega), ew, Int.toNat_natCast]
  ·
   have hI := hI.out
   rw [V_take_set_succ _ _ _ _ (by omega), V_take_succ, V_take_succ, Int.pow_succ]
   clear hv
   generalize a.getD j 0 = x at *
   generalize b.getD j 0 = y at *
   generalize (18446744073709551616 : Int) ^ j = p at *
   have : p * (m + 18446744073709551616 * q) = p * (x + y + c) := by rw [hs]
   grind
theorem add_ev (a b : List Int) (ha : Dig 18446744073709551616 a) (hb : Dig 18446744073709551616 b) (hla : a.length < 35184372088832) (hlb : b.length < 35184372088832) :
  Ev (fun k => nat_Add.f k a b) (dg 18446744073709551616 (V 18446744073709551616 a + V 18446744073709551616 b)) := by
 have main : ∀ M : Nat, a.length < M → b.length < M → M ≤ 35184372088832 → V 18446744073709551616 a + V 18446744073709551616 b < 18446744073709551616 ^ M := by
  intro M h1 h2 _
  have va := V_lt B_pos ha
  have vb := V_lt B_pos hb
  have pa := pow_le (B := 18446744073709551616) B_pos (m := a.length) (n := M - 1) (by omega)
  have pb := pow_le (B := 18446744073709551616) B_pos (m := b.length) (n := M - 1) (by omega)
  have := pow_succ_pred 18446744073709551616 (n := M) (by omega)
  have := pow_pos' B_pos (M - 1)
  omega
 unfold nat_Add.f
 by_cases h : a.length < b.length
 ·
  refine Ev.congr (fun k => if_pos (by omega)) ?_
  have ew : wrap64 ((b.length : Int) + 1) = ((b.length + 1 : Nat) : Int) := by rw [w64 (by omega) (by omega)]; omega
  refine Ev.congr (f := fun k => nat_Add.l0 k a b (List.replicate (b.length + 1) 0) 0 ((b.length + 1 : Nat) : Int) ((0 : Nat) : Int)) (fun k => ?_)
   (add_loop a b ha hb (b.length + 1) (by omega) ⟨main _ (by omega) (by omega) (by omega)⟩ (b.length + 1) 0 _ 0 (by omega) (by simp) (Dig.replicate B_pos _) (by omega) (by omega) ⟨by simp [V]⟩)
  rw [ew, if_pos (by omega), if_pos (by omega)]
  simp
 ·
  refine Ev.congr (fun k => if_neg (by omega)) ?_
  have ew : wrap64 ((a.length : Int) + 1) = ((a.length + 1 : Nat) : Int) := by rw [w64 (by omega) (by omega)]; omega
  refine Ev.congr (f := fun k => nat_Add.l0 k a b (List.replicate (a.length + 1) 0) 0 ((a.length + 1 : Nat) : Int) ((0 : Nat) : Int)) (fun k => ?_)
   (add_loop a b ha hb (a.length + 1) (by omega) ⟨main _ (by omega) (by omega) (by omega)⟩ (a.length + 1) 0 _ 0 (by omega) (by simp) (Dig.replicate B_pos _) (by omega) (by omega) ⟨by simp [V]⟩)
  rw [ew, if_pos (by omega), if_pos (by omega)]
  simp
end Go.Proofs.YtjgdpjbkmcjbcaaDoor.PG
end
section
namespace Go.Proofs.YtjgdpjbkmcjbcaaDoor.PG
open Go.RowKit Go.Proofs.YtjgdpjbkmcjbcaaDoorW.PrintWords Go.Proofs.YtjgdpjbkmcjbcaaDoorW.PrintLast Go.Proofs.YtjgdpjbkmcjbcaaDoor.Num
set_option linter.unusedVariables false
set_option linter.unusedSimpArgs false
theorem sub_step {x y c : Int} (hx0 : 0 ≤ x) (hx1 : x < 18446744073709551616) (hy0 : 0 ≤ y) (hy1 : y < 18446744073709551616) (h0 : 0 ≤ c) (h1 : c ≤ 1) :
  ∃ m q, bits_Sub64.f x y c = some (m, q) ∧ 0 ≤ m ∧ m < 18446744073709551616 ∧ 0 ≤ q ∧ q ≤ 1 ∧ m - 18446744073709551616 * q = x - y - c := by
 unfold bits_Sub64.f
 rw [if_pos ⟨hx0, hx1, hy0, hy1, h0, h1⟩]
 refine ⟨_, _, rfl, Int.emod_nonneg _ (by decide), Int.emod_lt_of_pos _ B_pos, ?_⟩
 by_cases h : x < y + c
 ·
  rw [if_pos h]
  have e : (x - y - c) % 18446744073709551616 = x - y - c + 18446744073709551616 := by omega
  omega
 ·
  rw [if_neg h]
  have e : (x - y - c) % 18446744073709551616 = x - y - c := by omega
  omega
theorem sub_end {a b out : List Int} {c : Int} (ha : Dig 18446744073709551616 a) (hb : Dig 18446744073709551616 b) (hd : Dig 18446744073709551616 out) (hl : out.length = a.length) (hle : V 18446744073709551616 b ≤ V 18446744073709551616 a) (h0 : 0 ≤ c) (h1 : c ≤ 1)
  (hI : V 18446744073709551616 (out.take a.length) - c * 18446744073709551616 ^ a.length = V 18446744073709551616 (a.take a.length) - V 18446744073709551616 (b.take a.length)) : V 18446744073709551616 out = V 18446744073709551616 a - V 18446744073709551616 b := by
 rw [V_take_all 18446744073709551616 out (by omega), V_take_all 18446744073709551616 a (Nat.le_refl _)] at hI
 have hlb : V 18446744073709551616 b = V 18446744073709551616 (b.take a.length) + 18446744073709551616 ^ a.length * V 18446744073709551616 (b.drop a.length) := by
  by_cases h : a.length ≤ b.length
  ·
   exact V_split _ b h
  ·
   rw [List.take_of_length_le (by omega), V_drop_all _ b (by omega)]; omega
 have va := V_lt B_pos ha
 have pb := V_nonneg B_pos (hb.drop a.length)
 have qb := V_nonneg B_pos (hb.take a.length)
 have po := V_nonneg B_pos hd
 have vo := V_lt B_pos hd
 rw [hl] at vo
 have pM := pow_pos' B_pos a.length
 have zb : V 18446744073709551616 (b.drop a.length) = 0 := by
  by_cases h : 0 < V 18446744073709551616 (b.drop a.length)
  ·
   have : 18446744073709551616 ^ a.length * 1 ≤ 18446744073709551616 ^ a.length * V 18446744073709551616 (b.drop a.length) := Int.mul_le_mul_of_nonneg_left (by omega) (by omega)
   omega
  ·
   omega
 rw [zb] at hlb
 have hc : c = 0 ∨ c = 1 := by omega
 rcases hc with rfl | rfl
 ·
  omega
 ·
  exfalso; omega
theorem sub_loop0 (a b : List Int) (ha : Dig 18446744073709551616 a) (hb : Dig 18446744073709551616 b) (hla : a.length ≤ 35184372088832) (hle : V 18446744073709551616 b ≤ V 18446744073709551616 a) : ∀ (d j : Nat) (out : List Int) (c : Int), a.length = j + d → out.length = a.length → Dig 18446744073709551616 out → 0 ≤ c → c ≤ 1 →
  Aside0 (V 18446744073709551616 (out.take j) - c * 18446744073709551616 ^ j = V 18446744073709551616 (a.take j) - V 18446744073709551616 (b.take j)) →
  Ev (fun k => nat_Sub.l0 k a b out c (a.length : Int) (j : Int)) (dg 18446744073709551616 (V 18446744073709551616 a - V 18446744073709551616 b))
 | 0, j, out, c, hj, hl, hd, h0, h1, hI => by
  obtain rfl : j = a.length := by omega
  have hf := sub_end ha hb hd hl hle h0 h1 hI.out
  refine Ev.step (f := fun k => (nat_size.f k out).bind fun t => if 0 ≤ t then (if t ≤ (out.length : Int) then some (out.take (t : Int).toNat) else none) else none) (fun k => ?_) ?_
  ·
   simp only [nat_Sub.l0]; rw [if_neg (by omega)]
  ·
   have := cut_ev out (by omega) hd
   rw [hf] at this
   exact this
 | d + 1, j, out, c, hj, hl, hd, h0, h1, hI => by
  have ga := ha.getD B_pos j
  have gb := hb.getD B_pos j
  have ew : wrap64 ((j : Int) + 1) = ((j + 1 : Nat) : Int) := by rw [w64 (by omega) (by omega)]; omega
  obtain ⟨m, q, hf, hm0, hm1, hq0, hq1, hs⟩ := sub_step ga.1 ga.2 gb.1 gb.2 h0 h1
  refine Ev.step (f := fun k => nat_Sub.l0 k a b (out.set j m) q (a.length : Int) ((j + 1 : Nat) : Int)) (fun k => ?_)
   (sub_loop0 a b ha hb hla hle d (j + 1) _ _ (by omega) (by simpa using hl) (hd.set j hm0 hm1) hq0 hq1 ⟨?_⟩)
  ·
   simp only [nat_Sub.l0]
   rw [if_pos (by omega), if_pos (by omega), if_pos (by omega), at_some, rd_nat]
   simp only [Option.bind_some]
   rw [hf]
   simp only [Option.bind_some]
   rw [if_pos (by omega), ew, Int.toNat_natCast]
  ·
   have hI := hI.out
   rw [V_take_set_succ _ _ _ _ (by omega), V_take_succ, V_take_succ, Int.pow_succ]
   generalize a.getD j 0 = x at *
   generalize b.getD j 0 = y at *
   generalize (18446744073709551616 : Int) ^ j = p at *
   have : p * (m - 18446744073709551616 * q) = p * (x - y - c) := by rw [hs]
   grind
theorem sub_loop1 (a b : List Int) : ∀ (k : Nat) (out : List Int) (c L j : Int), nat_Sub.l1 k a b out c L j = nat_Sub.l0 k a b out c L j
 | 0, _, _, _, _ => rfl
 | k + 1, out, c, L, j => by
  simp only [nat_Sub.l1, nat_Sub.l0]
  simp only [sub_loop1 a b k]
theorem sub_ev (a b : List Int) (ha : Dig 18446744073709551616 a) (hb : Dig 18446744073709551616 b) (hla : a.length ≤ 35184372088832) (hlb : b.length ≤ 35184372088832) :
  Ev (fun k => nat_Sub.f k a b) (dg 18446744073709551616 ((V 18446744073709551616 a - V 18446744073709551616 b).natAbs : Int)) := by
 unfold nat_Sub.f
 refine Ev.bind (cmp_ev a b ha hb (by omega) (by omega)) ?_
 by_cases h : V 18446744073709551616 a < V 18446744073709551616 b
 ·
  refine Ev.congr (fun k => if_pos (sgn_neg_iff.2 (by omega))) ?_
  refine Ev.congr (f := fun k => nat_Sub.l0 k b a (List.replicate b.length 0) 0 (b.length : Int) ((0 : Nat) : Int)) (fun k => ?_) ?_
  ·
   rw [if_pos (by omega), Int.toNat_natCast, if_pos (by omega)]
   simp
  ·
   have := sub_loop0 b a hb ha hlb (by omega) b.length 0 (List.replicate b.length 0) 0 (by omega) (by simp) (Dig.replicate B_pos _) (by omega) (by omega) ⟨by simp [V]⟩
   rw [show ((V 18446744073709551616 a - V 18446744073709551616 b).natAbs : Int) = V 18446744073709551616 b - V 18446744073709551616 a by omega]
   exact this
 ·
  refine Ev.congr (fun k => if_neg (fun h' => h (by have := sgn_neg_iff.1 h'; omega))) ?_
  refine Ev.congr (f := fun k => nat_Sub.l0 k a b (List.replicate a.length 0) 0 (a.length : Int) ((0 : Nat) : Int)) (fun k => ?_) ?_
  ·
   rw [if_pos (by omega), Int.toNat_natCast, if_pos (by omega)]
   simp [sub_loop1]
  ·
   have := sub_loop0 a b ha hb hla (by omega) a.length 0 (List.replicate a.length 0) 0 (by omega) (by simp) (Dig.replicate B_pos _) (by omega) (by omega) ⟨by simp [V]⟩
   rw [show ((V 18446744073709551616 a - V 18446744073709551616 b).natAbs : Int) = V 18446744073709551616 a - V 18446744073709551616 b by omega]
   exact this
theorem norm_loop (l : List Int) (hl : l.length ≤ 17592186044416) (hd : Dig 18446744073709551616 l) : ∀ n : Nat, n ≤ l.length → (∀ i, n ≤ i → l.getD i 0 = 0) → Ev (fun k => nat_Norm.l0 k l (n : Int)) (dg 18446744073709551616 (V 18446744073709551616 l))
 | 0, _, hz => by
  have e : (0 : Nat) = szN l := szN_uniq l hz (.inl rfl)
  rw [← trim_dg one_lt_B hd]
  refine Ev.step (f := fun _ => some _) (fun k => ?_) (Ev.now _)
  simp only [nat_Norm.l0]
  rw [if_neg (by omega), if_pos (by omega), if_pos (by omega)]
  unfold slices_Clone_uint64_uint64.f
  rw [if_pos (by simp)]
  simp [trim, ← e]
 | n + 1, hn, hz => by
  have ew : wrap64 (((n + 1 : Nat) : Int) - 1) = (n : Int) := by rw [w64 (by omega) (by omega)]; omega
  by_cases h0 : l.getD n 0 = 0
  ·
   refine Ev.step (f := fun k => nat_Norm.l0 k l (n : Int)) (fun k => ?_) (norm_loop l hl hd n (by omega) (fun i hi => ?_))
   ·
    simp only [nat_Norm.l0]
    rw [if_pos (by omega), ew, if_pos (by omega), if_pos (by omega), rd_nat, if_pos h0]
   ·
    by_cases e : i = n
    ·
     rw [e]; exact h0
    ·
     exact hz i (by omega)
  ·
   have e : n + 1 = szN l := szN_uniq l hz (.inr (by simpa using h0))
   rw [← trim_dg one_lt_B hd]
   refine Ev.step (f := fun _ => some _) (fun k => ?_) (Ev.now _)
   simp only [nat_Norm.l0]
   rw [if_pos (by omega), ew, if_pos (by omega), if_pos (by omega), rd_nat, if_neg h0, if_pos (by omega), if_pos (by omega)]
   unfold slices_Clone_uint64_uint64.f
   rw [if_pos (by rw [List.length_take]; omega)]
   simp only [Option.bind_some, trim, ← e, Int.toNat_natCast]
theorem norm_ev (l : List Int) (hl : l.length ≤ 17592186044416) (hd : Dig 18446744073709551616 l) : Ev (fun k => nat_Norm.f k l) (dg 18446744073709551616 (V 18446744073709551616 l)) :=
 Ev.congr (fun k => rfl) (norm_loop l hl hd l.length (Nat.le_refl _) (fun i hi => by rw [List.getD_eq_getElem?_getD, List.getElem?_eq_none hi]; rfl))
theorem same_loop (a b : List Int) (hl : a.length = b.length) (hb : a.length ≤ 4611686018427387904) : ∀ (d j : Nat), a.length = j + d → Ev (fun k => vernierref01_Same.l0 k a b (j : Int)) (decide (a.drop j = b.drop j))
 | 0, j, hj => by
  refine Ev.step (f := fun _ => some _) (fun k => ?_) (Ev.now _)
  simp only [vernierref01_Same.l0]
  rw [if_neg (by omega), List.drop_of_length_le (by omega), List.drop_of_length_le (by omega)]
  simp
 | d + 1, j, hj => by
  have ew : wrap64 ((j : Int) + 1) = ((j + 1 : Nat) : Int) := by rw [w64 (by omega) (by omega)]; omega
  have ea : a.drop j = a.getD j 0 :: a.drop (j + 1) := by rw [List.drop_eq_getElem_cons (by omega), List.getD_eq_getElem?_getD, List.getElem?_eq_getElem (by omega)]; rfl
  have eb : b.drop j = b.getD j 0 :: b.drop (j + 1) := by rw [List.drop_eq_getElem_cons (by omega), List.getD_eq_getElem?_getD, List.getElem?_eq_getElem (by omega)]; rfl
  rw [ea, eb]
  by_cases h : a.getD j 0 = b.getD j 0
  ·
   have e : (a.getD j 0 :: a.drop (j + 1) = b.getD j 0 :: b.drop (j + 1)) ↔ (a.drop (j + 1) = b.drop (j + 1)) := by rw [h]; simp
   rw [decide_eq_decide.2 e]
   refine Ev.step (f := fun k => vernierref01_Same.l0 k a b ((j + 1 : Nat) : Int)) (fun k => ?_) (same_loop a b hl hb d (j + 1) (by omega))
   simp only [vernierref01_Same.l0]
   rw [if_pos (by omega), if_pos (by omega), if_pos (by omega), rd_nat, rd_nat, if_pos h, ew]
  ·
   have e : decide (a.getD j 0 :: a.drop (j + 1) = b.getD j 0 :: b.drop (j + 1)) = false := by
    apply decide_eq_false
    intro h2
    injection h2 with h3 _
    exact h h3
   rw [e]
   refine Ev.step (f := fun _ => some _) (fun k => ?_) (Ev.now _)
   simp only [vernierref01_Same.l0]
   rw [if_pos (by omega), if_pos (by omega), if_pos (by omega), rd_nat, rd_nat, if_neg h]
theorem same_ev (a b : List Int) (hb : a.length ≤ 4611686018427387904) : Ev (fun k => vernierref01_Same.f k a b) (decide (a = b)) := by
 unfold vernierref01_Same.f
 by_cases h : a.length = b.length
 ·
  refine Ev.congr (fun k => if_pos (by omega)) ?_
  exact same_loop a b h hb a.length 0 (by omega)
 ·
  refine Ev.congr (fun k => if_neg (by omega)) ?_
  have e : decide (a = b) = false := decide_eq_false (fun h2 => h (by rw [h2]))
  rw [e]
  exact Ev.now _
theorem same_true {a b : List Int} (h : a = b) (hb : a.length ≤ 4611686018427387904) : Ev (fun k => vernierref01_Same.f k a b) true := by
 have := same_ev a b hb
 rwa [decide_eq_true h] at this
end Go.Proofs.YtjgdpjbkmcjbcaaDoor.PG
end
section
namespace Go.Proofs.YtjgdpjbkmcjbcaaDoor.PG
open Go.RowKit Go.Proofs.YtjgdpjbkmcjbcaaDoorW.PrintWords Go.Proofs.YtjgdpjbkmcjbcaaDoorW.PrintLast Go.Proofs.YtjgdpjbkmcjbcaaDoor.Num
set_option linter.unusedVariables false
set_option linter.unusedSimpArgs false
theorem add64_some {a b c : Int} (ha : 0 ≤ a) (hb : 0 ≤ b) (h0 : 0 ≤ c) (h1 : c ≤ 1) : bits_Add64.f a b c = some ((a + b + c) % 18446744073709551616, (a + b + c) / 18446744073709551616) := by
 unfold bits_Add64.f
 rw [if_pos ⟨ha, hb, h0, h1⟩]
theorem mul64_some {a b : Int} (ha : 0 ≤ a) (ha' : a < 18446744073709551616) (hb : 0 ≤ b) (hb' : b < 18446744073709551616) : bits_Mul64.f a b = some (a * b / 18446744073709551616, a * b % 18446744073709551616) := by
 unfold bits_Mul64.f
 rw [if_pos ⟨ha, ha', hb, hb'⟩]
theorem row_step {x y c s : Int} (hx : 0 ≤ x) (hx' : x < 18446744073709551616) (hy : 0 ≤ y) (hy' : y < 18446744073709551616) (hc : 0 ≤ c) (hc' : c < 18446744073709551616) (hs : 0 ≤ s) (hs' : s < 18446744073709551616) :
  ∃ hi lo q c1 r c2 : Int, bits_Mul64.f x y = some (hi, lo) ∧ bits_Add64.f lo c 0 = some (q, c1) ∧ bits_Add64.f s q 0 = some (r, c2) ∧ 0 ≤ r ∧ r < 18446744073709551616 ∧
   IntKind.u64.wrap (IntKind.u64.wrap (hi + c1) + c2) = hi + c1 + c2 ∧ 0 ≤ hi + c1 + c2 ∧ hi + c1 + c2 < 18446744073709551616 ∧ r + 18446744073709551616 * (hi + c1 + c2) = s + x * y + c := by
 have hm := mul64_some hx hx' hy hy'
 have p0 : 0 ≤ x * y := Int.mul_nonneg hx hy
 have p1 : x * y ≤ 18446744073709551615 * 18446744073709551615 := Int.mul_le_mul (by omega) (by omega) hy (by omega)
 generalize x * y = m at *
 refine ⟨m / 18446744073709551616, m % 18446744073709551616, (m % 18446744073709551616 + c + 0) % 18446744073709551616, (m % 18446744073709551616 + c + 0) / 18446744073709551616, (s + (m % 18446744073709551616 + c + 0) % 18446744073709551616 + 0) % 18446744073709551616, (s + (m % 18446744073709551616 + c + 0) % 18446744073709551616 + 0) / 18446744073709551616, hm,
  add64_some (by omega) (by omega) (by omega) (by omega), add64_some (by omega) (by omega) (by omega) (by omega), by omega, by omega, ?_, by omega, by omega, by omega⟩
 rw [u64w (x := m / 18446744073709551616 + (m % 18446744073709551616 + c + 0) / 18446744073709551616) (by omega) (by omega), u64w (by omega) (by omega)]
theorem row_spec (off : Nat) (x : Int) (hx : 0 ≤ x) (hx' : x < 18446744073709551616) : ∀ (ys : List Int) (i : Nat) (c : Int) (L : List Int), Dig 18446744073709551616 ys → 0 ≤ c → c < 18446744073709551616 → Dig 18446744073709551616 L → off + i + ys.length < L.length → L.getD (off + i + ys.length) 0 = 0 →
  ∃ L', nat_row.go off x ys i c L = some L' ∧ L'.length = L.length ∧ Dig 18446744073709551616 L' ∧ V 18446744073709551616 L' = V 18446744073709551616 L + 18446744073709551616 ^ (off + i) * (c + x * V 18446744073709551616 ys) ∧ ∀ j, off + i + ys.length < j → L'.getD j 0 = L.getD j 0
 | [], i, c, L, _, h0, h1, hL, hl, hz => by
  simp only [List.length_nil, Nat.add_zero] at hl hz
  refine ⟨L.set (off + i) c, rfl, by simp, hL.set _ h0 h1, ?_, ?_⟩
  ·
   rw [V_set _ _ _ _ hl, hz]
   simp [V]
  ·
   intro j hj
   simp only [List.length_nil, Nat.add_zero] at hj
   rw [getD_set _ _ _ _ hl, if_neg (by omega)]
 | y :: ys, i, c, L, hy, h0, h1, hL, hl, hz => by
  simp only [List.length_cons] at hl hz
  have gy := hy.head
  have gs := hL.getD B_pos (off + i)
  obtain ⟨hi, lo, q, c1, r, c2, e1, e2, e3, r0, r1, ew, w0, w1, ev⟩ := row_step hx hx' gy.1 gy.2 h0 h1 gs.1 gs.2
  have hlt : off + i < L.length := by omega
  obtain ⟨L', f1, f2, f3, f4, f5⟩ := row_spec off x hx hx' ys (i + 1) (hi + c1 + c2) (L.set (off + i) r) hy.tail w0 w1 (hL.set _ r0 r1) (by simp; omega) (by
   rw [getD_set _ _ _ _ hlt, if_neg (by omega)]
   rw [show off + (i + 1) + ys.length = off + i + (ys.length + 1) by omega]
   exact hz)
  refine ⟨L', ?_, by simpa using f2, f3, ?_, ?_⟩
  ·
   simp only [nat_row.go]
   rw [e1]
   simp only [Option.bind_some]
   rw [e2]
   simp only [Option.bind_some]
   rw [rd_nat, e3]
   simp only [Option.bind_some]
   rw [ew]
   exact f1
  ·
   rw [f4, V_set _ _ _ _ hlt, V_cons, show off + (i + 1) = off + i + 1 by omega, Int.pow_succ]
   clear f4 f5 f1 hz
   generalize (18446744073709551616 : Int) ^ (off + i) = p at *
   generalize L.getD (off + i) 0 = s at *
   generalize V 18446744073709551616 ys = Y at *
   generalize V 18446744073709551616 L = W at *
   generalize hk : hi + c1 + c2 = k at *
   have : p * (r + 18446744073709551616 * k) = p * (s + x * y + c) := by rw [ev]
   grind
  ·
   intro j hj
   simp only [List.length_cons] at hj
   rw [f5 j (by omega), getD_set _ _ _ _ hlt, if_neg (by omega)]
theorem mul_spec (a : List Int) (ha : Dig 18446744073709551616 a) : ∀ (xs : List Int) (i : Nat) (out : List Int), Dig 18446744073709551616 xs → Dig 18446744073709551616 out → out.length = a.length + i + xs.length + 1 → (∀ j, i + a.length ≤ j → out.getD j 0 = 0) →
  ∃ out', mulGo a xs i out = some out' ∧ out'.length = out.length ∧ Dig 18446744073709551616 out' ∧ V 18446744073709551616 out' = V 18446744073709551616 out + 18446744073709551616 ^ i * (V 18446744073709551616 a * V 18446744073709551616 xs)
 | [], i, out, _, ho, _, _ => ⟨out, rfl, rfl, ho, by simp [V]⟩
 | x :: xs, i, out, hx, ho, hl, hz => by
  simp only [List.length_cons] at hl
  obtain ⟨o, e1, e2, e3, e4, e5⟩ := row_spec i x hx.head.1 hx.head.2 a 0 0 out ha (by omega) (by omega) ho (by omega) (hz _ (by omega))
  obtain ⟨o', g1, g2, g3, g4⟩ := mul_spec a ha xs (i + 1) o hx.tail e3 (by omega) (fun j hj => by rw [e5 j (by omega)]; exact hz j (by omega))
  refine ⟨o', ?_, by omega, g3, ?_⟩
  ·
   simp only [mulGo]
   rw [e1]
   exact g1
  ·
   rw [g4, e4, V_cons, Nat.add_zero, Int.pow_succ]
   generalize (18446744073709551616 : Int) ^ i = p at *
   grind
theorem mul_ev (a b : List Int) (ha : Dig 18446744073709551616 a) (hb : Dig 18446744073709551616 b) (hl : a.length + b.length < 35184372088832) : Ev (fun k => nat_Mul.f k a b) (dg 18446744073709551616 (V 18446744073709551616 a * V 18446744073709551616 b)) := by
 unfold nat_Mul.f
 refine Ev.congr (fun k => if_pos (by omega)) ?_
 obtain ⟨out, e1, e2, e3, e4⟩ := mul_spec a ha b 0 (List.replicate (a.length + b.length + 1) 0) hb (Dig.replicate B_pos _) (by simp) (fun j _ => by
  simp only [List.getD_eq_getElem?_getD, List.getElem?_replicate]
  split <;> rfl)
 rw [e1]
 simp only [Option.bind_some]
 rw [V_replicate, Int.pow_zero, Int.one_mul, Int.zero_add] at e4
 have e2' : out.length = a.length + b.length + 1 := by simpa using e2
 have := cut_ev out (by omega) e3
 rw [e4] at this
 refine Ev.congr (fun k => ?_) this
 refine congrArg _ (funext fun t => ?_)
 by_cases h0 : 0 ≤ t
 ·
  by_cases h1 : t ≤ (out.length : Int)
  ·
   rw [if_pos ⟨h0, h1⟩, if_pos h0, if_pos h1]
  ·
   rw [if_neg (fun h => h1 h.2), if_pos h0, if_neg h1]
 ·
  rw [if_neg (fun h => h0 h.1), if_neg h0]
theorem bitLenAux_isBits : ∀ (f x : Nat), x < 2 ^ f → IsBits (x : Int) (Lib.bitLenAux f x)
 | 0, x, h => by
  obtain rfl : x = 0 := by simpa using h
  exact isBits_zero
 | f + 1, x, h => by
  simp only [Lib.bitLenAux]
  split
  ·
   rename_i e
   subst e
   exact isBits_zero
  ·
   rename_i e
   have ih := bitLenAux_isBits f (x / 2) (by rw [Nat.pow_succ] at h; omega)
   have := IsBits.half (v := (x : Int)) (n := Lib.bitLenAux f (x / 2)) (by omega) (by
    have e2 : ((x : Int) / 2) = ((x / 2 : Nat) : Int) := by omega
    rw [e2]
    exact ih)
   have e3 : (((1 + Lib.bitLenAux f (x / 2) : Nat)) : Int) = ((Lib.bitLenAux f (x / 2) : Nat) : Int) + 1 := by omega
   rw [e3]
   exact this
theorem len64_some {x : Int} (h0 : 0 ≤ x) (h1 : x < 18446744073709551616) : bits_Len64.f x = some (bitsOf x) := by
 unfold bits_Len64.f
 rw [if_pos ⟨h0, by omega⟩]
 congr 1
 have := bitLenAux_isBits 64 x.toNat (by omega)
 rw [Int.toNat_of_nonneg h0] at this
 exact bitsOf_eq this
theorem bitsOf_top {l : List Int} (h : Dig 18446744073709551616 l) (hne : l ≠ []) (ht : l.getD (l.length - 1) 0 ≠ 0) : bitsOf (V 18446744073709551616 l) = 64 * (l.length - 1 : Nat) + bitsOf (l.getD (l.length - 1) 0) := by
 have g := h.getD B_pos (l.length - 1)
 have hp : 0 < bitsOf (l.getD (l.length - 1) 0) := bitsOf_pos (by omega)
 have := IsBits.last (B := 18446744073709551616) (s := 64) (by decide) h hne (bitsOf_spec g.1) (by omega)
 exact (bitsOf_eq this).symm
theorem bits_ev (a : List Int) (ha : Dig 18446744073709551616 a) (hl : a.length ≤ 35184372088832) : Ev (fun k => nat_Bits.f k a) (bitsOf (V 18446744073709551616 a)) := by
 unfold nat_Bits.f
 refine Ev.bind (size_ev a (by omega)) ?_
 have hs := szN_le a
 have hv := trim_val 18446744073709551616 a
 have hn := trim_nrm (B := 18446744073709551616) ha
 have ln : (trim a).length = szN a := by unfold trim; rw [List.length_take]; omega
 by_cases h0 : szN a = 0
 ·
  refine Ev.congr (fun k => if_pos (by omega)) ?_
  have : trim a = [] := List.length_eq_zero_iff.1 (by omega)
  rw [← hv, this]
  exact Ev.now _
 ·
  refine Ev.congr (fun k => if_neg (by omega)) ?_
  have e1 : wrap64 ((szN a : Int) - 1) = ((szN a - 1 : Nat) : Int) := by rw [w64 (by omega) (by omega)]; omega
  have ht : a.getD (szN a - 1) 0 ≠ 0 := (szN_top a).resolve_left h0
  have gt : (trim a).getD ((trim a).length - 1) 0 = a.getD (szN a - 1) 0 := by
   unfold trim
   rw [List.length_take, getD_take, Nat.min_eq_left hs, if_pos (by omega)]
  have bt := bitsOf_top hn.1 (by intro h; rw [h] at ln; simp at ln; omega) (by rw [gt]; exact ht)
  rw [gt, ln, hv] at bt
  have ga := ha.getD B_pos (szN a - 1)
  have b64 : bitsOf (a.getD (szN a - 1) 0) ≤ 64 := bitsOf_le ga.1 (n := 64) (by omega)
  have b0 := bitsOf_nonneg (a.getD (szN a - 1) 0)
  refine Ev.congr (f := fun _ => some (bitsOf (V 18446744073709551616 a))) (fun k => ?_) (Ev.now _)
  rw [e1, if_pos (by omega), if_pos (by omega), rd_nat, len64_some ga.1 ga.2]
  simp only [Option.bind_some]
  rw [w64 (x := 64 * ((szN a - 1 : Nat) : Int)) (by omega) (by omega), w64 (by omega) (by omega), bt]
end Go.Proofs.YtjgdpjbkmcjbcaaDoor.PG
end
section
namespace Go.Proofs.YtjgdpjbkmcjbcaaDoor.PG
open Go.RowKit Go.Proofs.YtjgdpjbkmcjbcaaDoorW.PrintWords Go.Proofs.YtjgdpjbkmcjbcaaDoorW.PrintLast Go.Proofs.YtjgdpjbkmcjbcaaDoor.Num
set_option linter.unusedVariables false
structure Nm (a : List Int) (v : Int) (n : Nat) : Prop where
 dig : Dig 18446744073709551616 a
 val : V 18446744073709551616 a = v
 len : a.length ≤ n
theorem Nm.nonneg {a v n} (h : Nm a v n) : 0 ≤ v := h.val ▸ V_nonneg B_pos h.dig
theorem Nm.lt {a v n} (h : Nm a v n) : v < 18446744073709551616 ^ n := h.val ▸ Int.lt_of_lt_of_le (V_lt B_pos h.dig) (pow_le B_pos h.len)
theorem Nm.dg {v : Int} {n : Nat} (h0 : 0 ≤ v) (h1 : v < 18446744073709551616 ^ n) : Nm (dg 18446744073709551616 v) v n := ⟨dg_dig one_lt_B v, dg_val one_lt_B h0, dg_len_le one_lt_B h0 h1⟩
theorem Nm.dg_le {a v n w} (h : Nm a v n) (h0 : 0 ≤ w) (h1 : w ≤ v) : Nm (Num.dg 18446744073709551616 w) w n := Nm.dg h0 (Int.lt_of_le_of_lt h1 h.lt)
theorem Nm.mono {a v n m} (h : Nm a v n) (hm : n ≤ m) : Nm a v m := ⟨h.dig, h.val, Nat.le_trans h.len hm⟩
theorem Nm.one {x : Int} {n : Nat} (h0 : 0 ≤ x) (h1 : x < 18446744073709551616) (hn : 1 ≤ n) : Nm [x] x n := ⟨Dig.cons h0 h1 (Dig.nil _), by simp [V], by simpa using hn⟩
theorem Nm.add {a b v w n m} (p : Nat) (h : Nm a v n) (g : Nm b w m) (hn : n ≤ p) (hm : m ≤ p) (hp : p < 35184372088832) : Ev (fun k => nat_Add.f k a b) (Num.dg 18446744073709551616 (v + w)) ∧ Nm (Num.dg 18446744073709551616 (v + w)) (v + w) (p + 1) := by
 have h1 := h.len
 have h2 := g.len
 have e := add_ev a b h.dig g.dig (by omega) (by omega)
 rw [h.val, g.val] at e
 have l1 := (h.mono hn).lt
 have l2 := (g.mono hm).lt
 have n1 := h.nonneg
 have n2 := g.nonneg
 have pp := pow_pos' B_pos p
 refine ⟨e, Nm.dg (by omega) ?_⟩
 rw [Int.pow_succ]
 omega
theorem Nm.sub {a b v w n m} (p : Nat) (h : Nm a v n) (g : Nm b w m) (hn : n ≤ p) (hm : m ≤ p) (hp : p < 35184372088832) : Ev (fun k => nat_Sub.f k a b) (Num.dg 18446744073709551616 ((v - w).natAbs : Int)) ∧ Nm (Num.dg 18446744073709551616 ((v - w).natAbs : Int)) ((v - w).natAbs : Int) p := by
 have h1 := h.len
 have h2 := g.len
 have e := sub_ev a b h.dig g.dig (by omega) (by omega)
 rw [h.val, g.val] at e
 have l1 := (h.mono hn).lt
 have l2 := (g.mono hm).lt
 have n1 := h.nonneg
 have n2 := g.nonneg
 exact ⟨e, Nm.dg (by omega) (by omega)⟩
theorem Nm.mul {a b v w n m} (h : Nm a v n) (g : Nm b w m) (hp : n + m < 35184372088832) : Ev (fun k => nat_Mul.f k a b) (Num.dg 18446744073709551616 (v * w)) ∧ Nm (Num.dg 18446744073709551616 (v * w)) (v * w) (n + m) := by
 have h1 := h.len
 have h2 := g.len
 have e := mul_ev a b h.dig g.dig (by omega)
 rw [h.val, g.val] at e
 have n1 := h.nonneg
 have n2 := g.nonneg
 refine ⟨e, Nm.dg (Int.mul_nonneg n1 n2) ?_⟩
 rw [Int.pow_add]
 have l1 := h.lt
 have l2 := g.lt
 have pp := pow_pos' B_pos n
 calc v * w ≤ v * 18446744073709551616 ^ m := Int.mul_le_mul_of_nonneg_left (by omega) n1
  _ < 18446744073709551616 ^ n * 18446744073709551616 ^ m := Int.mul_lt_mul_of_pos_right l1 (pow_pos' B_pos m)
theorem Nm.norm {a v n} (h : Nm a v n) (hp : n ≤ 17592186044416) : Ev (fun k => nat_Norm.f k a) (Num.dg 18446744073709551616 v) ∧ Nm (Num.dg 18446744073709551616 v) v n := by
 have h1 := h.len
 have e := norm_ev a (by omega) h.dig
 rw [h.val] at e
 exact ⟨e, h.dg_le h.nonneg (Int.le_refl _)⟩
theorem Nm.cmp {a b v w n m} (h : Nm a v n) (g : Nm b w m) (hn : n ≤ 4611686018427387904) (hm : m ≤ 4611686018427387904) : Ev (fun k => nat_Cmp.f k a b) (sgn (v - w)) := by
 have h1 := h.len
 have h2 := g.len
 have e := cmp_ev a b h.dig g.dig (by omega) (by omega)
 rwa [h.val, g.val] at e
theorem Nm.bits {a v n} (h : Nm a v n) (hn : n ≤ 35184372088832) : Ev (fun k => nat_Bits.f k a) (bitsOf v) := by
 have h1 := h.len
 have e := bits_ev a h.dig (by omega)
 rwa [h.val] at e
theorem Nm.same {v w : Int} {n : Nat} (e : v = w) (h : Nm (Num.dg 18446744073709551616 v) v n) (hn : n ≤ 4611686018427387904) : Ev (fun k => vernierref01_Same.f k (Num.dg 18446744073709551616 v) (Num.dg 18446744073709551616 w)) true :=
 same_true (by rw [e]) (Nat.le_trans h.len hn)
end Go.Proofs.YtjgdpjbkmcjbcaaDoor.PG
end
section
namespace Go.Proofs.YtjgdpjbkmcjbcaaDoor.PG
open Go.RowKit Go.Proofs.YtjgdpjbkmcjbcaaDoorW.PrintWords Go.Proofs.YtjgdpjbkmcjbcaaDoorW.PrintLast Go.Proofs.YtjgdpjbkmcjbcaaDoorW.PrintMore Go.Proofs.YtjgdpjbkmcjbcaaDoor.Num
set_option linter.unusedVariables false
set_option linter.unusedSimpArgs false
theorem ediv_two {x y z : Int} (hy : 0 < y) : x / y / z = x / (y * z) := by rw [Int.ediv_ediv, if_neg (by omega), Int.sub_zero]
theorem gpast {l : List Int} {n : Nat} (h : l.length ≤ n) : l.getD n 0 = 0 := by rw [List.getD_eq_getElem?_getD, List.getElem?_eq_none h]; rfl
theorem two64 {s : Nat} (hs : s ≤ 64) : (2 : Int) ^ s * 2 ^ (64 - s) = 18446744073709551616 := by
 rw [← Int.pow_add, show s + (64 - s) = 64 by omega]
 decide
theorem mod_shift {P Q x : Int} (hP : 0 < P) (hQ : 0 < Q) (h : P * Q = 18446744073709551616) (h0 : 0 ≤ x) : x * P % 18446744073709551616 = P * (x % Q) := by
 have e := Int.emod_add_mul_ediv x Q
 have m0 := Int.emod_nonneg x (show Q ≠ 0 by omega)
 have m1 := Int.emod_lt_of_pos x hQ
 have e1 : x * P = P * (x % Q) + 18446744073709551616 * (x / Q) := by
  rw [← h]
  have : P * (x % Q + Q * (x / Q)) = P * x := by rw [e]
  grind
 rw [e1, Int.add_mul_emod_self_left, Int.emod_eq_of_lt (Int.mul_nonneg (by omega) m0)]
 have : P * (x % Q) ≤ P * (Q - 1) := Int.mul_le_mul_of_nonneg_left (by omega) (by omega)
 have e2 : P * (Q - 1) = 18446744073709551616 - P := by rw [Int.mul_sub, h, Int.mul_one]
 omega
theorem div_two (x : Int) (s : Nat) (hs : s < 64) : x / 2 / 2 ^ (63 - s) = x / 2 ^ (64 - s) := by
 have e : (2 : Int) ^ (64 - s) = 2 * 2 ^ (63 - s) := by
  rw [show 64 - s = 63 - s + 1 by omega, Int.pow_succ, Int.mul_comm]
 rw [e, ediv_two (by decide)]
theorem shl_u64 {x : Int} {s : Nat} (h : s ≤ 64) : shl .u64 x (s : Int) = x * 2 ^ s % 18446744073709551616 := by
 unfold shl
 rw [show IntKind.u64.bits = 64 from rfl, Int.toNat_natCast, Nat.min_eq_left h, IntKind.wrap_u64]
theorem shr_u64 {x : Int} {s : Nat} (h : s ≤ 64) : shr .u64 x (s : Int) = x / 2 ^ s := by
 unfold shr
 rw [show IntKind.u64.bits = 64 from rfl, Int.toNat_natCast, Nat.min_eq_left h]
theorem back63 {s : Nat} (h : s < 64) : IntKind.u64.wrap (63 - (s : Int)) = ((63 - s : Nat) : Int) := by rw [u64w (by omega) (by omega)]; omega
theorem or_high {s : Nat} {x c : Int} (hx0 : 0 ≤ x) (hx : x < 18446744073709551616) (hm : x % 2 ^ s = 0) (hc0 : 0 ≤ c) (hc : c < 2 ^ s) (hc1 : c < 18446744073709551616) : Go.bits .or .u64 x c = x + c :=
 bits_join .u64 64 (by decide) wraps_u64 s x c hx0 hm hx hc0 hc hc1
theorem or_low {s : Nat} {x c : Int} (hx0 : 0 ≤ x) (hx : x < 18446744073709551616) (hm : x % 2 ^ s = 0) (hc0 : 0 ≤ c) (hc : c < 2 ^ s) (hc1 : c < 18446744073709551616) : Go.bits .or .u64 c x = c + x :=
 bits_join_low .u64 64 (by decide) wraps_u64 s c x hc0 hc hc1 hx0 hm hx
end Go.Proofs.YtjgdpjbkmcjbcaaDoor.PG
end
