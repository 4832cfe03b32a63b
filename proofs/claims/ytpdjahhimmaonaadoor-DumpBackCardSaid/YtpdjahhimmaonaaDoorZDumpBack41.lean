/- What nat's functions compute: sizes, orders, sums, differences, copies without zeros on top. -/
import Derived.WalkSpells
import Derived.Lib.SliceRun
import Derived.Test.YtpdjahhimmaonaaDoorZDumpBack40
import Derived.Sort.QuietThIn
import Derived.Sort.QuietTacIn
import Derived.Sort.BigQuietIn
import Derived.OrdersIn
import Derived.RangeFuncNested
import Derived.RangeFuncBound
import Derived.RangeFuncCalls
import Derived.RangeFuncLeaves
import Derived.Shelf.Abstract
import Derived.Shelf.RegionOpen
import Derived.OwnWalkIn
import Derived.TacticsInMore
import Derived.LoopNIn
import Derived.LoopIn
import Derived.Lib.Hide
import Derived.Outline
import Derived.Test.YtpdjahhimmaonaaDoorZDumpBack35
namespace Go.Proofs.YtpdjahhimmaonaaDoor.PE
open Go.RowKit Go.Proofs.YtpdjahhimmaonaaDoorW.PrintWords Go.Proofs.YtpdjahhimmaonaaDoorW.PrintLast Go.Proofs.YtpdjahhimmaonaaDoor.Num
set_option linter.unusedVariables false
set_option linter.unusedSimpArgs false
theorem w64 {x : Int} (h0 : -9223372036854775808 ≤ x) (h1 : x ≤ 9223372036854775807) : wrap64 x = x := by unfold wrap64; omega
theorem u64w {x : Int} (h0 : 0 ≤ x) (h1 : x < 18446744073709551616) : IntKind.u64.wrap x = x := by rw [IntKind.wrap_u64]; omega
theorem rd_nat (l : List Int) (n : Nat) : rd l (n : Int) = l.getD n 0 := by simp [rd]
theorem one_lt_B : (1 : Int) < 18446744073709551616 := by decide
theorem B_pos : (0 : Int) < 18446744073709551616 := by decide
theorem size_loop (l : List Int) (hl : l.length ≤ 4611686018427387904) : ∀ n : Nat, n ≤ l.length → (∀ i, n ≤ i → l.getD i 0 = 0) → Ev (fun k => nat_size.l0 k l (n : Int)) (szN l : Int)
  | 0, _, hz => by
    have e : (0 : Nat) = szN l := szN_uniq l hz (.inl rfl)
    rw [← e]
    exact Ev.step (f := fun _ => some _) (fun k => by simp only [nat_size.l0]; rw [if_neg (by omega)]) (Ev.now _)
  | n + 1, hn, hz => by
    have ew : wrap64 (((n + 1 : Nat) : Int) - 1) = (n : Int) := by rw [w64 (by omega) (by omega)]; omega
    by_cases h0 : l.getD n 0 = 0
    · refine Ev.step (f := fun k => nat_size.l0 k l (n : Int)) (fun k => ?_) (size_loop l hl n (by omega) (fun i hi => ?_))
      · simp only [nat_size.l0]
        rw [if_pos (by omega), ew, if_pos (by omega), if_pos (by omega), rd_nat, if_pos h0]
      · by_cases e : i = n
        · rw [e]; exact h0
        · exact hz i (by omega)
    · have e : n + 1 = szN l := szN_uniq l hz (.inr (by simpa using h0))
      rw [← e]
      refine Ev.step (f := fun _ => some _) (fun k => ?_) (Ev.now _)
      simp only [nat_size.l0]
      rw [if_pos (by omega), ew, if_pos (by omega), if_pos (by omega), rd_nat, if_neg h0]
theorem size_ev (l : List Int) (hl : l.length ≤ 4611686018427387904) : Ev (fun k => nat_size.f k l) (szN l : Int) :=
  Ev.congr (fun k => rfl) (size_loop l hl l.length (Nat.le_refl _) (fun i hi => by rw [List.getD_eq_getElem?_getD, List.getElem?_eq_none hi]; rfl))
theorem at_some (l : List Int) (i : Nat) : nat_at.f l (i : Int) = some (l.getD i 0) := by
  unfold nat_at.f
  by_cases h : i < l.length
  · rw [if_pos (by omega), if_pos (by omega), rd_nat]
  · rw [if_neg (by omega), List.getD_eq_getElem?_getD, List.getElem?_eq_none (by omega)]; rfl
theorem cut_ev (l : List Int) (hl : l.length ≤ 4611686018427387904) (hd : Dig 18446744073709551616 l) :
    Ev (fun k => (nat_size.f k l).bind fun t => if 0 ≤ t then (if t ≤ (l.length : Int) then some (l.take (t : Int).toNat) else none) else none) (dg 18446744073709551616 (V 18446744073709551616 l)) := by
  refine Ev.bind (size_ev l hl) ?_
  have h1 := szN_le l
  refine Ev.congr (fun k => (if_pos (by omega)).trans (if_pos (by omega))) ?_
  rw [Int.toNat_natCast, ← trim_dg one_lt_B hd]
  exact Ev.now _
theorem add_loop (a b : List Int) (ha : Dig 18446744073709551616 a) (hb : Dig 18446744073709551616 b) (M : Nat) (hM : M ≤ 35184372088832) (hv : Aside0 (V 18446744073709551616 a + V 18446744073709551616 b < 18446744073709551616 ^ M)) : ∀ (d j : Nat) (out : List Int) (c : Int), M = j + d → out.length = M → Dig 18446744073709551616 out → 0 ≤ c → c ≤ 1 →
    Aside0 (V 18446744073709551616 (out.take j) + c * 18446744073709551616 ^ j = V 18446744073709551616 (a.take j) + V 18446744073709551616 (b.take j)) →
    Ev (fun k => nat_Add.l0 k a b out c (M : Int) (j : Int)) (dg 18446744073709551616 (V 18446744073709551616 a + V 18446744073709551616 b))
  | 0, j, out, c, hj, hl, hd, h0, h1, hI => by
    obtain rfl : M = j := by omega
    replace hv := hv.out
    replace hI := hI.out
    have hf : V 18446744073709551616 out = V 18446744073709551616 a + V 18446744073709551616 b := by
      have e1 := V_take_all 18446744073709551616 out (n := M) (by omega)
      have hla : V 18446744073709551616 a = V 18446744073709551616 (a.take M) + 18446744073709551616 ^ M * V 18446744073709551616 (a.drop M) := by
        by_cases h : M ≤ a.length
        · exact V_split _ a h
        · rw [List.take_of_length_le (by omega), V_drop_all _ a (by omega)]; omega
      have hlb : V 18446744073709551616 b = V 18446744073709551616 (b.take M) + 18446744073709551616 ^ M * V 18446744073709551616 (b.drop M) := by
        by_cases h : M ≤ b.length
        · exact V_split _ b h
        · rw [List.take_of_length_le (by omega), V_drop_all _ b (by omega)]; omega
      have pa := V_nonneg B_pos (ha.drop M)
      have pb := V_nonneg B_pos (hb.drop M)
      have qa := V_nonneg B_pos (ha.take M)
      have qb := V_nonneg B_pos (hb.take M)
      have po := V_nonneg B_pos (hd.take M)
      have pM := pow_pos' B_pos M
      have za : V 18446744073709551616 (a.drop M) = 0 := by
        by_cases h : 0 < V 18446744073709551616 (a.drop M)
        · have : 18446744073709551616 ^ M * 1 ≤ 18446744073709551616 ^ M * V 18446744073709551616 (a.drop M) := Int.mul_le_mul_of_nonneg_left (by omega) (by omega)
          have : 0 ≤ 18446744073709551616 ^ M * V 18446744073709551616 (b.drop M) := Int.mul_nonneg (by omega) pb
          omega
        · omega
      have zb : V 18446744073709551616 (b.drop M) = 0 := by
        by_cases h : 0 < V 18446744073709551616 (b.drop M)
        · have : 18446744073709551616 ^ M * 1 ≤ 18446744073709551616 ^ M * V 18446744073709551616 (b.drop M) := Int.mul_le_mul_of_nonneg_left (by omega) (by omega)
          have : 0 ≤ 18446744073709551616 ^ M * V 18446744073709551616 (a.drop M) := Int.mul_nonneg (by omega) pa
          omega
        · omega
      rw [za] at hla
      rw [zb] at hlb
      have hc : c = 0 ∨ c = 1 := by omega
      rcases hc with rfl | rfl
      · omega
      · exfalso; omega
    refine Ev.step (f := fun k => (nat_size.f k out).bind fun t => if 0 ≤ t then (if t ≤ (out.length : Int) then some (out.take (t : Int).toNat) else none) else none) (fun k => ?_) ?_
    · simp only [nat_Add.l0]; rw [if_neg (by omega)]
    · have := cut_ev out (by omega) hd
      rw [hf] at this
      exact this
  | d + 1, j, out, c, hj, hl, hd, h0, h1, hI => by
    have ga := ha.getD B_pos j
    have gb := hb.getD B_pos j
    have ew : wrap64 ((j : Int) + 1) = ((j + 1 : Nat) : Int) := by rw [w64 (by omega) (by omega)]; omega
    have hs := Int.emod_add_mul_ediv (a.getD j 0 + b.getD j 0 + c) 18446744073709551616
    have hm0 := Int.emod_nonneg (a.getD j 0 + b.getD j 0 + c) (show (18446744073709551616 : Int) ≠ 0 by decide)
    have hm1 := Int.emod_lt_of_pos (a.getD j 0 + b.getD j 0 + c) B_pos
    have hf : bits_Add64.f (a.getD j 0) (b.getD j 0) c = some ((a.getD j 0 + b.getD j 0 + c) % 18446744073709551616, (a.getD j 0 + b.getD j 0 + c) / 18446744073709551616) := by
      unfold bits_Add64.f
      rw [if_pos ⟨ga.1, gb.1, h0, h1⟩]
    obtain ⟨m, hm⟩ : ∃ m, (a.getD j 0 + b.getD j 0 + c) % 18446744073709551616 = m := ⟨_, rfl⟩
    obtain ⟨q, hq⟩ : ∃ q, (a.getD j 0 + b.getD j 0 + c) / 18446744073709551616 = q := ⟨_, rfl⟩
    rw [hm, hq] at hf hs
    rw [hm] at hm0 hm1
    clear hm hq
    refine Ev.step (f := fun k => nat_Add.l0 k a b (out.set j m) q (M : Int) ((j + 1 : Nat) : Int)) (fun k => ?_)
      (add_loop a b ha hb M hM hv d (j + 1) _ _ (by omega) (by simpa using hl) (hd.set j hm0 hm1) (by omega) (by omega) ⟨?_⟩)
    · simp only [nat_Add.l0]
      rw [if_pos (by omega), at_some, at_some]
      simp only [Option.bind_some]
      rw [hf]
      simp only [Option.bind_some]
      rw [if_pos (by omega), if_pos (by omega), ew, Int.toNat_natCast]
    · have hI := hI.out
      rw [V_take_set_succ _ _ _ _ (by omega), V_take_succ, V_take_succ, Int.pow_succ]
      clear hv
      generalize a.getD j 0 = x at *
      generalize b.getD j 0 = y at *
      generalize (18446744073709551616 : Int) ^ j = p at *
      have : p * (m + 18446744073709551616 * q) = p * (x + y + c) := by rw [hs]
      grind
theorem add_ev (a b : List Int) (ha : Dig 18446744073709551616 a) (hb : Dig 18446744073709551616 b) (hla : a.length < 35184372088832) (hlb : b.length < 35184372088832) :
    Ev (fun k => nat_Add.f k a b) (dg 18446744073709551616 (V 18446744073709551616 a + V 18446744073709551616 b)) := by
  have main : ∀ M : Nat, a.length < M → b.length < M → M ≤ 35184372088832 → V 18446744073709551616 a + V 18446744073709551616 b < 18446744073709551616 ^ M := by
    intro M h1 h2 _
    have va := V_lt B_pos ha
    have vb := V_lt B_pos hb
    have pa := pow_le (B := 18446744073709551616) B_pos (m := a.length) (n := M - 1) (by omega)
    have pb := pow_le (B := 18446744073709551616) B_pos (m := b.length) (n := M - 1) (by omega)
    have := pow_succ_pred 18446744073709551616 (n := M) (by omega)
    have := pow_pos' B_pos (M - 1)
    omega
  unfold nat_Add.f
  by_cases h : a.length < b.length
  · refine Ev.congr (fun k => if_pos (by omega)) ?_
    have ew : wrap64 ((b.length : Int) + 1) = ((b.length + 1 : Nat) : Int) := by rw [w64 (by omega) (by omega)]; omega
    refine Ev.congr (f := fun k => nat_Add.l0 k a b (List.replicate (b.length + 1) 0) 0 ((b.length + 1 : Nat) : Int) ((0 : Nat) : Int)) (fun k => ?_)
      (add_loop a b ha hb (b.length + 1) (by omega) ⟨main _ (by omega) (by omega) (by omega)⟩ (b.length + 1) 0 _ 0 (by omega) (by simp) (Dig.replicate B_pos _) (by omega) (by omega) ⟨by simp [V]⟩)
    rw [ew, if_pos (by omega), if_pos (by omega)]
    simp
  · refine Ev.congr (fun k => if_neg (by omega)) ?_
    have ew : wrap64 ((a.length : Int) + 1) = ((a.length + 1 : Nat) : Int) := by rw [w64 (by omega) (by omega)]; omega
    refine Ev.congr (f := fun k => nat_Add.l0 k a b (List.replicate (a.length + 1) 0) 0 ((a.length + 1 : Nat) : Int) ((0 : Nat) : Int)) (fun k => ?_)
      (add_loop a b ha hb (a.length + 1) (by omega) ⟨main _ (by omega) (by omega) (by omega)⟩ (a.length + 1) 0 _ 0 (by omega) (by simp) (Dig.replicate B_pos _) (by omega) (by omega) ⟨by simp [V]⟩)
    rw [ew, if_pos (by omega), if_pos (by omega)]
    simp
end Go.Proofs.YtpdjahhimmaonaaDoor.PE
