/- What the reference's naturals (digits of 16 bits) compute: cut, Of, Limbs, Cmp. -/
import Derived.Test.YtfmdjhfnbiekaaaQFaddSums13
import Derived.Test.YtfmdjhfnbiekaaaQFaddSums32
import Derived.Test.YtfmdjhfnbiekaaaQFaddSums34
namespace Go.Proofs.Ytfmdjhfnbiekaaa.PA
open Go.RowKit Go.Proofs.YtfmdjhfnbiekaaaW.PrintWords Go.Proofs.YtfmdjhfnbiekaaaW.PrintLast Go.Proofs.Ytfmdjhfnbiekaaa.Num
set_option linter.unusedVariables false
set_option linter.unusedSimpArgs false
theorem one_lt_D : (1 : Int) < 65536 := by decide
theorem D_pos : (0 : Int) < 65536 := by decide
theorem tmod_nn {x y : Int} (h : 0 ≤ x) : Int.tmod x y = x % y := Int.tmod_eq_emod_of_nonneg h
theorem tdiv_nn {x y : Int} (h : 0 ≤ x) : Int.tdiv x y = x / y := Int.tdiv_eq_ediv_of_nonneg h
theorem getD_out {l : List Int} {n : Nat} (h : l.length ≤ n) : l.getD n 0 = 0 := by rw [List.getD_eq_getElem?_getD, List.getElem?_eq_none h]; rfl
theorem rcut_loop (l : List Int) (hl : l.length ≤ 4611686018427387904) (hd : Dig 65536 l) : ∀ n : Nat, n ≤ l.length → (∀ i, n ≤ i → l.getD i 0 = 0) → Ev (fun k => vernierref01_cut.l0 k l (n : Int)) (dg 65536 (V 65536 l))
  | 0, _, hz => by
    have e : (0 : Nat) = szN l := szN_uniq l hz (.inl rfl)
    refine Ev.step (f := fun _ => some (dg 65536 (V 65536 l))) (fun k => ?_) (Ev.now _)
    simp only [vernierref01_cut.l0]
    rw [if_neg (by omega), if_pos (by omega), if_pos (by omega), ← trim_dg one_lt_D hd]
    unfold trim
    rw [← e]
    rfl
  | n + 1, hn, hz => by
    have ew : wrap64 (((n + 1 : Nat) : Int) - 1) = (n : Int) := by rw [w64 (by omega) (by omega)]; omega
    by_cases h0 : l.getD n 0 = 0
    · refine Ev.step (f := fun k => vernierref01_cut.l0 k l (n : Int)) (fun k => ?_) (rcut_loop l hl hd n (by omega) (fun i hi => ?_))
      · simp only [vernierref01_cut.l0]
        rw [if_pos (by omega), ew, if_pos (by omega), if_pos (by omega), rd_nat, if_pos h0]
      · by_cases e : i = n
        · rw [e]; exact h0
        · exact hz i (by omega)
    · have e : n + 1 = szN l := szN_uniq l hz (.inr (by simpa using h0))
      refine Ev.step (f := fun _ => some (dg 65536 (V 65536 l))) (fun k => ?_) (Ev.now _)
      simp only [vernierref01_cut.l0]
      rw [if_pos (by omega), ew, if_pos (by omega), if_pos (by omega), rd_nat, if_neg h0, if_pos (by omega), if_pos (by omega), ← trim_dg one_lt_D hd]
      unfold trim
      rw [← e, Int.toNat_natCast]
theorem rcut_ev (l : List Int) (hl : l.length ≤ 4611686018427387904) (hd : Dig 65536 l) : Ev (fun k => vernierref01_cut.f k l) (dg 65536 (V 65536 l)) :=
  Ev.congr (fun k => rfl) (rcut_loop l hl hd l.length (Nat.le_refl _) (fun i hi => getD_out hi))
theorem rcut_ev' (l : List Int) (hl : l.length ≤ 4611686018427387904) (hd : Dig 65536 l) : Ev (fun k => (vernierref01_cut.f k l).bind fun t => some t) (dg 65536 (V 65536 l)) :=
  Ev.bind (rcut_ev l hl hd) (Ev.now _)
theorem pow_DB : ∀ i : Nat, (65536 : Int) ^ (4 * i) = 18446744073709551616 ^ i
  | 0 => rfl
  | i + 1 => by
    have := pow_DB i
    rw [show 4 * (i + 1) = 4 * i + 1 + 1 + 1 + 1 by omega, Int.pow_succ, Int.pow_succ, Int.pow_succ, Int.pow_succ, Int.pow_succ, this]
    omega
theorem V4 (d0 d1 d2 d3 : Int) : V 65536 [d0, d1, d2, d3] = d0 + 65536 * (d1 + 65536 * (d2 + 65536 * d3)) := by simp [V]
theorem of_digit {x : Int} (h0 : 0 ≤ x) (h1 : x < 18446744073709551616) : wrap64 (Int.tmod x 65536) = x % 65536 ∧ IntKind.u64.wrap (Int.tdiv x 65536) = x / 65536 := by
  rw [tmod_nn h0, tdiv_nn h0]
  exact ⟨w64 (by omega) (by omega), u64w (by omega) (by omega)⟩
theorem of_limb (l out : List Int) (i : Nat) (x : Int) (h0 : 0 ≤ x) (h1 : x < 18446744073709551616) (ho : out.length + 4 ≤ 17592186044416) (hi : i < 4611686018427387904) {v : List Int}
    (h : Ev (fun k => vernierref01_Of.l0 k l (out ++ [x % 65536, x / 65536 % 65536, x / 65536 / 65536 % 65536, x / 65536 / 65536 / 65536 % 65536]) ((i + 1 : Nat) : Int)) v) :
    Ev (fun k => vernierref01_Of.l1 k l out (i : Int) x 0) v := by
  have ew : wrap64 ((i : Int) + 1) = ((i + 1 : Nat) : Int) := by rw [w64 (by omega) (by omega)]; omega
  obtain ⟨a0, b0⟩ := of_digit h0 h1
  obtain ⟨a1, b1⟩ := of_digit (x := x / 65536) (by omega) (by omega)
  obtain ⟨a2, b2⟩ := of_digit (x := x / 65536 / 65536) (by omega) (by omega)
  obtain ⟨a3, b3⟩ := of_digit (x := x / 65536 / 65536 / 65536) (by omega) (by omega)
  have s1 : wrap64 (0 + 1) = 1 := (w64 (x := 0 + 1) (by omega) (by omega)).trans (by omega)
  have s2 : wrap64 (1 + 1) = 2 := (w64 (x := 1 + 1) (by omega) (by omega)).trans (by omega)
  have s3 : wrap64 (2 + 1) = 3 := (w64 (x := 2 + 1) (by omega) (by omega)).trans (by omega)
  have s4 : wrap64 (3 + 1) = 4 := (w64 (x := 3 + 1) (by omega) (by omega)).trans (by omega)
  refine Ev.step (f := fun k => vernierref01_Of.l1 k l (out ++ [x % 65536]) (i : Int) (x / 65536) 1) (fun k => ?_) ?_
  · simp only [vernierref01_Of.l1]
    rw [if_pos (by decide), if_pos (by omega), a0, b0, s1]
  refine Ev.step (f := fun k => vernierref01_Of.l1 k l (out ++ [x % 65536, x / 65536 % 65536]) (i : Int) (x / 65536 / 65536) 2) (fun k => ?_) ?_
  · simp only [vernierref01_Of.l1]
    rw [if_pos (by decide), if_pos (by simp; omega), a1, b1, s2, List.append_assoc]
    rfl
  refine Ev.step (f := fun k => vernierref01_Of.l1 k l (out ++ [x % 65536, x / 65536 % 65536, x / 65536 / 65536 % 65536]) (i : Int) (x / 65536 / 65536 / 65536) 3) (fun k => ?_) ?_
  · simp only [vernierref01_Of.l1]
    rw [if_pos (by decide), if_pos (by simp; omega), a2, b2, s3, List.append_assoc]
    rfl
  refine Ev.step (f := fun k => vernierref01_Of.l1 k l (out ++ [x % 65536, x / 65536 % 65536, x / 65536 / 65536 % 65536, x / 65536 / 65536 / 65536 % 65536]) (i : Int) (x / 65536 / 65536 / 65536 / 65536) 4) (fun k => ?_) ?_
  · simp only [vernierref01_Of.l1]
    rw [if_pos (by decide), if_pos (by simp; omega), a3, b3, s4, List.append_assoc]
    rfl
  refine Ev.step (fun k => ?_) h
  simp only [vernierref01_Of.l1]
  rw [if_neg (by decide), ew]
theorem of_loop (l : List Int) (hd : Dig 18446744073709551616 l) (hl : l.length ≤ 4398046511103) : ∀ (d i : Nat) (out : List Int), l.length = i + d → out.length = 4 * i → Dig 65536 out → V 65536 out = V 18446744073709551616 (l.take i) →
    Ev (fun k => vernierref01_Of.l0 k l out (i : Int)) (dg 65536 (V 18446744073709551616 l))
  | 0, i, out, hi, ho, hD, hV => by
    refine Ev.step (f := fun k => (vernierref01_cut.f k out).bind fun t => some t) (fun k => ?_) ?_
    · simp only [vernierref01_Of.l0]
      rw [if_neg (by omega)]
    · rw [V_take_all _ _ (by omega)] at hV
      rw [← hV]
      exact rcut_ev' out (by omega) hD
  | d + 1, i, out, hi, ho, hD, hV => by
    have g := hd.getD B_pos i
    refine Ev.step (f := fun k => vernierref01_Of.l1 k l out (i : Int) (l.getD i 0) 0) (fun k => ?_) ?_
    · simp only [vernierref01_Of.l0]
      rw [if_pos (by omega), if_pos (by omega), rd_nat]
    refine of_limb l out i _ g.1 g.2 (by omega) (by omega) (of_loop l hd hl d (i + 1) _ (by omega) (by simp; omega) ?_ ?_)
    · refine hD.append (Dig.cons (by omega) (by omega) (Dig.cons (by omega) (by omega) (Dig.cons (by omega) (by omega) (Dig.cons (by omega) (by omega) (Dig.nil _)))))
    · rw [V_append, V4, V_take_succ, hV, ho, pow_DB]
      congr 2
      omega
theorem of_ev (l : List Int) (hd : Dig 18446744073709551616 l) (hl : l.length ≤ 4398046511103) : Ev (fun k => vernierref01_Of.f k l) (dg 65536 (V 18446744073709551616 l)) :=
  Ev.congr (fun k => rfl) (of_loop l hd hl l.length 0 [] (by omega) rfl (Dig.nil _) (by simp [V]))
theorem rcmp_loop (a b : List Int) (ha : Dig 65536 a) (hb : Dig 65536 b) (hl : a.length = b.length) (hm : a.length ≤ 4611686018427387904) : ∀ n : Nat, n ≤ a.length →
    Ev (fun k => vernierref01_Cmp.l0 k a b ((n : Int) - 1)) (sgn (V 65536 (a.take n) - V 65536 (b.take n)))
  | 0, _ => by
    refine Ev.step (f := fun _ => some _) (fun k => ?_) (Ev.now _)
    simp only [vernierref01_Cmp.l0]
    rw [if_neg (by omega)]
    simp [V, sgn]
  | n + 1, hn => by
    have e0 : ((n + 1 : Nat) : Int) - 1 = (n : Int) := by omega
    have ew : wrap64 ((n : Int) - 1) = (n : Int) - 1 := w64 (by omega) (by omega)
    rw [e0]
    by_cases h1 : a.getD n 0 < b.getD n 0
    · have := lt_of_digit D_pos ha hb n h1
      have es : sgn (V 65536 (a.take (n + 1)) - V 65536 (b.take (n + 1))) = -1 := by unfold sgn; rw [if_pos (by omega)]
      rw [es]
      refine Ev.step (f := fun _ => some _) (fun k => ?_) (Ev.now _)
      simp only [vernierref01_Cmp.l0]
      rw [if_pos (by omega), if_pos (by omega), if_pos (by omega), if_pos (by omega), rd_nat, rd_nat, if_pos h1]
    · by_cases h2 : a.getD n 0 > b.getD n 0
      · have := lt_of_digit D_pos hb ha n h2
        have es : sgn (V 65536 (a.take (n + 1)) - V 65536 (b.take (n + 1))) = 1 := by unfold sgn; rw [if_neg (by omega), if_neg (by omega)]
        rw [es]
        refine Ev.step (f := fun _ => some _) (fun k => ?_) (Ev.now _)
        simp only [vernierref01_Cmp.l0]
        rw [if_pos (by omega), if_pos (by omega), if_pos (by omega), if_pos (by omega), rd_nat, rd_nat, if_neg h1, if_pos h2]
      · have e : a.getD n 0 = b.getD n 0 := by omega
        have := rcmp_loop a b ha hb hl hm n (by omega)
        rw [V_take_succ, V_take_succ, e, show V 65536 (a.take n) + 65536 ^ n * b.getD n 0 - (V 65536 (b.take n) + 65536 ^ n * b.getD n 0) = V 65536 (a.take n) - V 65536 (b.take n) by omega]
        refine Ev.step (fun k => ?_) this
        simp only [vernierref01_Cmp.l0]
        rw [if_pos (by omega), if_pos (by omega), if_pos (by omega), if_pos (by omega), rd_nat, rd_nat, if_neg h1, if_neg h2, ew]
theorem rcmp_ev (a b : List Int) (ha : Nrm 65536 a) (hb : Nrm 65536 b) (hla : a.length ≤ 4611686018427387904) (hlb : b.length ≤ 4611686018427387904) : Ev (fun k => vernierref01_Cmp.f k a b) (sgn (V 65536 a - V 65536 b)) := by
  unfold vernierref01_Cmp.f
  by_cases h : a.length = b.length
  · refine Ev.congr (fun k => if_pos (by omega)) ?_
    have := rcmp_loop a b ha.1 hb.1 h hla a.length (Nat.le_refl _)
    rw [List.take_of_length_le (Nat.le_refl _), List.take_of_length_le (by omega)] at this
    rw [w64 (by omega) (by omega)]
    exact this
  · refine Ev.congr (fun k => if_neg (by omega)) ?_
    by_cases h2 : a.length < b.length
    · refine Ev.congr (fun k => if_pos (by omega)) ?_
      have := lt_of_len one_lt_D ha.1 hb h2
      have es : sgn (V 65536 a - V 65536 b) = -1 := by unfold sgn; rw [if_pos (by omega)]
      rw [es]
      exact Ev.now _
    · refine Ev.congr (fun k => if_neg (by omega)) ?_
      have := lt_of_len one_lt_D hb.1 ha (by omega)
      have es : sgn (V 65536 a - V 65536 b) = 1 := by unfold sgn; rw [if_neg (by omega), if_neg (by omega)]
      rw [es]
      exact Ev.now _
end Go.Proofs.Ytfmdjhfnbiekaaa.PA
