/- What the reference's naturals (digits of 16 bits) compute: cut, Of, Limbs, Cmp. -/
import Derived.Test.YtjgdpjbkmcjbcaaDoorZDyadicAbove33
import Derived.Test.YtjgdpjbkmcjbcaaDoorZDyadicAbove31
import Derived.Test.YtjgdpjbkmcjbcaaDoorZDyadicAbove34
import Derived.Test.YtjgdpjbkmcjbcaaDoorZDyadicAbove42
namespace Go.Proofs.YtjgdpjbkmcjbcaaDoor.PG
open Go.RowKit Go.Proofs.YtjgdpjbkmcjbcaaDoorW.PrintWords Go.Proofs.YtjgdpjbkmcjbcaaDoorW.PrintLast Go.Proofs.YtjgdpjbkmcjbcaaDoor.Num
set_option linter.unusedVariables false
set_option linter.unusedSimpArgs false
theorem one_lt_D : (1 : Int) < 65536 := by decide
theorem D_pos : (0 : Int) < 65536 := by decide
theorem tmod_nn {x y : Int} (h : 0 ≤ x) : Int.tmod x y = x % y := Int.tmod_eq_emod_of_nonneg h
theorem tdiv_nn {x y : Int} (h : 0 ≤ x) : Int.tdiv x y = x / y := Int.tdiv_eq_ediv_of_nonneg h
theorem getD_out {l : List Int} {n : Nat} (h : l.length ≤ n) : l.getD n 0 = 0 := by rw [List.getD_eq_getElem?_getD, List.getElem?_eq_none h]; rfl
theorem rcut_loop (l : List Int) (hl : l.length ≤ 4611686018427387904) (hd : Dig 65536 l) : ∀ n : Nat, n ≤ l.length → (∀ i, n ≤ i → l.getD i 0 = 0) → Ev (fun k => vernierref01_cut.l0 k l (n : Int)) (dg 65536 (V 65536 l))
 | 0, _, hz => by
  have e : (0 : Nat) = szN l := szN_uniq l hz (.inl rfl)
  refine Ev.step (f := fun _ => some (dg 65536 (V 65536 l))) (fun k => ?_) (Ev.now _)
  simp only [vernierref01_cut.l0]
  rw [if_neg (by omega), if_pos (by omega), if_pos (by omega), ← trim_dg one_lt_D hd]
  unfold trim
  rw [← e]
  rfl
 | n + 1, hn, hz => by
  have ew : wrap64 (((n + 1 : Nat) : Int) - 1) = (n : Int) := by rw [w64 (by omega) (by omega)]; omega
  by_cases h0 : l.getD n 0 = 0
  ·
   refine Ev.step (f := fun k => vernierref01_cut.l0 k l (n : Int)) (fun k => ?_) (rcut_loop l hl hd n (by omega) (fun i hi => ?_))
   ·
    simp only [vernierref01_cut.l0]
    rw [if_pos (by omega), ew, if_pos (by omega), if_pos (by omega), rd_nat, if_pos h0]
   ·
    by_cases e : i = n
    ·
     rw [e]; exact h0
    ·
     exact hz i (by omega)
  ·
   have e : n + 1 = szN l := szN_uniq l hz (.inr (by simpa using h0))
   refine Ev.step (f := fun _ => some (dg 65536 (V 65536 l))) (fun k => ?_) (Ev.now _)
   simp only [vernierref01_cut.l0]
   rw [if_pos (by omega), ew, if_pos (by omega), if_pos (by omega), rd_nat, if_neg h0, if_pos (by omega), if_pos (by omega), ← trim_dg one_lt_D hd]
   unfold trim
   rw [← e, Int.toNat_natCast]
theorem rcut_ev (l : List Int) (hl : l.length ≤ 4611686018427387904) (hd : Dig 65536 l) : Ev (fun k => vernierref01_cut.f k l) (dg 65536 (V 65536 l)) :=
 Ev.congr (fun k => rfl) (rcut_loop l hl hd l.length (Nat.le_refl _) (fun i hi => getD_out hi))
theorem rcut_ev' (l : List Int) (hl : l.length ≤ 4611686018427387904) (hd : Dig 65536 l) : Ev (fun k => (vernierref01_cut.f k l).bind fun t => some t) (dg 65536 (V 65536 l)) :=
 Ev.bind (rcut_ev l hl hd) (Ev.now _)
theorem pow_DB : ∀ i : Nat, (65536 : Int) ^ (4 * i) = 18446744073709551616 ^ i
 | 0 => rfl
 | i + 1 => by
  have := pow_DB i
  rw [show 4 * (i + 1) = 4 * i + 1 + 1 + 1 + 1 by omega, Int.pow_succ, Int.pow_succ, Int.pow_succ, Int.pow_succ, Int.pow_succ, this]
  omega
theorem V4 (d0 d1 d2 d3 : Int) : V 65536 [d0, d1, d2, d3] = d0 + 65536 * (d1 + 65536 * (d2 + 65536 * d3)) := by simp [V]
theorem of_digit {x : Int} (h0 : 0 ≤ x) (h1 : x < 18446744073709551616) : wrap64 (Int.tmod x 65536) = x % 65536 ∧ IntKind.u64.wrap (Int.tdiv x 65536) = x / 65536 := by
 rw [tmod_nn h0, tdiv_nn h0]
 exact ⟨w64 (by omega) (by omega), u64w (by omega) (by omega)⟩
theorem of_limb (l out : List Int) (i : Nat) (x : Int) (h0 : 0 ≤ x) (h1 : x < 18446744073709551616) (ho : out.length + 4 ≤ 17592186044416) (hi : i < 4611686018427387904) {v : List Int}
  (h : Ev (fun k => vernierref01_Of.l0 k l (out ++ [x % 65536, x / 65536 % 65536, x / 65536 / 65536 % 65536, x / 65536 / 65536 / 65536 % 65536]) ((i + 1 : Nat) : Int)) v) :
  Ev (fun k => vernierref01_Of.l1 k l out (i : Int) x 0) v := by
 have ew : wrap64 ((i : Int) + 1) = ((i + 1 : Nat) : Int) := by rw [w64 (by omega) (by omega)]; omega
 obtain ⟨a0, b0⟩ := of_digit h0 h1
 obtain ⟨a1, b1⟩ := of_digit (x := x / 65536) (by omega) (by omega)
 obtain ⟨a2, b2⟩ := of_digit (x := x / 65536 / 65536) (by omega) (by omega)
 obtain ⟨a3, b3⟩ := of_digit (x := x / 65536 / 65536 / 65536) (by omega) (by omega)
 have s1 : wrap64 (0 + 1) = 1 := (w64 (x := 0 + 1) (by omega) (by omega)).trans (by omega)
 have s2 : wrap64 (1 + 1) = 2 := (w64 (x := 1 + 1) (by omega) (by omega)).trans (by omega)
 have s3 : wrap64 (2 + 1) = 3 := (w64 (x := 2 + 1) (by omega) (by omega)).trans (by omega)
 have s4 : wrap64 (3 + 1) = 4 := (w64 (x := 3 + 1) (by omega) (by omega)).trans (by omega)
 refine Ev.step (f := fun k => vernierref01_Of.l1 k l (out ++ [x % 65536]) (i : Int) (x / 65536) 1) (fun k => ?_) ?_
 ·
  simp only [vernierref01_Of.l1]
  rw [if_pos (by decide), if_pos (by omega), a0, b0, s1]
 refine Ev.step (f := fun k => vernierref01_Of.l1 k l (out ++ [x % 65536, x / 65536 % 65536]) (i : Int) (x / 65536 / 65536) 2) (fun k => ?_) ?_
 ·
  simp only [vernierref01_Of.l1]
  rw [if_pos (by decide), if_pos (by simp; omega), a1, b1, s2, List.append_assoc]
  rfl
 refine Ev.step (f := fun k => vernierref01_Of.l1 k l (out ++ [x % 65536, x / 65536 % 65536, x / 65536 / 65536 % 65536]) (i : Int) (x / 65536 / 65536 / 65536) 3) (fun k => ?_) ?_
 ·
  simp only [vernierref01_Of.l1]
  rw [if_pos (by decide), if_pos (by simp; omega), a2, b2, s3, List.append_assoc]
  rfl
 refine Ev.step (f := fun k => vernierref01_Of.l1 k l (out ++ [x % 65536, x / 65536 % 65536, x / 65536 / 65536 % 65536, x / 65536 / 65536 / 65536 % 65536]) (i : Int) (x / 65536 / 65536 / 65536 / 65536) 4) (fun k => ?_) ?_
 ·
  simp only [vernierref01_Of.l1]
  rw [if_pos (by decide), if_pos (by simp; omega), a3, b3, s4, List.append_assoc]
  rfl
 refine Ev.step (fun k => ?_) h
 simp only [vernierref01_Of.l1]
 rw [if_neg (by decide), ew]
theorem of_loop (l : List Int) (hd : Dig 18446744073709551616 l) (hl : l.length ≤ 4398046511103) : ∀ (d i : Nat) (out : List Int), l.length = i + d → out.length = 4 * i → Dig 65536 out → V 65536 out = V 18446744073709551616 (l.take i) →
  Ev (fun k => vernierref01_Of.l0 k l out (i : Int)) (dg 65536 (V 18446744073709551616 l))
 | 0, i, out, hi, ho, hD, hV => by
  refine Ev.step (f := fun k => (vernierref01_cut.f k out).bind fun t => some t) (fun k => ?_) ?_
  ·
   simp only [vernierref01_Of.l0]
   rw [if_neg (by omega)]
  ·
   rw [V_take_all _ _ (by omega)] at hV
   rw [← hV]
   exact rcut_ev' out (by omega) hD
 | d + 1, i, out, hi, ho, hD, hV => by
  have g := hd.getD B_pos i
  refine Ev.step (f := fun k => vernierref01_Of.l1 k l out (i : Int) (l.getD i 0) 0) (fun k => ?_) ?_
  ·
   simp only [vernierref01_Of.l0]
   rw [if_pos (by omega), if_pos (by omega), rd_nat]
  refine of_limb l out i _ g.1 g.2 (by omega) (by omega) (of_loop l hd hl d (i + 1) _ (by omega) (by simp; omega) ?_ ?_)
  ·
   refine hD.append (Dig.cons (by omega) (by omega) (Dig.cons (by omega) (by omega) (Dig.cons (by omega) (by omega) (Dig.cons (by omega) (by omega) (Dig.nil _)))))
  ·
   rw [V_append, V4, V_take_succ, hV, ho, pow_DB]
   congr 2
   omega
theorem of_ev (l : List Int) (hd : Dig 18446744073709551616 l) (hl : l.length ≤ 4398046511103) : Ev (fun k => vernierref01_Of.f k l) (dg 65536 (V 18446744073709551616 l)) :=
 Ev.congr (fun k => rfl) (of_loop l hd hl l.length 0 [] (by omega) rfl (Dig.nil _) (by simp [V]))
theorem limb_step (a out : List Int) (ha : Dig 65536 a) (i j : Nat) (x : Int) (M : Int) (h0 : 0 ≤ x) (h1 : x < M) (hM : M * 65536 ≤ 18446744073709551616) (hi : i + j < 4611686018427387904) {v : List Int}
  (h : Ev (fun k => vernierref01_Limbs.l1 k a out (i : Int) (x * 65536 + a.getD (i + j) 0) ((j : Int) - 1)) v) :
  Ev (fun k => vernierref01_Limbs.l1 k a out (i : Int) x (j : Int)) v := by
 have g := ha.getD D_pos (i + j)
 have e1 : wrap64 ((i : Int) + (j : Int)) = ((i + j : Nat) : Int) := by rw [w64 (by omega) (by omega)]; omega
 have e2 : wrap64 ((j : Int) - 1) = (j : Int) - 1 := w64 (by omega) (by omega)
 refine Ev.step (fun k => ?_) h
 simp only [vernierref01_Limbs.l1]
 rw [if_pos (by omega), e1, e2]
 by_cases hb : i + j < a.length
 ·
  rw [if_pos (by omega), if_pos (by omega), rd_nat, u64w (x := x * 65536) (by omega) (by omega), u64w (x := a.getD (i + j) 0) (by omega) (by omega), u64w (by omega) (by omega)]
 ·
  rw [if_neg (by omega), u64w (by omega) (by omega), getD_out (by omega), Int.add_zero]
theorem limbs_loop (a : List Int) (ha : Nrm 65536 a) (hl : a.length ≤ 70368744177664) : ∀ (d j : Nat) (out : List Int), a.length ≤ 4 * j + d → 4 * j ≤ a.length + 3 → out.length = j → Dig 18446744073709551616 out → V 18446744073709551616 out + 18446744073709551616 ^ j * V 65536 (a.drop (4 * j)) = V 65536 a →
  (out = [] ∨ 4 * j < a.length ∨ out.getD (out.length - 1) 0 ≠ 0) → Ev (fun k => vernierref01_Limbs.l0 k a out ((4 * j : Nat) : Int)) (dg 18446744073709551616 (V 65536 a))
 | d, j, out, hd, hj, ho, hD, hV, hN => by
  by_cases hlt : 4 * j < a.length
  ·
   have c0 := ha.1.getD D_pos (4 * j)
   have c1 := ha.1.getD D_pos (4 * j + 1)
   have c2 := ha.1.getD D_pos (4 * j + 2)
   have c3 := ha.1.getD D_pos (4 * j + 3)
   have ew : wrap64 (((4 * j : Nat) : Int) + 4) = ((4 * (j + 1) : Nat) : Int) := by rw [w64 (by omega) (by omega)]; omega
   have hx : V 65536 (a.drop (4 * j)) = a.getD (4 * j) 0 + 65536 * (a.getD (4 * j + 1) 0 + 65536 * (a.getD (4 * j + 2) 0 + 65536 * a.getD (4 * j + 3) 0)) + 18446744073709551616 * V 65536 (a.drop (4 * (j + 1))) := by
    have st : ∀ n : Nat, V 65536 (a.drop n) = a.getD n 0 + 65536 * V 65536 (a.drop (n + 1)) := by
     intro n
     by_cases h : n < a.length
     ·
      exact V_drop_succ _ a n h
     ·
      rw [V_drop_all _ a (by omega), V_drop_all _ a (by omega), getD_out (by omega)]; rfl
    rw [st (4 * j), st (4 * j + 1), st (4 * j + 2), st (4 * j + 3), show 4 * (j + 1) = 4 * j + 3 + 1 by omega]
    omega
   have hd' : d = 0 ∨ 0 < d := by omega
   rcases hd' with rfl | hd'
   ·
    omega
   have key : Ev (fun k => vernierref01_Limbs.l0 k a (out ++ [((((0 : Int) * 65536 + a.getD (4 * j + 3) 0) * 65536 + a.getD (4 * j + 2) 0) * 65536 + a.getD (4 * j + 1) 0) * 65536 + a.getD (4 * j) 0]) ((4 * (j + 1) : Nat) : Int)) (dg 18446744073709551616 (V 65536 a)) := by
    refine limbs_loop a ha hl (d - 4) (j + 1) _ (by omega) (by omega) (by simp; omega) (hD.append (Dig.cons (by omega) (by omega) (Dig.nil _))) ?_ ?_
    ·
     rw [V_append, ho, Int.pow_succ, ← hV, hx]
     simp only [V]
     grind
    ·
     by_cases hm : 4 * (j + 1) < a.length
     ·
      exact .inr (.inl hm)
     ·
      refine .inr (.inr ?_)
      rw [getD_append_last]
      have hz : V 65536 (a.drop (4 * (j + 1))) = 0 := V_drop_all _ a (by omega)
      rw [hz] at hx
      have hne : a ≠ [] := by rintro rfl; simp at hlt
      have hlast := ha.2.resolve_left hne
      have : a.length - 1 = 4 * j ∨ a.length - 1 = 4 * j + 1 ∨ a.length - 1 = 4 * j + 2 ∨ a.length - 1 = 4 * j + 3 := by omega
      rcases this with e | e | e | e <;> rw [e] at hlast <;> omega
   refine Ev.step (f := fun k => vernierref01_Limbs.l1 k a out ((4 * j : Nat) : Int) 0 ((3 : Nat) : Int)) (fun k => ?_) ?_
   ·
    simp only [vernierref01_Limbs.l0]
    rw [if_pos (by omega)]
    rfl
   refine limb_step a out ha.1 (4 * j) 3 0 1 (by omega) (by omega) (by omega) (by omega) ?_
   refine limb_step a out ha.1 (4 * j) 2 _ 65536 (by omega) (by omega) (by omega) (by omega) ?_
   refine limb_step a out ha.1 (4 * j) 1 _ 4294967296 (by omega) (by omega) (by omega) (by omega) ?_
   refine limb_step a out ha.1 (4 * j) 0 _ 281474976710656 (by omega) (by omega) (by omega) (by omega) ?_
   refine Ev.step (fun k => ?_) key
   simp only [vernierref01_Limbs.l1]
   rw [if_neg (by omega), if_pos (by omega), ew]
   rfl
  ·
   refine Ev.step (f := fun _ => some out) (fun k => ?_) ?_
   ·
    simp only [vernierref01_Limbs.l0]
    rw [if_neg (by omega)]
   ·
    rw [V_drop_all _ a (by omega), Int.mul_zero, Int.add_zero] at hV
    have hN' : Nrm 18446744073709551616 out := ⟨hD, by rcases hN with h | h | h; exact .inl h; omega; exact .inr h⟩
    rw [← hV, ← dg_eq one_lt_B hN']
    exact Ev.now _
theorem limbs_ev (a : List Int) (ha : Nrm 65536 a) (hl : a.length ≤ 70368744177664) : Ev (fun k => vernierref01_Limbs.f k a) (dg 18446744073709551616 (V 65536 a)) :=
 Ev.congr (fun k => rfl) (limbs_loop a ha hl a.length 0 [] (by omega) (by omega) rfl (Dig.nil _) (by simp [V]) (.inl rfl))
theorem rcmp_loop (a b : List Int) (ha : Dig 65536 a) (hb : Dig 65536 b) (hl : a.length = b.length) (hm : a.length ≤ 4611686018427387904) : ∀ n : Nat, n ≤ a.length →
  Ev (fun k => vernierref01_Cmp.l0 k a b ((n : Int) - 1)) (sgn (V 65536 (a.take n) - V 65536 (b.take n)))
 | 0, _ => by
  refine Ev.step (f := fun _ => some _) (fun k => ?_) (Ev.now _)
  simp only [vernierref01_Cmp.l0]
  rw [if_neg (by omega)]
  simp [V, sgn]
 | n + 1, hn => by
  have e0 : ((n + 1 : Nat) : Int) - 1 = (n : Int) := by omega
  have ew : wrap64 ((n : Int) - 1) = (n : Int) - 1 := w64 (by omega) (by omega)
  rw [e0]
  by_cases h1 : a.getD n 0 < b.getD n 0
  ·
   have := lt_of_digit D_pos ha hb n h1
   have es : sgn (V 65536 (a.take (n + 1)) - V 65536 (b.take (n + 1))) = -1 := by unfold sgn; rw [if_pos (by omega)]
   rw [es]
   refine Ev.step (f := fun _ => some _) (fun k => ?_) (Ev.now _)
   simp only [vernierref01_Cmp.l0]
   rw [if_pos (by omega), if_pos (by omega), if_pos (by omega), if_pos (by omega), rd_nat, rd_nat, if_pos h1]
  ·
   by_cases h2 : a.getD n 0 > b.getD n 0
   ·
    have := lt_of_digit D_pos hb ha n h2
    have es : sgn (V 65536 (a.take (n + 1)) - V 65536 (b.take (n + 1))) = 1 := by unfold sgn; rw [if_neg (by omega), if_neg (by omega)]
    rw [es]
    refine Ev.step (f := fun _ => some _) (fun k => ?_) (Ev.now _)
    simp only [vernierref01_Cmp.l0]
    rw [if_pos (by omega), if_pos (by omega), if_pos (by omega), if_pos (by omega), rd_nat, rd_nat, if_neg h1, if_pos h2]
   ·
    have e : a.getD n 0 = b.getD n 0 := by omega
    have := rcmp_loop a b ha hb hl hm n (by omega)
    rw [V_take_succ, V_take_succ, e, show V 65536 (a.take n) + 65536 ^ n * b.getD n 0 - (V 65536 (b.take n) + 65536 ^ n * b.getD n 0) = V 65536 (a.take n) - V 65536 (b.take n) by omega]
    refine Ev.step (fun k => ?_) this
    simp only [vernierref01_Cmp.l0]
    rw [if_pos (by omega), if_pos (by omega), if_pos (by omega), if_pos (by omega), rd_nat, rd_nat, if_neg h1, if_neg h2, ew]
theorem rcmp_ev (a b : List Int) (ha : Nrm 65536 a) (hb : Nrm 65536 b) (hla : a.length ≤ 4611686018427387904) (hlb : b.length ≤ 4611686018427387904) : Ev (fun k => vernierref01_Cmp.f k a b) (sgn (V 65536 a - V 65536 b)) := by
 unfold vernierref01_Cmp.f
 by_cases h : a.length = b.length
 ·
  refine Ev.congr (fun k => if_pos (by omega)) ?_
  have := rcmp_loop a b ha.1 hb.1 h hla a.length (Nat.le_refl _)
  rw [List.take_of_length_le (Nat.le_refl _), List.take_of_length_le (by omega)] at this
  rw [w64 (by omega) (by omega)]
  exact this
 ·
  refine Ev.congr (fun k => if_neg (by omega)) ?_
  by_cases h2 : a.length < b.length
  ·
   refine Ev.congr (fun k => if_pos (by omega)) ?_
   have := lt_of_len one_lt_D ha.1 hb h2
   have es : sgn (V 65536 a - V 65536 b) = -1 := by unfold sgn; rw [if_pos (by omega)]
   rw [es]
   exact Ev.now _
  ·
   refine Ev.congr (fun k => if_neg (by omega)) ?_
   have := lt_of_len one_lt_D hb.1 ha (by omega)
   have es : sgn (V 65536 a - V 65536 b) = 1 := by unfold sgn; rw [if_neg (by omega), if_neg (by omega)]
   rw [es]
   exact Ev.now _
end Go.Proofs.YtjgdpjbkmcjbcaaDoor.PG
