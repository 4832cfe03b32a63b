/- What the reference's division computes. -/
import Derived.Test.YtfmdjhfnbiekaaaQNatdivTells36
import Derived.Test.YtfmdjhfnbiekaaaQNatdivTells38
import Derived.Test.YtfmdjhfnbiekaaaQNatdivTells39
import Derived.Test.YtfmdjhfnbiekaaaQNatdivTells41
import Derived.Test.YtfmdjhfnbiekaaaQNatdivTells47
import Derived.Test.YtfmdjhfnbiekaaaQNatdivTells48
import Derived.Test.YtfmdjhfnbiekaaaQNatdivTells49
import Derived.Test.YtfmdjhfnbiekaaaQNatdivTells50
import Derived.Test.YtfmdjhfnbiekaaaQNatdivTells43
namespace Go.Proofs.Ytfmdjhfnbiekaaa.PB
open Go.RowKit Go.Proofs.YtfmdjhfnbiekaaaW.PrintWords Go.Proofs.YtfmdjhfnbiekaaaW.PrintLast Go.Proofs.YtfmdjhfnbiekaaaW.PrintMore Go.Proofs.Ytfmdjhfnbiekaaa.Num
set_option linter.unusedVariables false
set_option linter.unusedSimpArgs false
theorem bit_of {a : List Int} {v : Int} {m : Nat} (h : Nd a v m) (n : Nat) (hn : n / 16 < a.length) : a.getD (n / 16) 0 / 2 ^ (n % 16) % 2 = v / 2 ^ n % 2 := by
  have a1 := V_split 65536 a (n := n / 16) (by omega)
  have a2 := V_lt D_pos (h.nrm.1.take (n / 16))
  have a3 := V_nonneg D_pos (h.nrm.1.take (n / 16))
  rw [List.length_take, Nat.min_eq_left (by omega)] at a2
  have a4 := V_drop_succ 65536 a (n / 16) hn
  have e1 : v / 65536 ^ (n / 16) = V 65536 (a.drop (n / 16)) := by
    rw [← h.val, a1, Int.add_mul_ediv_left _ _ (by have := pow_pos' D_pos (n / 16); omega), Int.ediv_eq_zero_of_lt a3 a2, Int.zero_add]
  have e2 : v / 2 ^ n = V 65536 (a.drop (n / 16)) / 2 ^ (n % 16) := by
    rw [pow16 n, ← ediv_two (pow_pos' D_pos _), e1]
  have e3 : (65536 : Int) = 2 ^ (n % 16) * (2 ^ (15 - n % 16) * 2) := by
    rw [← Int.mul_assoc, ← Int.pow_add, ← Int.pow_succ, show (n % 16 + (15 - n % 16)).succ = 16 by omega]
    rfl
  have p0 := two_pow_pos (n % 16)
  rw [e2, a4]
  have e4 : a.getD (n / 16) 0 + 65536 * V 65536 (a.drop (n / 16 + 1)) = a.getD (n / 16) 0 + 2 ^ (n % 16) * (2 * (2 ^ (15 - n % 16) * V 65536 (a.drop (n / 16 + 1)))) := by
    generalize V 65536 (a.drop (n / 16 + 1)) = X
    have : 65536 * X = (2 ^ (n % 16) * (2 ^ (15 - n % 16) * 2)) * X := by rw [← e3]
    rw [this]
    grind
  rw [e4, Int.add_mul_ediv_left _ _ (by omega)]
  omega
theorem Nd.of_bit {b : Int} (h0 : 0 ≤ b) (h1 : b < 2) : Ev (fun k => vernierref01_cut.f k [b]) (Num.dg 65536 b) ∧ Nd (Num.dg 65536 b) b 1 := by
  have hd : Dig 65536 [b] := Dig.cons h0 (by omega) (Dig.nil _)
  have e := rcut_ev [b] (by simp) hd
  have hv : V 65536 [b] = b := by simp [V]
  rw [hv] at e
  exact ⟨e, Nd.dg h0 (by rw [Int.pow_succ, Int.pow_zero]; omega)⟩
theorem div_bit {v : Int} (hv : 0 ≤ v) (n : Nat) : v / 2 ^ n = 2 * (v / 2 ^ (n + 1)) + v / 2 ^ n % 2 := by
  have e : v / 2 ^ (n + 1) = v / 2 ^ n / 2 := by rw [Int.pow_succ, ← ediv_two (two_pow_pos n)]
  rw [e]
  omega
theorem rdiv_bit {a b : List Int} {v : Int} {m : Nat} (n : Nat) (q r : List Int) {X : List Int × List Int} (x : Int) (hx0 : 0 ≤ x) (hx1 : x < 65536)
    (hX : Ev (fun k => vernierref01_Div.l1 k a b q r (n : Int) (x / 2 ^ (n % 16)) ((n % 16 : Nat) : Int)) X) : ∀ (d i : Nat), n % 16 = i + d → Ev (fun k => vernierref01_Div.l1 k a b q r (n : Int) (x / 2 ^ i) (i : Int)) X
  | 0, i, hi => by
    rw [show i = n % 16 by omega]
    exact hX
  | d + 1, i, hi => by
    have p0 := two_pow_pos i
    have h0 : 0 ≤ x / 2 ^ i := Int.ediv_nonneg hx0 (Int.le_of_lt p0)
    have h1 : x / 2 ^ i ≤ x := Int.ediv_le_self _ hx0
    refine Ev.step (f := fun k => vernierref01_Div.l1 k a b q r (n : Int) (x / 2 ^ (i + 1)) ((i + 1 : Nat) : Int)) (fun k => ?_) (rdiv_bit (v := v) (m := m) n q r x hx0 hx1 hX d (i + 1) (by omega))
    rw [vernierref01_Div.l1, tmod_nn (by omega), if_pos (by omega), tdiv_nn h0, w64 (x := x / 2 ^ i / 2) (by omega) (by omega), w64 (x := (i : Int) + 1) (by omega) (by omega), ediv_two p0, ← Int.pow_succ]
    rfl
theorem rdiv_loop {a b : List Int} {v w : Int} {m : Nat} (ha : Nd a v m) (hb : Nd b w m) (hw : 0 < w) (hm : m ≤ 100000000) : ∀ (n : Nat) (Q R : Int), n ≤ 16 * a.length → 0 ≤ Q → 0 ≤ R → R < w → Aside0 (Q * w + R = v / 2 ^ n) →
    Ev (fun k => vernierref01_Div.l0 k a b (dg 65536 Q) (dg 65536 R) ((n : Int) - 1)) (dg 65536 (v / w), dg 65536 (v % w))
  | 0, Q, R, hn, hQ, h0, h1, hI => by
    have hI' := hI.out
    rw [Int.pow_zero, Int.ediv_one] at hI'
    have c : (Q + 1) * w = Q * w + w := by grind
    have eq : v / w = Q := by
      have a1 := Int.ediv_lt_of_lt_mul hw (show v < (Q + 1) * w by omega)
      have a2 := Int.le_ediv_of_mul_le hw (show Q * w ≤ v by omega)
      omega
    have er : v % w = R := by
      have := Int.emod_add_mul_ediv v w
      rw [eq] at this
      have c2 : w * Q = Q * w := Int.mul_comm ..
      omega
    rw [eq, er]
    refine Ev.step (f := fun k => some (dg 65536 Q, dg 65536 R)) (fun k => ?_) (Ev.now _)
    rw [vernierref01_Div.l0, if_neg (by omega)]
  | n + 1, Q, R, hn, hQ, h0, h1, hI => by
    have hl := ha.len
    have hv0 := ha.nonneg
    have hx := ha.nrm.1.getD D_pos (n / 16)
    have hR : Nd (dg 65536 R) R m := hb.dg_le h0 (Int.le_of_lt h1)
    have hQv : Q ≤ v := by
      have a1 : Q * 1 ≤ Q * w := Int.mul_le_mul_of_nonneg_left (by omega) hQ
      have a2 : v / 2 ^ (n + 1) ≤ v := Int.ediv_le_self _ hv0
      have := hI.out
      omega
    have nQ : Nd (dg 65536 Q) Q m := ha.dg_le hQ hQv
    have hbit := bit_of ha n (by omega)
    have hdb := div_bit hv0 n
    obtain ⟨bt, hbt⟩ : ∃ bt, v / 2 ^ n % 2 = bt := ⟨_, rfl⟩
    rw [hbt] at hbit hdb
    have b0 : 0 ≤ bt ∧ bt < 2 := by omega
    obtain ⟨e1, n1⟩ := hR.shl 1 (by omega) (by omega)
    obtain ⟨e2, n2⟩ := Nd.of_bit b0.1 b0.2
    obtain ⟨e3, n3⟩ := n1.add (m + 1) n2 (by omega) (by omega) (by omega)
    obtain ⟨e4, n4⟩ := nQ.shl 1 (by omega) (by omega)
    rw [Int.pow_succ, Int.pow_zero, Int.one_mul] at e1 n1 e3 n3 e4 n4
    have e5 := n3.cmp hb (by omega) (by omega)
    have hI2 : Aside0 (2 * Q * w + (2 * R + bt) = v / 2 ^ n) := ⟨by
      have := hI.out
      have c : 2 * Q * w = 2 * (Q * w) := by grind
      omega⟩
    have fin : ∀ (x : Int) (hx : x = bt), Ev (fun k => (vernierref01_Shl.f k (dg 65536 R) 1).bind fun t375 => ((vernierref01_cut.f k (([x] : List Int))).bind fun t381 => ((vernierref01_Add.f k t375 t381).bind fun t384 => ((vernierref01_Shl.f k (dg 65536 Q) 1).bind fun t387 => ((vernierref01_Cmp.f k t384 b).bind fun t390 => (if t390 ≥ 0 then ((vernierref01_Sub.f k t384 b).bind fun t391 => ((vernierref01_Add.f k t387 (([1] : List Int))).bind fun t397 => (vernierref01_Div.l0 k a b t397 t391 ((n : Int) - 1)))) else (vernierref01_Div.l0 k a b t387 t384 ((n : Int) - 1))))))))
        (dg 65536 (v / w), dg 65536 (v % w)) := by
      intro x hx
      subst hx
      refine Ev.bind e1 (Ev.bind e2 (Ev.bind e3 (Ev.bind e4 (Ev.bind e5 ?_))))
      by_cases hc : 2 * R + x - w ≥ 0
      · have hs : sgn (2 * R + x - w) ≥ 0 := by unfold sgn; rw [if_neg (by omega)]; split <;> omega
        obtain ⟨e6, n6⟩ := n3.sub (m + 2) hb (by omega) (by omega) (by omega)
        obtain ⟨e7, n7⟩ := n4.add (m + 2) (Nd.one (x := 1) (by decide) (by decide)) (by omega) (by omega) (by omega)
        have ea : ((2 * R + x - w).natAbs : Int) = 2 * R + x - w := by omega
        rw [ea] at e6
        refine Ev.congr (fun k => if_pos hs) (Ev.bind e6 (Ev.bind e7 ?_))
        exact rdiv_loop ha hb hw hm n (2 * Q + 1) (2 * R + x - w) (by omega) (by omega) (by omega) (by omega) ⟨by
          have := hI2.out
          have c : (2 * Q + 1) * w = 2 * Q * w + w := by grind
          omega⟩
      · have hs : ¬ sgn (2 * R + x - w) ≥ 0 := by unfold sgn; rw [if_pos (by omega)]; decide
        refine Ev.congr (fun k => if_neg hs) ?_
        exact rdiv_loop ha hb hw hm n (2 * Q) (2 * R + x) (by omega) (by omega) (by omega) (by omega) hI2
    have p0 := two_pow_pos (n % 16)
    have y0 : 0 ≤ a.getD (n / 16) 0 / 2 ^ (n % 16) := Int.ediv_nonneg hx.1 (Int.le_of_lt p0)
    have hX : Ev (fun k => vernierref01_Div.l1 k a b (dg 65536 Q) (dg 65536 R) (n : Int) (a.getD (n / 16) 0 / 2 ^ (n % 16)) ((n % 16 : Nat) : Int)) (dg 65536 (v / w), dg 65536 (v % w)) := by
      refine Ev.step (f := _) (fun k => ?_) (fin (Int.tmod (a.getD (n / 16) 0 / 2 ^ (n % 16)) 2) (by rw [tmod_nn y0]; exact hbit))
      rw [vernierref01_Div.l1, tmod_nn (y := 16) (by omega), if_neg (by omega), w64 (x := (n : Int) - 1) (by omega) (by omega)]
    have hX2 := rdiv_bit (a := a) (b := b) (v := v) (m := m) n (dg 65536 Q) (dg 65536 R) (a.getD (n / 16) 0) hx.1 hx.2 hX (n % 16) 0 (by omega)
    rw [Int.pow_zero, Int.ediv_one] at hX2
    refine Ev.step (f := fun k => vernierref01_Div.l1 k a b (dg 65536 Q) (dg 65536 R) (n : Int) (a.getD (n / 16) 0) 0) (fun k => ?_) hX2
    have e1 : ((n + 1 : Nat) : Int) - 1 = (n : Int) := by omega
    have ew : wrap64 (Int.tdiv (n : Int) 16) = ((n / 16 : Nat) : Int) := by rw [tdiv_nn (by omega), w64 (by omega) (by omega)]; omega
    rw [vernierref01_Div.l0, e1, ew, rd_nat, if_pos (by omega), if_pos (by omega), if_pos (by omega)]
theorem Nd.div {a b v w m} (ha : Nd a v m) (hb : Nd b w m) (hw : 0 < w) (hm : m ≤ 100000000) : Ev (fun k => vernierref01_Div.f k a b) (Num.dg 65536 (v / w), Num.dg 65536 (v % w)) := by
  have hl := ha.len
  have e1 := ha.bits (by omega)
  unfold vernierref01_Div.f
  refine Ev.bind e1 ?_
  have hv := ha.nonneg
  have hlt : v < 2 ^ (16 * a.length) := by
    have := V_lt D_pos ha.nrm.1
    rw [ha.val] at this
    have e : (65536 : Int) ^ a.length = 2 ^ (16 * a.length) := by
      rw [Int.pow_mul]
      rfl
    rwa [e] at this
  have hb1 := bitsOf_le hv hlt
  have hb0 := bitsOf_nonneg v
  obtain ⟨n, hn⟩ := Int.eq_ofNat_of_zero_le hb0
  have hz : v / 2 ^ n = 0 := by
    have := bitsOf_lt_pow hv
    rw [hn, Int.toNat_natCast] at this
    exact Int.ediv_eq_zero_of_lt hv this
  have hloop := rdiv_loop ha hb hw hm n 0 0 (by omega) (Int.le_refl _) (Int.le_refl _) hw ⟨by rw [hz]; omega⟩
  rw [hn, w64 (by omega) (by omega)]
  exact hloop
end Go.Proofs.Ytfmdjhfnbiekaaa.PB
