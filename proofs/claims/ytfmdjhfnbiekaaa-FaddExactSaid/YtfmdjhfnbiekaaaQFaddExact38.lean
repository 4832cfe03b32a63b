/- What the reference's naturals (digits of 16 bits) compute: Add, Sub, Mul, Bits. -/
import Derived.Test.YtfmdjhfnbiekaaaQFaddExact25
import Derived.Test.YtfmdjhfnbiekaaaQFaddExact24
import Derived.Test.YtfmdjhfnbiekaaaQFaddExact13
import Derived.Test.YtfmdjhfnbiekaaaQFaddExact28
import Derived.Test.YtfmdjhfnbiekaaaQFaddExact30
import Derived.Test.YtfmdjhfnbiekaaaQFaddExact33
import Derived.Test.YtfmdjhfnbiekaaaQFaddExact37
namespace Go.Proofs.Ytfmdjhfnbiekaaa.PA
open Go.RowKit Go.Proofs.YtfmdjhfnbiekaaaW.PrintWords Go.Proofs.YtfmdjhfnbiekaaaW.PrintLast Go.Proofs.Ytfmdjhfnbiekaaa.Num
set_option linter.unusedVariables false
set_option linter.unusedSimpArgs false
theorem radd_step (a b : List Int) (ha : Dig 65536 a) (hb : Dig 65536 b) (i : Nat) (out : List Int) (c : Int) (h0 : 0 ≤ c) (h1 : c ≤ 1) (ho : out.length < 17592186044416) (hi : i < 4611686018427387904) {v : List Int}
    (h : Ev (fun k => vernierref01_Add.l0 k a b (out ++ [(c + a.getD i 0 + b.getD i 0) % 65536]) ((c + a.getD i 0 + b.getD i 0) / 65536) ((i + 1 : Nat) : Int)) v) :
    Ev (fun k => vernierref01_Add.j1 k a b out c (i : Int) true) v := by
  have ga := ha.getD D_pos i
  have gb := hb.getD D_pos i
  have ew : wrap64 ((i : Int) + 1) = ((i + 1 : Nat) : Int) := by rw [w64 (by omega) (by omega)]; omega
  refine Ev.step (fun k => ?_) h
  simp only [vernierref01_Add.j1]
  rw [if_pos trivial, ew]
  by_cases h2 : i < a.length
  · rw [if_pos (by omega), if_pos (by omega), rd_nat, rd_nat]
    by_cases h3 : i < b.length
    · rw [if_pos (by omega), if_pos ho, w64 (x := c + a.getD i 0) (by omega) (by omega), w64 (x := c + a.getD i 0 + b.getD i 0) (by omega) (by omega), tmod_nn (by omega), tdiv_nn (by omega), w64 (by omega) (by omega)]
    · rw [if_neg (by omega), if_pos ho, getD_out (l := b) (by omega), w64 (x := c + a.getD i 0) (by omega) (by omega), tmod_nn (by omega), tdiv_nn (by omega), w64 (by omega) (by omega), Int.add_zero]
  · rw [if_neg (by omega), getD_out (l := a) (by omega), Int.add_zero]
    by_cases h3 : i < b.length
    · rw [if_pos (by omega), if_pos (by omega), if_pos ho, rd_nat, w64 (x := c + b.getD i 0) (by omega) (by omega), tmod_nn (by omega), tdiv_nn (by omega), w64 (by omega) (by omega)]
    · rw [if_neg (by omega), if_pos ho, getD_out (l := b) (by omega), Int.add_zero, tmod_nn (by omega), tdiv_nn (by omega), w64 (by omega) (by omega)]
theorem radd_loop (a b : List Int) (ha : Dig 65536 a) (hb : Dig 65536 b) (N : Nat) (hN : N ≤ 8796093022208) (hla : a.length ≤ N) (hlb : b.length ≤ N) : ∀ (d i : Nat) (out : List Int) (c : Int), N + 1 ≤ i + d → i ≤ N + 1 → out.length = i → Dig 65536 out → 0 ≤ c → c ≤ 1 →
    (i = N + 1 → c = 0) → Aside0 (V 65536 out + c * 65536 ^ i = V 65536 (a.take i) + V 65536 (b.take i)) →
    Ev (fun k => vernierref01_Add.l0 k a b out c (i : Int)) (dg 65536 (V 65536 a + V 65536 b))
  | d, i, out, c, hd, hi, ho, hD, h0, h1, hz, hI => by
    by_cases hend : a.length ≤ i ∧ b.length ≤ i ∧ c = 0
    · obtain ⟨h2, h3, h4⟩ := hend
      have hI := hI.out
      rw [V_take_all _ a h2, V_take_all _ b h3, h4, Int.zero_mul, Int.add_zero] at hI
      rw [← hI]
      refine Ev.step (f := fun k => vernierref01_Add.j1 k a b out c (i : Int) false) (fun k => ?_) ?_
      · simp only [vernierref01_Add.l0]
        rw [if_neg (by omega), if_neg (by omega), h4]
        rfl
      · refine Ev.step (f := fun k => (vernierref01_cut.f k out).bind fun t => some t) (fun k => ?_) (rcut_ev' out (by omega) hD)
        simp only [vernierref01_Add.j1]
        rw [if_neg (by decide)]
    · have hiN : i < N + 1 := by
        by_cases e : i = N + 1
        · exact absurd ⟨by omega, by omega, hz e⟩ hend
        · omega
      rcases d with _ | d
      · omega
      have ga := ha.getD D_pos i
      have gb := hb.getD D_pos i
      have step : Ev (fun k => vernierref01_Add.j1 k a b out c (i : Int) true) (dg 65536 (V 65536 a + V 65536 b)) := by
        refine radd_step a b ha hb i out c h0 h1 (by omega) (by omega) (radd_loop a b ha hb N hN hla hlb d (i + 1) _ _ (by omega) (by omega) (by simp; omega) (hD.append (Dig.cons (by omega) (by omega) (Dig.nil _))) (by omega) (by omega) ?_ ⟨?_⟩)
        · intro e
          rw [getD_out (l := a) (by omega), getD_out (l := b) (by omega)]
          omega
        · have hI := hI.out
          rw [V_append, V_take_succ, V_take_succ, ho, Int.pow_succ]
          simp only [V]
          have hs := Int.emod_add_mul_ediv (c + a.getD i 0 + b.getD i 0) 65536
          generalize (c + a.getD i 0 + b.getD i 0) % 65536 = m at *
          generalize (c + a.getD i 0 + b.getD i 0) / 65536 = q at *
          generalize a.getD i 0 = x at *
          generalize b.getD i 0 = y at *
          generalize (65536 : Int) ^ i = p at *
          have : p * (m + 65536 * q) = p * (c + x + y) := by rw [hs]
          grind
      refine Ev.step (fun k => ?_) step
      simp only [vernierref01_Add.l0]
      by_cases h2 : i < a.length
      · rw [if_pos (by omega)]
      · rw [if_neg (by omega)]
        by_cases h3 : i < b.length
        · rw [if_pos (by omega)]
        · have h4 : c > 0 := by
            by_cases e : c = 0
            · exact absurd ⟨by omega, by omega, e⟩ hend
            · omega
          rw [if_neg (by omega), decide_eq_true h4]
theorem radd_ev (a b : List Int) (ha : Dig 65536 a) (hb : Dig 65536 b) (hla : a.length ≤ 8796093022208) (hlb : b.length ≤ 8796093022208) : Ev (fun k => vernierref01_Add.f k a b) (dg 65536 (V 65536 a + V 65536 b)) :=
  Ev.congr (fun k => rfl) (radd_loop a b ha hb 8796093022208 (by omega) hla hlb 8796093022209 0 [] 0 (by omega) (by omega) rfl (Dig.nil _) (by omega) (by omega) (by omega) ⟨by simp [V]⟩)
end Go.Proofs.Ytfmdjhfnbiekaaa.PA
