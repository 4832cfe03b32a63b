/- What the reference's naturals (digits of 16 bits) compute: Add, Sub, Mul, Bits. -/
import Derived.Test.YtfmdjhfnbiekaaaQFconvWhole25
import Derived.Test.YtfmdjhfnbiekaaaQFconvWhole26
import Derived.Test.YtfmdjhfnbiekaaaQFconvWhole46
import Derived.Test.YtfmdjhfnbiekaaaQFconvWhole36
import Derived.Test.YtfmdjhfnbiekaaaQFconvWhole38
import Derived.Test.YtfmdjhfnbiekaaaQFconvWhole40
import Derived.Test.YtfmdjhfnbiekaaaQFconvWhole44
namespace Go.Proofs.Ytfmdjhfnbiekaaa.PF
open Go.RowKit Go.Proofs.YtfmdjhfnbiekaaaW.PrintWords Go.Proofs.YtfmdjhfnbiekaaaW.PrintLast Go.Proofs.Ytfmdjhfnbiekaaa.Num
set_option linter.unusedVariables false
set_option linter.unusedSimpArgs false
theorem radd_step (a b : List Int) (ha : Dig 65536 a) (hb : Dig 65536 b) (i : Nat) (out : List Int) (c : Int) (h0 : 0 ≤ c) (h1 : c ≤ 1) (ho : out.length < 17592186044416) (hi : i < 4611686018427387904) {v : List Int}
    (h : Ev (fun k => vernierref01_Add.l0 k a b (out ++ [(c + a.getD i 0 + b.getD i 0) % 65536]) ((c + a.getD i 0 + b.getD i 0) / 65536) ((i + 1 : Nat) : Int)) v) :
    Ev (fun k => vernierref01_Add.j1 k a b out c (i : Int) true) v := by
  have ga := ha.getD D_pos i
  have gb := hb.getD D_pos i
  have ew : wrap64 ((i : Int) + 1) = ((i + 1 : Nat) : Int) := by rw [w64 (by omega) (by omega)]; omega
  refine Ev.step (fun k => ?_) h
  simp only [vernierref01_Add.j1]
  rw [if_pos trivial, ew]
  by_cases h2 : i < a.length
  · rw [if_pos (by omega), if_pos (by omega), rd_nat, rd_nat]
    by_cases h3 : i < b.length
    · rw [if_pos (by omega), if_pos ho, w64 (x := c + a.getD i 0) (by omega) (by omega), w64 (x := c + a.getD i 0 + b.getD i 0) (by omega) (by omega), tmod_nn (by omega), tdiv_nn (by omega), w64 (by omega) (by omega)]
    · rw [if_neg (by omega), if_pos ho, getD_out (l := b) (by omega), w64 (x := c + a.getD i 0) (by omega) (by omega), tmod_nn (by omega), tdiv_nn (by omega), w64 (by omega) (by omega), Int.add_zero]
  · rw [if_neg (by omega), getD_out (l := a) (by omega), Int.add_zero]
    by_cases h3 : i < b.length
    · rw [if_pos (by omega), if_pos (by omega), if_pos ho, rd_nat, w64 (x := c + b.getD i 0) (by omega) (by omega), tmod_nn (by omega), tdiv_nn (by omega), w64 (by omega) (by omega)]
    · rw [if_neg (by omega), if_pos ho, getD_out (l := b) (by omega), Int.add_zero, tmod_nn (by omega), tdiv_nn (by omega), w64 (by omega) (by omega)]
theorem radd_loop (a b : List Int) (ha : Dig 65536 a) (hb : Dig 65536 b) (N : Nat) (hN : N ≤ 8796093022208) (hla : a.length ≤ N) (hlb : b.length ≤ N) : ∀ (d i : Nat) (out : List Int) (c : Int), N + 1 ≤ i + d → i ≤ N + 1 → out.length = i → Dig 65536 out → 0 ≤ c → c ≤ 1 →
    (i = N + 1 → c = 0) → Aside0 (V 65536 out + c * 65536 ^ i = V 65536 (a.take i) + V 65536 (b.take i)) →
    Ev (fun k => vernierref01_Add.l0 k a b out c (i : Int)) (dg 65536 (V 65536 a + V 65536 b))
  | d, i, out, c, hd, hi, ho, hD, h0, h1, hz, hI => by
    by_cases hend : a.length ≤ i ∧ b.length ≤ i ∧ c = 0
    · obtain ⟨h2, h3, h4⟩ := hend
      have hI := hI.out
      rw [V_take_all _ a h2, V_take_all _ b h3, h4, Int.zero_mul, Int.add_zero] at hI
      rw [← hI]
      refine Ev.step (f := fun k => vernierref01_Add.j1 k a b out c (i : Int) false) (fun k => ?_) ?_
      · simp only [vernierref01_Add.l0]
        rw [if_neg (by omega), if_neg (by omega), h4]
        rfl
      · refine Ev.step (f := fun k => (vernierref01_cut.f k out).bind fun t => some t) (fun k => ?_) (rcut_ev' out (by omega) hD)
        simp only [vernierref01_Add.j1]
        rw [if_neg (by decide)]
    · have hiN : i < N + 1 := by
        by_cases e : i = N + 1
        · exact absurd ⟨by omega, by omega, hz e⟩ hend
        · omega
      rcases d with _ | d
      · omega
      have ga := ha.getD D_pos i
      have gb := hb.getD D_pos i
      have step : Ev (fun k => vernierref01_Add.j1 k a b out c (i : Int) true) (dg 65536 (V 65536 a + V 65536 b)) := by
        refine radd_step a b ha hb i out c h0 h1 (by omega) (by omega) (radd_loop a b ha hb N hN hla hlb d (i + 1) _ _ (by omega) (by omega) (by simp; omega) (hD.append (Dig.cons (by omega) (by omega) (Dig.nil _))) (by omega) (by omega) ?_ ⟨?_⟩)
        · intro e
          rw [getD_out (l := a) (by omega), getD_out (l := b) (by omega)]
          omega
        · have hI := hI.out
          rw [V_append, V_take_succ, V_take_succ, ho, Int.pow_succ]
          simp only [V]
          have hs := Int.emod_add_mul_ediv (c + a.getD i 0 + b.getD i 0) 65536
          generalize (c + a.getD i 0 + b.getD i 0) % 65536 = m at *
          generalize (c + a.getD i 0 + b.getD i 0) / 65536 = q at *
          generalize a.getD i 0 = x at *
          generalize b.getD i 0 = y at *
          generalize (65536 : Int) ^ i = p at *
          have : p * (m + 65536 * q) = p * (c + x + y) := by rw [hs]
          grind
      refine Ev.step (fun k => ?_) step
      simp only [vernierref01_Add.l0]
      by_cases h2 : i < a.length
      · rw [if_pos (by omega)]
      · rw [if_neg (by omega)]
        by_cases h3 : i < b.length
        · rw [if_pos (by omega)]
        · have h4 : c > 0 := by
            by_cases e : c = 0
            · exact absurd ⟨by omega, by omega, e⟩ hend
            · omega
          rw [if_neg (by omega), decide_eq_true h4]
theorem radd_ev (a b : List Int) (ha : Dig 65536 a) (hb : Dig 65536 b) (hla : a.length ≤ 8796093022208) (hlb : b.length ≤ 8796093022208) : Ev (fun k => vernierref01_Add.f k a b) (dg 65536 (V 65536 a + V 65536 b)) :=
  Ev.congr (fun k => rfl) (radd_loop a b ha hb 8796093022208 (by omega) hla hlb 8796093022209 0 [] 0 (by omega) (by omega) rfl (Dig.nil _) (by omega) (by omega) (by omega) ⟨by simp [V]⟩)
theorem sub_word {s : Int} (h0 : -65537 ≤ s) (h1 : s ≤ 65535) : Int.tmod (wrap64 (Int.tmod s 65536 + 65536)) 65536 = s % 65536 ∧ wrap64 (Int.tdiv (wrap64 (s - s % 65536)) 65536) = s / 65536 := by
  have hm : Int.tmod s 65536 = if 0 ≤ s then s % 65536 else -((-s) % 65536) := by
    split
    · rename_i h
      exact tmod_nn h
    · rename_i h
      rw [show s = -(-s) by omega, Int.neg_tmod, tmod_nn (by omega)]
      simp
  constructor
  · rw [hm]
    split
    · rw [w64 (by omega) (by omega), tmod_nn (by omega)]
      omega
    · rw [w64 (by omega) (by omega), tmod_nn (by omega)]
      omega
  · rw [w64 (x := s - s % 65536) (by omega) (by omega)]
    have e : s - s % 65536 = 65536 * (s / 65536) := by omega
    rw [e, Int.mul_tdiv_cancel_left _ (by decide), w64 (by omega) (by omega)]
theorem rsub0_step (a b : List Int) (ha : Dig 65536 a) (hb : Dig 65536 b) (i : Nat) (out : List Int) (c : Int) (h0 : -1 ≤ c) (h1 : c ≤ 0) (ho : out.length < 17592186044416) (hi : i < a.length) (hl : a.length ≤ 4611686018427387904) {v : List Int}
    (h : Ev (fun k => vernierref01_Sub.l0 k a b (out ++ [(c + a.getD i 0 - b.getD i 0) % 65536]) ((c + a.getD i 0 - b.getD i 0) / 65536) ((i + 1 : Nat) : Int)) v) :
    Ev (fun k => vernierref01_Sub.l0 k a b out c (i : Int)) v := by
  have ga := ha.getD D_pos i
  have gb := hb.getD D_pos i
  have ew : wrap64 ((i : Int) + 1) = ((i + 1 : Nat) : Int) := by rw [w64 (by omega) (by omega)]; omega
  obtain ⟨s1, s2⟩ := sub_word (s := c + a.getD i 0 - b.getD i 0) (by omega) (by omega)
  refine Ev.step (fun k => ?_) h
  simp only [vernierref01_Sub.l0]
  rw [if_pos (by omega), if_pos (by omega), ew, rd_nat, rd_nat, w64 (x := c + a.getD i 0) (by omega) (by omega)]
  by_cases h3 : i < b.length
  · rw [if_pos (by omega), if_pos ho, w64 (x := c + a.getD i 0 - b.getD i 0) (by omega) (by omega), s1, s2]
  · rw [getD_out (l := b) (by omega), Int.sub_zero] at s1 s2
    rw [if_neg (by omega), if_pos ho, getD_out (l := b) (by omega), Int.sub_zero, s1, s2]
theorem rsub1_step (a b : List Int) (ha : Dig 65536 a) (hb : Dig 65536 b) (i : Nat) (out : List Int) (c : Int) (h0 : -1 ≤ c) (h1 : c ≤ 0) (ho : out.length < 17592186044416) (hi : i < a.length) (hl : a.length ≤ 4611686018427387904) {v : List Int}
    (h : Ev (fun k => vernierref01_Sub.l1 k a b (out ++ [(c + a.getD i 0 - b.getD i 0) % 65536]) ((c + a.getD i 0 - b.getD i 0) / 65536) ((i + 1 : Nat) : Int)) v) :
    Ev (fun k => vernierref01_Sub.l1 k a b out c (i : Int)) v := by
  have ga := ha.getD D_pos i
  have gb := hb.getD D_pos i
  have ew : wrap64 ((i : Int) + 1) = ((i + 1 : Nat) : Int) := by rw [w64 (by omega) (by omega)]; omega
  obtain ⟨s1, s2⟩ := sub_word (s := c + a.getD i 0 - b.getD i 0) (by omega) (by omega)
  refine Ev.step (fun k => ?_) h
  simp only [vernierref01_Sub.l1]
  rw [if_pos (by omega), if_pos (by omega), ew, rd_nat, rd_nat, w64 (x := c + a.getD i 0) (by omega) (by omega)]
  by_cases h3 : i < b.length
  · rw [if_pos (by omega), if_pos ho, w64 (x := c + a.getD i 0 - b.getD i 0) (by omega) (by omega), s1, s2]
  · rw [getD_out (l := b) (by omega), Int.sub_zero] at s1 s2
    rw [if_neg (by omega), if_pos ho, getD_out (l := b) (by omega), Int.sub_zero, s1, s2]
theorem rsub_loop (F : Nat → List Int → List Int → List Int → Int → Int → Option (List Int)) (a b : List Int) (ha : Dig 65536 a) (hb : Dig 65536 b) (hl : a.length ≤ 17592186044415) (hle : V 65536 b ≤ V 65536 a) (hbl : b.length ≤ a.length)
    (step : ∀ (i : Nat) (out : List Int) (c : Int), -1 ≤ c → c ≤ 0 → out.length < 17592186044416 → i < a.length → ∀ {v : List Int}, Ev (fun k => F k a b (out ++ [(c + a.getD i 0 - b.getD i 0) % 65536]) ((c + a.getD i 0 - b.getD i 0) / 65536) ((i + 1 : Nat) : Int)) v → Ev (fun k => F k a b out c (i : Int)) v)
    (fin : ∀ (out : List Int) (c : Int) (i : Nat), a.length ≤ i → ∀ k, F (k + 1) a b out c (i : Int) = (vernierref01_cut.f k out).bind fun t => some t) :
    ∀ (d i : Nat) (out : List Int) (c : Int), a.length = i + d → out.length = i → Dig 65536 out → -1 ≤ c → c ≤ 0 → Aside0 (V 65536 out + c * 65536 ^ i = V 65536 (a.take i) - V 65536 (b.take i)) →
      Ev (fun k => F k a b out c (i : Int)) (dg 65536 (V 65536 a - V 65536 b))
  | 0, i, out, c, hd, ho, hD, h0, h1, hI => by
    have hI := hI.out
    rw [V_take_all _ a (by omega), V_take_all _ b (by omega)] at hI
    have hlt := V_lt D_pos hD
    have hnn := V_nonneg D_pos hD
    have pp := pow_pos' D_pos i
    rw [ho] at hlt
    have hc : c = 0 := by
      have : c = 0 ∨ c = -1 := by omega
      rcases this with h | h
      · exact h
      · subst h; exfalso; omega
    subst hc
    rw [Int.zero_mul, Int.add_zero] at hI
    rw [← hI]
    exact Ev.step (fun k => fin out 0 i (by omega) k) (rcut_ev' out (by omega) hD)
  | d + 1, i, out, c, hd, ho, hD, h0, h1, hI => by
    have ga := ha.getD D_pos i
    have gb := hb.getD D_pos i
    refine step i out c h0 h1 (by omega) (by omega) (rsub_loop F a b ha hb hl hle hbl step fin d (i + 1) _ _ (by omega) (by simp; omega) (hD.append (Dig.cons (by omega) (by omega) (Dig.nil _))) (by omega) (by omega) ⟨?_⟩)
    have hI := hI.out
    rw [V_append, V_take_succ, V_take_succ, ho, Int.pow_succ]
    simp only [V]
    have hs := Int.emod_add_mul_ediv (c + a.getD i 0 - b.getD i 0) 65536
    clear hle
    generalize (c + a.getD i 0 - b.getD i 0) % 65536 = m at *
    generalize (c + a.getD i 0 - b.getD i 0) / 65536 = q at *
    generalize a.getD i 0 = x at *
    generalize b.getD i 0 = y at *
    generalize (65536 : Int) ^ i = p at *
    have : p * (m + 65536 * q) = p * (c + x - y) := by rw [hs]
    grind
theorem rsub_ev (a b : List Int) (ha : Nrm 65536 a) (hb : Nrm 65536 b) (hla : a.length ≤ 17592186044415) (hlb : b.length ≤ 17592186044415) : Ev (fun k => vernierref01_Sub.f k a b) (dg 65536 ((V 65536 a - V 65536 b).natAbs : Int)) := by
  unfold vernierref01_Sub.f
  refine Ev.bind (rcmp_ev a b ha hb (by omega) (by omega)) ?_
  by_cases h : V 65536 a < V 65536 b
  · refine Ev.congr (fun k => if_pos (sgn_neg_iff.2 (by omega))) ?_
    have hln : a.length ≤ b.length := nrm_len one_lt_D ha hb.1 (by omega)
    have := rsub_loop vernierref01_Sub.l0 b a hb.1 ha.1 hlb (by omega) hln (fun i out c x1 x2 x3 x4 {v} hv => rsub0_step b a hb.1 ha.1 i out c x1 x2 x3 x4 (by omega) hv)
      (fun out c i hi k => by simp only [vernierref01_Sub.l0]; rw [if_neg (by omega)]) b.length 0 [] 0 (by omega) rfl (Dig.nil _) (by omega) (by omega) ⟨by simp [V]⟩
    rw [show ((V 65536 a - V 65536 b).natAbs : Int) = V 65536 b - V 65536 a by omega]
    exact this
  · refine Ev.congr (fun k => if_neg (fun h' => h (by have := sgn_neg_iff.1 h'; omega))) ?_
    have hln : b.length ≤ a.length := nrm_len one_lt_D hb ha.1 (by omega)
    have := rsub_loop vernierref01_Sub.l1 a b ha.1 hb.1 hla (by omega) hln (fun i out c x1 x2 x3 x4 {v} hv => rsub1_step a b ha.1 hb.1 i out c x1 x2 x3 x4 (by omega) hv)
      (fun out c i hi k => by simp only [vernierref01_Sub.l1]; rw [if_neg (by omega)]) a.length 0 [] 0 (by omega) rfl (Dig.nil _) (by omega) (by omega) ⟨by simp [V]⟩
    rw [show ((V 65536 a - V 65536 b).natAbs : Int) = V 65536 a - V 65536 b by omega]
    exact this
end Go.Proofs.Ytfmdjhfnbiekaaa.PF
