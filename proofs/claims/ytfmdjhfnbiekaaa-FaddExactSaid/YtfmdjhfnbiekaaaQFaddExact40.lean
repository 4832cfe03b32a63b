/- What the reference's shifts, quotients and roundings compute. -/
import Derived.Test.YtfmdjhfnbiekaaaQFaddExact23
import Derived.Test.YtfmdjhfnbiekaaaQFaddExact25
import Derived.Test.YtfmdjhfnbiekaaaQFaddExact11
import Derived.Test.YtfmdjhfnbiekaaaQFaddExact12
import Derived.Test.YtfmdjhfnbiekaaaQFaddExact13
import Derived.Test.YtfmdjhfnbiekaaaQFaddExact28
import Derived.Test.YtfmdjhfnbiekaaaQFaddExact29
import Derived.Test.YtfmdjhfnbiekaaaQFaddExact30
import Derived.Test.YtfmdjhfnbiekaaaQFaddExact33
import Derived.Test.YtfmdjhfnbiekaaaQFaddExact36
import Derived.Test.YtfmdjhfnbiekaaaQFaddExact37
import Derived.Test.YtfmdjhfnbiekaaaQFaddExact38
import Derived.Test.YtfmdjhfnbiekaaaQFaddExact39
import Derived.Test.YtfmdjhfnbiekaaaQFaddExact35
namespace Go.Proofs.Ytfmdjhfnbiekaaa.PA
open Go.RowKit Go.Proofs.YtfmdjhfnbiekaaaW.PrintWords Go.Proofs.YtfmdjhfnbiekaaaW.PrintLast Go.Proofs.YtfmdjhfnbiekaaaW.PrintMore Go.Proofs.Ytfmdjhfnbiekaaa.Num Go.Proofs.Ytfmdjhfnbiekaaa.Flt
set_option linter.unusedVariables false
set_option linter.unusedSimpArgs false
theorem pow16 (n : Nat) : (2 : Int) ^ n = 65536 ^ (n / 16) * 2 ^ (n % 16) := by
  have e : (65536 : Int) = 2 ^ 16 := by decide
  rw [e, ← Int.pow_mul, ← Int.pow_add]
  congr 1
  omega
theorem pow2_lt16 {m : Nat} (h : m ≤ 15) : (2 : Int) ^ m ≤ 32768 := by
  have := two_pow_mono h
  have e : (2 : Int) ^ 15 = 32768 := by decide
  omega
theorem Nd.one {x : Int} (h0 : 0 < x) (h1 : x < 65536) : Nd [x] x 1 := ⟨⟨Dig.cons (by omega) h1 (Dig.nil _), .inr (by simp; omega)⟩, by simp [V], by simp⟩
theorem Nd.pow_lt {a v m} (h : Nd a v m) (n : Nat) : 2 ^ n * v < 65536 ^ (n / 16 + 1 + m) := by
  rw [Int.pow_add, pow16]
  have h1 := h.lt
  have h0 := h.nonneg
  have hp := pow_pos' D_pos (n / 16)
  have e1 := pow2_lt16 (m := n % 16) (by omega)
  have e2 : (65536 : Int) ^ (n / 16) * 2 ^ (n % 16) ≤ 65536 ^ (n / 16 + 1) := by
    rw [Int.pow_succ]
    exact Int.mul_le_mul_of_nonneg_left (by omega) (by omega)
  calc (65536 : Int) ^ (n / 16) * 2 ^ (n % 16) * v ≤ 65536 ^ (n / 16 + 1) * v := Int.mul_le_mul_of_nonneg_right e2 h0
    _ < 65536 ^ (n / 16 + 1) * 65536 ^ m := Int.mul_lt_mul_of_pos_left h1 (pow_pos' D_pos _)
theorem rshl_loop {a : List Int} {v : Int} {m : Nat} (h : Nd a v m) (n : Nat) (hm : n / 16 + m + 2 < 17592186044416) (hn : n < 4611686018427387904) : ∀ (d i : Nat), n % 16 = i + d →
    Ev (fun k => vernierref01_Shl.l0 k a (n : Int) (List.replicate (n / 16) 0) (2 ^ i) (i : Int)) (dg 65536 (2 ^ n * v))
  | 0, i, hi => by
    have p0 := two_pow_pos i
    have p1 := pow2_lt16 (m := i) (by omega)
    obtain ⟨e1, n1⟩ := h.mul (Nd.one (x := 2 ^ i) p0 (by omega)) (by omega)
    have hl := n1.len
    refine Ev.step (f := fun k => (vernierref01_Mul.f k a [2 ^ i]).bind fun t => if (List.replicate (n / 16) (0 : Int)).length + t.length < 17592186044416 then (vernierref01_cut.f k (List.replicate (n / 16) 0 ++ t)).bind fun t' => some t' else none) (fun k => ?_) ?_
    · simp only [vernierref01_Shl.l0]
      rw [tmod_nn (by omega), if_neg (by omega)]
    refine Ev.bind e1 ?_
    refine Ev.congr (fun k => if_pos (by rw [List.length_replicate]; omega)) ?_
    have hd : Dig 65536 (List.replicate (n / 16) 0 ++ dg 65536 (v * 2 ^ i)) := (Dig.replicate D_pos _).append n1.nrm.1
    have e2 := rcut_ev' _ (by rw [List.length_append, List.length_replicate]; omega) hd
    have ev : V 65536 (List.replicate (n / 16) 0 ++ dg 65536 (v * 2 ^ i)) = 2 ^ n * v := by
      rw [V_append, V_replicate, List.length_replicate, n1.val, pow16 n, show n % 16 = i by omega]
      grind
    rw [ev] at e2
    exact e2
  | d + 1, i, hi => by
    have p1 := pow2_lt16 (m := i) (by omega)
    have p0 := two_pow_pos i
    refine Ev.step (f := fun k => vernierref01_Shl.l0 k a (n : Int) (List.replicate (n / 16) 0) (2 ^ (i + 1)) ((i + 1 : Nat) : Int)) (fun k => ?_) (rshl_loop h n hm hn d (i + 1) (by omega))
    simp only [vernierref01_Shl.l0]
    rw [tmod_nn (by omega), if_pos (by omega), w64 (x := 2 * 2 ^ i) (by omega) (by omega), w64 (by omega) (by omega), Int.pow_succ, Int.mul_comm]
    rfl
theorem Nd.shl {a v m} (h : Nd a v m) (n : Nat) (hm : n / 16 + m + 2 < 17592186044416) (hn : n < 4611686018427387904) : Ev (fun k => vernierref01_Shl.f k a (n : Int)) (Num.dg 65536 (2 ^ n * v)) ∧ Nd (Num.dg 65536 (2 ^ n * v)) (2 ^ n * v) (n / 16 + 1 + m) := by
  refine ⟨?_, Nd.dg (Int.mul_nonneg (Int.le_of_lt (two_pow_pos n)) h.nonneg) (h.pow_lt n)⟩
  have ew : wrap64 (Int.tdiv (n : Int) 16) = ((n / 16 : Nat) : Int) := by rw [tdiv_nn (by omega), w64 (by omega) (by omega)]; omega
  unfold vernierref01_Shl.f
  rw [ew, Int.toNat_natCast]
  refine Ev.congr (fun k => (if_pos (by omega)).trans (if_pos (by omega))) ?_
  have := rshl_loop h n hm hn (n % 16) 0 (by omega)
  exact this
end Go.Proofs.Ytfmdjhfnbiekaaa.PA
