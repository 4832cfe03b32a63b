/- Parts of a proof. -/
import Derived.Test.YtjgdpjbkmcjbcaaDoorQDyadicPlain30
import Derived.Test.YtjgdpjbkmcjbcaaDoorQDyadicPlain32
import Derived.Test.YtjgdpjbkmcjbcaaDoorQDyadicPlain43
import Derived.Test.YtjgdpjbkmcjbcaaDoorQDyadicPlain44
import Derived.Test.YtjgdpjbkmcjbcaaDoorQDyadicPlain45
import Derived.Test.YtjgdpjbkmcjbcaaDoorQDyadicPlain37
import Derived.Test.YtjgdpjbkmcjbcaaDoorQDyadicPlain29
import Derived.Test.YtjgdpjbkmcjbcaaDoorQDyadicPlain28
import Derived.Lib.TrailingZeros
import Derived.Test.YtjgdpjbkmcjbcaaDoorQDyadicPlain31
import Derived.Test.YtjgdpjbkmcjbcaaDoorQDyadicPlain33
import Derived.Test.YtjgdpjbkmcjbcaaDoorQDyadicPlain34
import Derived.Test.YtjgdpjbkmcjbcaaDoorQDyadicPlain39
import Derived.Test.YtjgdpjbkmcjbcaaDoorQDyadicPlain47
import Derived.Test.YtjgdpjbkmcjbcaaDoorQDyadicPlain41
import Derived.Test.YtjgdpjbkmcjbcaaDoorQDyadicPlain12
import Derived.Test.YtjgdpjbkmcjbcaaDoorQDyadicPlain13
import Derived.Test.YtjgdpjbkmcjbcaaDoorQDyadicPlain46
import Derived.Test.YtjgdpjbkmcjbcaaDoorQDyadicPlain36
section
namespace Go.Proofs.YtjgdpjbkmcjbcaaDoor.PG
open Go.RowKit Go.Proofs.YtjgdpjbkmcjbcaaDoorW.PrintWords Go.Proofs.YtjgdpjbkmcjbcaaDoorW.PrintLast Go.Proofs.YtjgdpjbkmcjbcaaDoor.Num
set_option linter.unusedVariables false
set_option linter.unusedSimpArgs false
def wz (z : Int) : Bool × List Int := (decide (z < 0), dg 18446744073709551616 (z.natAbs : Int))
structure Wh (s : Bool) (a : List Int) (z : Int) (n : Nat) : Prop where
  nm : Nm a (z.natAbs : Int) n
  val : z = sv s (z.natAbs : Int)
theorem Wh.of {s a v n} (h : Nm a v n) : Wh s a (sv s v) n := by
  have h0 := h.nonneg
  have e : (((sv s v).natAbs : Nat) : Int) = v := by unfold sv; split <;> omega
  exact ⟨by rw [e]; exact h, by rw [e]⟩
theorem Wh.made {z : Int} {n : Nat} (h : (z.natAbs : Int) < 18446744073709551616 ^ n) : Wh (wz z).1 (wz z).2 z n := by
  refine ⟨Nm.dg (by omega) h, ?_⟩
  unfold sv wz
  simp only [decide_eq_true_eq]
  split <;> omega
theorem Wh.lt {s a z n} (h : Wh s a z n) : (z.natAbs : Int) < 18446744073709551616 ^ n := h.nm.lt
theorem Wh.mono {s a z n m} (h : Wh s a z n) (hm : n ≤ m) : Wh s a z m := ⟨h.nm.mono hm, h.val⟩
theorem wmade_ev {s : Bool} {l : List Int} {v : Int} {n : Nat} (h : Nm l v n) (hn : n ≤ 17592186044416) : Ev (fun k => whole_made.f k s l) (wz (sv s v)) := by
  have h0 := h.nonneg
  unfold whole_made.f
  refine Ev.bind (h.norm hn).1 ?_
  have e : (((sv s v).natAbs : Nat) : Int) = v := by unfold sv; split <;> omega
  have hz := dg_nil (B := 18446744073709551616) one_lt_B h0
  cases s
  · have : wz (sv false v) = (false, dg 18446744073709551616 v) := by
      unfold wz
      rw [e]
      congr 1
      exact decide_eq_false (by simp [sv]; omega)
    rw [this]
    exact Ev.congr (fun k => if_neg (by decide)) (Ev.now _)
  · have : wz (sv true v) = (decide (((dg 18446744073709551616 v).length : Int) > 0), dg 18446744073709551616 v) := by
      unfold wz
      rw [e]
      congr 1
      refine decide_eq_decide.2 ?_
      have : sv true v = -v := rfl
      rw [this]
      constructor
      · intro h1
        have : dg 18446744073709551616 v ≠ [] := fun h2 => by have := hz.1 h2; omega
        have := List.length_pos_iff.2 this
        omega
      · intro h1
        have : v ≠ 0 := fun h2 => by have h3 := hz.2 h2; rw [h3] at h1; simp at h1
        omega
    rw [this]
    exact Ev.congr (fun k => if_pos rfl) (Ev.now _)
theorem Wh.add {s a x n t b y m} (p : Nat) (h : Wh s a x n) (g : Wh t b y m) (hn : n ≤ p) (hm : m ≤ p) (hp : p < 17592186044416) : Ev (fun k => whole_Add.f k s a t b) (wz (x + y)) ∧ Wh (wz (x + y)).1 (wz (x + y)).2 (x + y) (p + 1) := by
  have l1 := (h.mono hn).lt
  have l2 := (g.mono hm).lt
  refine ⟨?_, Wh.made (by rw [Int.pow_succ]; omega)⟩
  have hx := h.val
  have hy := g.val
  unfold whole_Add.f
  by_cases e : s = t
  · subst e
    refine Ev.congr (fun k => if_pos (by simp)) ?_
    obtain ⟨e1, n1⟩ := h.nm.add p g.nm hn hm (by omega)
    have ez : sv s ((x.natAbs : Int) + (y.natAbs : Int)) = x + y := by
      clear e1 n1 l1 l2
      revert hx hy
      unfold sv
      cases s <;> intro hx hy <;> simp only [Bool.false_eq_true, ↓reduceIte] at hx hy ⊢ <;> omega
    have e2 := wmade_ev (s := s) n1 (by omega)
    rw [ez] at e2
    exact Ev.bind e1 (Ev.bind e2 (Ev.now _))
  · refine Ev.congr (fun k => if_neg (by simpa using e)) ?_
    obtain ⟨e1, n1⟩ := h.nm.sub p g.nm hn hm (by omega)
    refine Ev.bind (h.nm.cmp g.nm (by omega) (by omega)) ?_
    have key : ∀ (c : Bool) (fs : Bool), sv fs ((((x.natAbs : Int) - (y.natAbs : Int)).natAbs : Nat) : Int) = x + y → Ev (fun k => whole_made.f k fs (dg 18446744073709551616 (((x.natAbs : Int) - (y.natAbs : Int)).natAbs : Int))) (wz (x + y)) := by
      intro c fs hf
      have e2 := wmade_ev (s := fs) n1 (by omega)
      rwa [hf] at e2
    by_cases hlt : (x.natAbs : Int) < (y.natAbs : Int)
    · have ec : decide (sgn ((x.natAbs : Int) - (y.natAbs : Int)) < 0) = true := decide_eq_true (sgn_neg_iff.2 (by omega))
      rw [ec]
      refine Ev.bind (a := (t, b)) (by unfold api_Whole.f; exact Ev.congr (fun k => if_pos rfl) (Ev.now _)) ?_
      refine Ev.bind e1 (Ev.bind (key true t ?_) (Ev.now _))
      clear key e1 n1 l1 l2 ec
      revert hx hy e
      unfold sv
      cases s <;> cases t <;> intro hx hy e <;> first | exact absurd rfl e | (simp only [Bool.false_eq_true, ↓reduceIte] at hx hy ⊢; omega)
    · have ec : decide (sgn ((x.natAbs : Int) - (y.natAbs : Int)) < 0) = false := decide_eq_false (fun h' => hlt (by have := sgn_neg_iff.1 h'; omega))
      rw [ec]
      refine Ev.bind (a := (s, a)) (by unfold api_Whole.f; exact Ev.congr (fun k => if_neg (by decide)) (Ev.now _)) ?_
      refine Ev.bind e1 (Ev.bind (key true s ?_) (Ev.now _))
      clear key e1 n1 l1 l2 ec
      revert hx hy e
      unfold sv
      cases s <;> cases t <;> intro hx hy e <;> first | exact absurd rfl e | (simp only [Bool.false_eq_true, ↓reduceIte] at hx hy ⊢; omega)
theorem Wh.neg {s a x n} (h : Wh s a x n) (hn : n ≤ 17592186044416) : Ev (fun k => whole_Neg.f k s a) (wz (-x)) ∧ Wh (wz (-x)).1 (wz (-x)).2 (-x) n := by
  refine ⟨?_, Wh.made (by have := h.lt; rwa [Int.natAbs_neg])⟩
  unfold whole_Neg.f
  have e := wmade_ev (s := !s) h.nm hn
  have ez : sv (!s) (x.natAbs : Int) = -x := by
    have hx := h.val
    revert hx
    unfold sv
    cases s <;> simp <;> omega
  rw [ez] at e
  exact Ev.bind e (Ev.now _)
theorem Wh.sub {s a x n t b y m} (p : Nat) (h : Wh s a x n) (g : Wh t b y m) (hn : n ≤ p) (hm : m ≤ p) (hp : p < 17592186044416) : Ev (fun k => whole_Sub.f k s a t b) (wz (x - y)) ∧ Wh (wz (x - y)).1 (wz (x - y)).2 (x - y) (p + 1) := by
  obtain ⟨e1, g1⟩ := g.neg (by omega)
  obtain ⟨e2, g2⟩ := h.add p g1 hn hm hp
  rw [← Int.sub_eq_add_neg] at e2 g2
  refine ⟨?_, g2⟩
  unfold whole_Sub.f
  exact Ev.bind e1 (Ev.bind e2 (Ev.now _))
theorem Wh.mul {s a x n t b y m} (h : Wh s a x n) (g : Wh t b y m) (hp : n + m ≤ 17592186044416) : Ev (fun k => whole_Mul.f k s a t b) (wz (x * y)) ∧ Wh (wz (x * y)).1 (wz (x * y)).2 (x * y) (n + m) := by
  obtain ⟨e1, n1⟩ := h.nm.mul g.nm (by omega)
  have ea : (((x * y).natAbs : Nat) : Int) = (x.natAbs : Int) * (y.natAbs : Int) := by rw [Int.natAbs_mul]; simp
  refine ⟨?_, Wh.made (by rw [ea]; exact n1.lt)⟩
  unfold whole_Mul.f
  have e2 := wmade_ev (s := s != t) n1 hp
  have ez : sv (s != t) ((x.natAbs : Int) * (y.natAbs : Int)) = x * y := by
    have hx := h.val
    have hy := g.val
    generalize (x.natAbs : Int) = v at hx
    generalize (y.natAbs : Int) = w at hy
    subst hx
    subst hy
    unfold sv
    cases s <;> cases t <;> simp [Int.mul_neg, Int.neg_mul]
  rw [ez] at e2
  exact Ev.bind e1 (Ev.bind e2 (Ev.now _))
theorem Wh.sign {s a x n} (h : Wh s a x n) (hn : n ≤ 35184372088832) : Ev (fun k => whole_Sign.f k s a) (sgn x) := by
  unfold whole_Sign.f
  refine Ev.bind (h.nm.bits hn) ?_
  have hb := bitsOf_zero_iff (v := (x.natAbs : Int)) (by omega)
  have hx := h.val
  by_cases h0 : x = 0
  · refine Ev.congr (fun k => if_pos (hb.2 (by omega))) ?_
    subst h0
    exact Ev.now _
  · refine Ev.congr (fun k => if_neg (fun h' => by have := hb.1 h'; omega)) ?_
    cases s
    · refine Ev.congr (fun k => if_neg (by decide)) ?_
      have : sgn x = 1 := by unfold sgn; unfold sv at hx; rw [if_neg (by decide)] at hx; rw [if_neg (by omega), if_neg h0]
      rw [this]
      exact Ev.now _
    · refine Ev.congr (fun k => if_pos rfl) ?_
      have : sgn x = -1 := by unfold sgn; unfold sv at hx; rw [if_pos rfl] at hx; rw [if_pos (by omega)]
      rw [this]
      exact Ev.now _
theorem Wh.cmp {s a x n t b y m} (p : Nat) (h : Wh s a x n) (g : Wh t b y m) (hn : n ≤ p) (hm : m ≤ p) (hp : p < 17592186044416) : Ev (fun k => whole_Cmp.f k s a t b) (sgn (x - y)) := by
  obtain ⟨e1, g1⟩ := h.sub p g hn hm hp
  unfold whole_Cmp.f
  exact Ev.bind e1 (Ev.bind (g1.sign (by omega)) (Ev.now _))
theorem wof_ev {x : Int} (h0 : -9223372036854775808 ≤ x) (h1 : x ≤ 9223372036854775807) : Ev (fun k => whole_Of.f k x) (wz x) ∧ Wh (wz x).1 (wz x).2 x 1 := by
  refine ⟨?_, Wh.made (by omega)⟩
  unfold whole_Of.f
  by_cases h : x < 0
  · refine Ev.congr (fun k => if_pos h) ?_
    have ew : IntKind.u64.wrap (-(IntKind.u64.wrap x)) = -x := by rw [IntKind.wrap_u64, IntKind.wrap_u64]; omega
    have e := wmade_ev (s := true) (Nm.one (x := -x) (n := 1) (by omega) (by omega) (by omega)) (by omega)
    rw [show sv true (-x) = x by unfold sv; rw [if_pos rfl]; omega] at e
    rw [ew, decide_eq_true h]
    exact Ev.bind e (Ev.now _)
  · refine Ev.congr (fun k => if_neg h) ?_
    have e := wmade_ev (s := false) (Nm.one (x := x) (n := 1) (by omega) (by omega) (by omega)) (by omega)
    rw [show sv false x = x by unfold sv; rw [if_neg (by decide)]] at e
    rw [u64w (by omega) (by omega), decide_eq_false h]
    exact Ev.bind e (Ev.now _)
end Go.Proofs.YtjgdpjbkmcjbcaaDoor.PG
end
section
namespace Go.Proofs.YtjgdpjbkmcjbcaaDoor.PG
open Go.RowKit Go.Proofs.YtjgdpjbkmcjbcaaDoorW.PrintWords Go.Proofs.YtjgdpjbkmcjbcaaDoorW.PrintLast Go.Proofs.YtjgdpjbkmcjbcaaDoorW.PrintMore Go.Proofs.YtjgdpjbkmcjbcaaDoor.Num
set_option linter.unusedVariables false
set_option linter.unusedSimpArgs false
def Odd2 (v : Int) (t : Nat) (m : Int) : Prop := v = 2 ^ t * (2 * m + 1)
theorem Odd2.uniq {v : Int} {t s : Nat} {m n : Int} (h : Odd2 v t m) (g : Odd2 v s n) : t = s ∧ m = n := by
  unfold Odd2 at h g
  have key : ∀ (a b : Nat) (x y : Int), a ≤ b → (2 : Int) ^ a * (2 * x + 1) = 2 ^ b * (2 * y + 1) → a = b ∧ x = y := by
    intro a b x y hab e
    obtain ⟨d, rfl⟩ : ∃ d, b = a + d := ⟨b - a, by omega⟩
    have hp := two_pow_pos a
    rw [Int.pow_add, Int.mul_assoc] at e
    have e2 := Int.eq_of_mul_eq_mul_left (by omega) e
    cases d with
    | zero =>
      rw [Int.pow_zero, Int.one_mul] at e2
      exact ⟨rfl, by omega⟩
    | succ d =>
      exfalso
      rw [Int.pow_succ] at e2
      generalize (2 : Int) ^ d = P at e2
      have : P * 2 * (2 * y + 1) = 2 * (P * (2 * y + 1)) := by grind
      omega
  rcases Nat.le_total t s with hts | hts
  · exact key t s m n hts (by rw [← h, ← g])
  · have := key s t n m hts (by rw [← h, ← g])
    exact ⟨this.1.symm, this.2.symm⟩
theorem tz_some {x : Int} (h0 : 0 < x) (h1 : x < 18446744073709551616) : ∃ (c : Nat) (m : Int), bits_TrailingZeros64.f x = some (c : Int) ∧ c < 64 ∧ 0 ≤ m ∧ Odd2 x c m := by
  obtain ⟨n, rfl⟩ := Int.eq_ofNat_of_zero_le (Int.le_of_lt h0)
  obtain ⟨m, hm, hc⟩ := Lib.ctzFrom_spec 64 n (by omega) (by omega)
  refine ⟨Lib.ctzFrom 64 n, m, ?_, hc, by omega, ?_⟩
  · unfold bits_TrailingZeros64.f
    rw [if_pos ⟨by omega, by omega⟩, Int.toNat_natCast]
    unfold Lib.ctz
    rw [if_neg (by omega)]
  · unfold Odd2
    have : ((n : Nat) : Int) = ((2 ^ Lib.ctzFrom 64 n * (2 * m + 1) : Nat) : Int) := congrArg _ hm
    rw [this]
    push_cast
    rfl
theorem low_zeros {l : List Int} {i : Nat} (hi : i ≤ l.length) (h : ∀ j, j < i → l.getD j 0 = 0) : V 18446744073709551616 l = 18446744073709551616 ^ i * V 18446744073709551616 (l.drop i) := by
  have a := V_split 18446744073709551616 l hi
  have b : V 18446744073709551616 (l.take i) = 0 := V_zeros 18446744073709551616 _ (fun j => by
    rw [getD_take]
    split
    · exact h j (by omega)
    · rfl)
  rw [a, b]
  omega
theorem odd_high {x Y : Int} {c : Nat} {m : Int} (hc : c < 64) (h : Odd2 x c m) (i : Nat) : Odd2 (18446744073709551616 ^ i * (x + 18446744073709551616 * Y)) (64 * i + c) (m + 2 ^ (63 - c) * Y) := by
  unfold Odd2 at h ⊢
  have e1 : (18446744073709551616 : Int) = 2 ^ 64 := by decide
  have e2 : (18446744073709551616 : Int) ^ i = 2 ^ (64 * i) := by rw [e1, ← Int.pow_mul]
  have e3 : (18446744073709551616 : Int) = 2 ^ c * (2 ^ (63 - c) * 2) := by
    rw [← Int.mul_assoc, ← Int.pow_add, ← Int.pow_succ, show (c + (63 - c)).succ = 64 by omega]
    rfl
  have e4 : 18446744073709551616 * Y = 2 ^ c * (2 ^ (63 - c) * 2) * Y := by rw [← e3]
  rw [e2, e4, h, Int.pow_add]
  grind
theorem zeros_loop (l : List Int) (hd : Dig 18446744073709551616 l) (hl : l.length ≤ 17592186044416) : ∀ (d i : Nat), l.length = i + d → (∀ j, j < i → l.getD j 0 = 0) →
    ∃ n : Nat, Ev (fun k => natdiv_Zeros.l0 k l (l.length : Int) (i : Int)) (n : Int) ∧ ((V 18446744073709551616 l = 0 ∧ n = 0) ∨ ∃ m, 0 ≤ m ∧ Odd2 (V 18446744073709551616 l) n m ∧ n < 64 * l.length)
  | 0, i, hi, hz => by
    refine ⟨0, Ev.step (f := fun _ => some 0) (fun k => ?_) (Ev.now _), .inl ⟨?_, rfl⟩⟩
    · rw [natdiv_Zeros.l0, if_neg (by omega)]
    · rw [low_zeros (i := i) (by omega) hz, V_drop_all _ _ (by omega)]
      omega
  | d + 1, i, hi, hz => by
    have hx := hd.getD B_pos i
    by_cases h0 : l.getD i 0 = 0
    · obtain ⟨n, e, h⟩ := zeros_loop l hd hl d (i + 1) (by omega) (fun j hj => by
        by_cases e : j = i
        · rw [e]; exact h0
        · exact hz j (by omega))
      refine ⟨n, Ev.step (f := fun k => natdiv_Zeros.l0 k l (l.length : Int) ((i + 1 : Nat) : Int)) (fun k => ?_) e, h⟩
      rw [natdiv_Zeros.l0, rd_nat, if_pos (by omega), if_pos (by omega), if_pos (by omega), if_pos h0, w64 (by omega) (by omega)]
      rfl
    · obtain ⟨c, m, hf, hc, hm, ho⟩ := tz_some (x := l.getD i 0) (by omega) hx.2
      have hv := low_zeros (l := l) (i := i) (by omega) hz
      rw [V_drop_succ 18446744073709551616 l i (by omega)] at hv
      have hodd := odd_high (Y := V 18446744073709551616 (l.drop (i + 1))) hc ho i
      rw [← hv] at hodd
      have hY := V_nonneg B_pos (hd.drop (i + 1))
      refine ⟨64 * i + c, Ev.step (f := fun _ => some ((64 * i + c : Nat) : Int)) (fun k => ?_) (Ev.now _), .inr ⟨_, ?_, hodd, by omega⟩⟩
      · rw [natdiv_Zeros.l0, rd_nat, if_pos (by omega), if_pos (by omega), if_pos (by omega), if_neg h0, hf]
        simp only [Option.bind_some]
        rw [w64 (x := 64 * (i : Int)) (by omega) (by omega), w64 (by omega) (by omega)]
        congr 1
      · have := Int.mul_nonneg (Int.le_of_lt (two_pow_pos (63 - c))) hY
        omega
theorem Nm.zeros {a v n} (h : Nm a v n) (hn : n ≤ 17592186044416) : ∃ t : Nat, Ev (fun k => natdiv_Zeros.f k a) (t : Int) ∧ ((v = 0 ∧ t = 0) ∨ ∃ m, 0 ≤ m ∧ Odd2 v t m ∧ t < 64 * n) := by
  have hl := h.len
  obtain ⟨t, e, ht⟩ := zeros_loop a h.dig (by omega) a.length 0 (by omega) (fun j hj => by omega)
  rw [h.val] at ht
  refine ⟨t, Ev.congr (fun k => rfl) e, ht.imp id ?_⟩
  rintro ⟨m, h0, h1, h2⟩
  exact ⟨m, h0, h1, by omega⟩
end Go.Proofs.YtjgdpjbkmcjbcaaDoor.PG
end
section
namespace Go.Proofs.YtjgdpjbkmcjbcaaDoor.PG
open Go.RowKit Go.Proofs.YtjgdpjbkmcjbcaaDoorW.PrintWords Go.Proofs.YtjgdpjbkmcjbcaaDoorW.PrintLast Go.Proofs.YtjgdpjbkmcjbcaaDoorW.PrintMore Go.Proofs.YtjgdpjbkmcjbcaaDoor.Num
set_option linter.unusedVariables false
set_option linter.unusedSimpArgs false
def dmay (l : List Int) (e : Int) : Prop := -16384 ≤ e ∧ e ≤ 16384 ∧ l.length ≤ 1024
instance (l : List Int) (e : Int) : Decidable (dmay l e) := by unfold dmay; exact inferInstance
theorem check_ok {s : Bool} {l : List Int} {e : Int} (h : dmay l e) : dyadic_Check.f s l e = some 0 := by
  obtain ⟨h0, h1, h2⟩ := h
  unfold dyadic_Check.f
  rw [if_neg (by omega), if_neg (by omega), if_neg (by omega)]
theorem check_no {s : Bool} {l : List Int} {e : Int} (h : ¬ dmay l e) : dyadic_Check.f s l e = some 9 := by
  unfold dmay at h
  unfold dyadic_Check.f
  by_cases h0 : e < -16384
  · rw [if_pos h0]
  · rw [if_neg h0]
    by_cases h1 : e > 16384
    · rw [if_pos h1]
    · rw [if_neg h1, if_pos (by omega)]
theorem may_some (s : Bool) (l : List Int) (e : Int) : vernierlaw04_may.f s l e = some (decide (dmay l e)) := by
  unfold vernierlaw04_may.f
  by_cases h0 : e ≥ -16384
  · rw [if_pos h0]
    by_cases h1 : e ≤ 16384
    · rw [if_pos h1]
      congr 1
      refine decide_eq_decide.2 ?_
      unfold dmay
      omega
    · rw [if_neg h1, decide_eq_false (by unfold dmay; omega)]
  · rw [if_neg h0, decide_eq_false (by unfold dmay; omega)]
def dtold (s : Bool) (l : List Int) (e : Int) : Bool × List Int × Int × Int := if dmay l e then (s, l, e, 0) else (false, [], 0, 4)
theorem dtold_loop {v : Int} {n : Nat} (hn : n ≤ 10000000) (x1 x6 : Int) (s : Bool) (og : List Int) : ∀ (f left : Nat) (a : List Int) (d : Nat), left ≤ f → left < 1000000000 → Nm a (v / 2 ^ d) n →
    Ev (fun k => dyadic_told.l0 k x1 x6 a (left : Int) s og) (dtold s (dg 18446744073709551616 (v / 2 ^ (d + left))) (wrap64 (x1 + x6)))
  | f, 0, a, d, hf, hl, ha => by
    obtain ⟨e1, n1⟩ := ha.norm (by omega)
    refine Ev.step (f := _) (fun k => by rw [dyadic_told.l0, if_neg (by omega)]) (Ev.bind e1 ?_)
    rw [Nat.add_zero]
    unfold dtold
    by_cases hm : dmay (dg 18446744073709551616 (v / 2 ^ d)) (wrap64 (x1 + x6))
    · rw [if_pos hm]
      exact Ev.bind (g := fun _ => dyadic_Check.f s (dg 18446744073709551616 (v / 2 ^ d)) (wrap64 (x1 + x6))) (Ev.congr (fun _ => check_ok hm) (Ev.now _)) (Ev.congr (fun k => if_pos rfl) (Ev.now _))
    · rw [if_neg hm]
      exact Ev.bind (g := fun _ => dyadic_Check.f s (dg 18446744073709551616 (v / 2 ^ d)) (wrap64 (x1 + x6))) (Ev.congr (fun _ => check_no hm) (Ev.now _)) (Ev.congr (fun k => if_neg (by decide)) (Ev.now _))
  | 0, left + 1, a, d, hf, hl, ha => by omega
  | f + 1, left + 1, a, d, hf, hl, ha => by
    obtain ⟨c, hc, hc1, hc2⟩ : ∃ c : Nat, mn ((left + 1 : Nat) : Int) 65536 = (c : Int) ∧ 0 < c ∧ c ≤ 65536 := ⟨(mn ((left + 1 : Nat) : Int) 65536).toNat, by unfold mn; split <;> omega⟩
    have hcl : c ≤ left + 1 := by unfold mn at hc; split at hc <;> omega
    obtain ⟨e1, n1⟩ := ha.Shr c (by omega) hc2
    have ed : v / 2 ^ d / 2 ^ c = v / 2 ^ (d + c) := by rw [ediv_two (two_pow_pos d), ← Int.pow_add]
    rw [ed] at e1 n1
    by_cases hlast : left + 1 ≤ 65536
    · have hcc : c = left + 1 := by unfold mn at hc; split at hc <;> omega
      have hrec := dtold_loop hn x1 x6 s og f 0 _ (d + c) (by omega) (by omega) n1
      rw [Nat.add_zero, hcc] at hrec
      have hneg : Ev (fun k => dyadic_told.l0 k x1 x6 (dg 18446744073709551616 (v / 2 ^ (d + (left + 1)))) (wrap64 (((left + 1 : Nat) : Int) - 65536)) s og) (dtold s (dg 18446744073709551616 (v / 2 ^ (d + (left + 1)))) (wrap64 (x1 + x6))) := by
        rw [hcc] at n1
        obtain ⟨e2, n2⟩ := n1.norm (by omega)
        refine Ev.step (f := _) (fun k => by rw [dyadic_told.l0, if_neg (by rw [w64 (by omega) (by omega)]; omega)]) (Ev.bind e2 ?_)
        unfold dtold
        by_cases hm : dmay (dg 18446744073709551616 (v / 2 ^ (d + (left + 1)))) (wrap64 (x1 + x6))
        · rw [if_pos hm]
          exact Ev.bind (g := fun _ => dyadic_Check.f s (dg 18446744073709551616 (v / 2 ^ (d + (left + 1)))) (wrap64 (x1 + x6))) (Ev.congr (fun _ => check_ok hm) (Ev.now _)) (Ev.congr (fun k => if_pos rfl) (Ev.now _))
        · rw [if_neg hm]
          exact Ev.bind (g := fun _ => dyadic_Check.f s (dg 18446744073709551616 (v / 2 ^ (d + (left + 1)))) (wrap64 (x1 + x6))) (Ev.congr (fun _ => check_no hm) (Ev.now _)) (Ev.congr (fun k => if_neg (by decide)) (Ev.now _))
      refine Ev.step (f := _) (fun k => by rw [dyadic_told.l0, if_pos (by omega), hc]) (Ev.bind e1 ?_)
      rw [hcc]
      exact hneg
    · have hcc : c = 65536 := by unfold mn at hc; split at hc <;> omega
      obtain ⟨r, hr⟩ : ∃ r, left + 1 = r + 65536 := ⟨left + 1 - 65536, by omega⟩
      have hrec := dtold_loop hn x1 x6 s og f r _ (d + c) (by omega) (by omega) n1
      rw [show d + c + r = d + (left + 1) by omega] at hrec
      refine Ev.step (f := _) (fun k => by rw [dyadic_told.l0, if_pos (by omega), hc]) (Ev.bind e1 ?_)
      rw [w64 (x := ((left + 1 : Nat) : Int) - 65536) (by omega) (by omega), show ((left + 1 : Nat) : Int) - 65536 = (r : Int) by omega]
      exact hrec
theorem dtold0_ev {s : Bool} {l : List Int} {n : Nat} (h : Nm l 0 n) (hn : n ≤ 10000000) (exp : Int) : Ev (fun k => dyadic_told.f k s l exp) (false, [], 0, 0) := by
  have hw : Wh s l (sv s 0) n := Wh.of h
  have e := hw.sign (by omega)
  have hz : sgn (sv s 0) = 0 := by cases s <;> rfl
  rw [hz] at e
  unfold dyadic_told.f
  exact Ev.bind e (Ev.congr (fun k => if_pos rfl) (Ev.now _))
theorem odd2_pos {v m : Int} {t : Nat} (h : Odd2 v t m) (hm : 0 ≤ m) : 0 < v := by
  unfold Odd2 at h
  rw [h]
  exact Int.mul_pos (two_pow_pos t) (by omega)
theorem odd2_div {v m : Int} {t : Nat} (h : Odd2 v t m) : v / 2 ^ t = 2 * m + 1 := by
  unfold Odd2 at h
  rw [h]
  exact Int.mul_ediv_cancel_left _ (by have := two_pow_pos t; omega)
theorem dtold_ev {s : Bool} {l : List Int} {v m : Int} {t n : Nat} (h : Nm l v n) (hn : n ≤ 10000000) (ho : Odd2 v t m) (hm : 0 ≤ m) (exp : Int) : Ev (fun k => dyadic_told.f k s l exp) (dtold s (dg 18446744073709551616 (2 * m + 1)) (wrap64 (exp + t))) := by
  have hv := odd2_pos ho hm
  have hw : Wh s l (sv s v) n := Wh.of h
  have e := hw.sign (by omega)
  have hz : sgn (sv s v) ≠ 0 := by
    unfold sgn sv
    split <;> split <;> (try split) <;> omega
  obtain ⟨t', e2, ht⟩ := h.zeros (by omega)
  have ht' : t' = t ∧ t' < 64 * n := by
    rcases ht with ⟨h0, _⟩ | ⟨m', _, h1, h2⟩
    · omega
    · exact ⟨(h1.uniq ho).1, h2⟩
  obtain ⟨rfl, hb⟩ := ht'
  have hl := dtold_loop (v := v) hn exp (t' : Int) s l t' t' l 0 (Nat.le_refl _) (by omega) (by rw [Int.pow_zero, Int.ediv_one]; exact h)
  rw [Nat.zero_add, odd2_div ho] at hl
  unfold dyadic_told.f
  exact Ev.bind e (Ev.congr (fun k => if_neg hz) (Ev.bind e2 hl))
theorem wrap_add (a b : Int) : wrap64 (wrap64 a + b) = wrap64 (a + b) := by unfold wrap64; omega
theorem rtold_l1 (s : Bool) {n : Nat} (hn : n ≤ 100000000) : ∀ (t : Nat) (a : List Int) (W m e : Int), Nd a W n → Odd2 W t m → 0 ≤ m →
    Ev (fun k => vernierlaw04_told.l1 k s a e) (s, dg 18446744073709551616 (2 * m + 1), (if t = 0 then e else wrap64 (e + t)), decide (dmay (dg 18446744073709551616 (2 * m + 1)) (if t = 0 then e else wrap64 (e + t))))
  | t, a, W, m, e, ha, ho, hm => by
    have hW := odd2_pos ho hm
    have hne : 0 < a.length := by
      refine List.length_pos_iff.2 (fun h => ?_)
      have := ha.val
      rw [h] at this
      simp [V] at this
      omega
    have g := ha.nrm.1.getD D_pos 0
    have hr : rd a 0 = a.getD 0 0 := rd_nat a 0
    have hmod := V_mod (B := 65536) (m := 2) (by decide) a
    rw [ha.val] at hmod
    cases t with
    | zero =>
      have hWm : W = 2 * m + 1 := by
        unfold Odd2 at ho
        rw [ho, Int.pow_zero, Int.one_mul]
      have e1 := ha.limbs (by omega)
      rw [hWm] at e1
      refine Ev.step (f := _) (fun k => by rw [vernierlaw04_told.l1, if_pos (by omega), hr, tmod_nn g.1, if_neg (by omega)]) (Ev.bind e1 ?_)
      rw [if_pos rfl]
      exact Ev.bind (g := fun _ => vernierlaw04_may.f s (dg 18446744073709551616 (2 * m + 1)) e) (Ev.congr (fun _ => may_some s _ e) (Ev.now _)) (Ev.now _)
    | succ t =>
      have hev : W % 2 = 0 ∧ Odd2 (W / 2 ^ 1) t m := by
        unfold Odd2 at ho ⊢
        rw [Int.pow_succ] at ho
        have : W = 2 * (2 ^ t * (2 * m + 1)) := by rw [ho]; grind
        have e21 : (2 : Int) ^ 1 = 2 := by decide
        rw [e21]
        omega
      obtain ⟨e0, d1⟩ := ha.shr 1 (by omega) (by omega)
      have e1 : Ev (fun k => vernierref01_Shr.f k a 1) (dg 65536 (W / 2 ^ 1)) := e0
      have hrec := rtold_l1 s hn t _ _ m (wrap64 (e + 1)) d1 hev.2 hm
      have hx : (if t = 0 then wrap64 (e + 1) else wrap64 (wrap64 (e + 1) + t)) = wrap64 (e + ((t + 1 : Nat) : Int)) := by
        by_cases h0 : t = 0
        · rw [if_pos h0, h0]; rfl
        · rw [if_neg h0, wrap_add]
          congr 1
          omega
      rw [hx] at hrec
      rw [if_neg (by omega)]
      refine Ev.step (f := _) (fun k => by rw [vernierlaw04_told.l1, if_pos (by omega), hr, tmod_nn g.1, if_pos (by omega)]) (Ev.bind e1 hrec)
theorem rtold_l0 (s : Bool) {n : Nat} (hn : n ≤ 100000000) (m : Int) (hm : 0 ≤ m) : ∀ (f t : Nat) (a : List Int) (W e : Int), t ≤ f → Nd a W n → Odd2 W t m →
    Ev (fun k => vernierlaw04_told.l0 k s a e) (s, dg 18446744073709551616 (2 * m + 1), (if t = 0 then e else wrap64 (e + t)), decide (dmay (dg 18446744073709551616 (2 * m + 1)) (if t = 0 then e else wrap64 (e + t))))
  | f, t, a, W, e, hf, ha, ho => by
    have hW := odd2_pos ho hm
    have hne : 0 < a.length := by
      refine List.length_pos_iff.2 (fun h => ?_)
      have := ha.val
      rw [h] at this
      simp [V] at this
      omega
    have g := ha.nrm.1.getD D_pos 0
    have hr : rd a 0 = a.getD 0 0 := rd_nat a 0
    have hl := ha.len
    by_cases h0 : a.getD 0 0 = 0
    · obtain ⟨x, b, rfl⟩ : ∃ x b, a = x :: b := by
        cases a with
        | nil => exact absurd hne (by decide)
        | cons x b => exact ⟨x, b, rfl⟩
      have hx : x = 0 := h0
      subst hx
      have hv : W = 65536 * V 65536 b := by
        have := ha.val
        rw [V_cons] at this
        omega
      have hbn : b ≠ [] := fun h => by
        rw [h] at hv
        simp [V] at hv
        omega
      have hnb : Nd b (V 65536 b) n := by
        refine ⟨⟨ha.nrm.1.tail, .inr ?_⟩, rfl, by simp only [List.length_cons] at hl; omega⟩
        have h2 := ha.nrm.2.resolve_left (by simp)
        have hbl := List.length_pos_iff.2 hbn
        simp only [List.length_cons, Nat.add_sub_cancel] at h2
        obtain ⟨j, hj⟩ : ∃ j, b.length = j + 1 := ⟨b.length - 1, by omega⟩
        rw [hj] at h2 ⊢
        simpa using h2
      have ht : 16 ≤ t := by
        by_cases h : 16 ≤ t
        · exact h
        · exfalso
          have e16 : (65536 : Int) = 2 ^ t * (2 * 2 ^ (15 - t)) := by
            have : (2 : Int) ^ t * (2 * 2 ^ (15 - t)) = 2 ^ t * 2 ^ (15 - t) * 2 := by grind
            rw [this, ← Int.pow_add, ← Int.pow_succ, show (t + (15 - t)).succ = 16 by omega]
            rfl
          unfold Odd2 at ho
          rw [hv] at ho
          generalize V 65536 b = Y at ho
          rw [e16, Int.mul_assoc] at ho
          have := Int.eq_of_mul_eq_mul_left (by have := two_pow_pos t; omega) ho
          have h3 : 2 * 2 ^ (15 - t) * Y = 2 * (2 ^ (15 - t) * Y) := by grind
          omega
      obtain ⟨r, rfl⟩ : ∃ r, t = r + 16 := ⟨t - 16, by omega⟩
      have hob : Odd2 (V 65536 b) r m := by
        unfold Odd2 at ho ⊢
        rw [hv, Int.pow_add] at ho
        have e16 : (2 : Int) ^ 16 = 65536 := by decide
        rw [e16] at ho
        have : (2 : Int) ^ r * 65536 * (2 * m + 1) = 65536 * (2 ^ r * (2 * m + 1)) := by grind
        omega
      have hx : (if r = 0 then wrap64 (e + 16) else wrap64 (wrap64 (e + 16) + r)) = wrap64 (e + ((r + 16 : Nat) : Int)) := by
        by_cases h0 : r = 0
        · rw [if_pos h0, h0]; rfl
        · rw [if_neg h0, wrap_add]
          congr 1
          omega
      cases f with
      | zero => omega
      | succ f =>
        have hrec := rtold_l0 s hn m hm f r b _ (wrap64 (e + 16)) (by omega) hnb hob
        rw [hx] at hrec
        rw [if_neg (by omega)]
        refine Ev.step (f := _) (fun k => by rw [vernierlaw04_told.l0, if_pos (by omega), hr, if_pos h0, if_pos (by omega)]) ?_
        exact hrec
    · refine Ev.step (f := _) (fun k => by rw [vernierlaw04_told.l0, if_pos (by omega), hr, if_neg h0]) (rtold_l1 s hn t a W m e ha ho hm)
theorem rtold_ev (s : Bool) {V m : Int} {t n : Nat} (h : Nd (dg 65536 V) V n) (hn : n ≤ 100000000) (ho : Odd2 V t m) (hm : 0 ≤ m) (e : Int) (he : -9223372036854775808 ≤ e) (he' : e ≤ 9223372036854775807) :
    Ev (fun k => vernierlaw04_told.f k s (dg 65536 V) e) (s, dg 18446744073709551616 (2 * m + 1), wrap64 (e + t), decide (dmay (dg 18446744073709551616 (2 * m + 1)) (wrap64 (e + t)))) := by
  have hV := odd2_pos ho hm
  have hne : (dg 65536 V).length ≠ 0 := fun h => by
    have := (dg_nil one_lt_D (Int.le_of_lt hV)).1 (List.length_eq_zero_iff.1 h)
    omega
  have hl := rtold_l0 s hn m hm t t _ _ e (Nat.le_refl _) h ho
  have hx : (if t = 0 then e else wrap64 (e + t)) = wrap64 (e + t) := by
    by_cases h0 : t = 0
    · rw [if_pos h0, h0]
      exact (w64 (by omega) (by omega)).symm.trans (by congr 1; omega)
    · rw [if_neg h0]
  rw [hx] at hl
  unfold vernierlaw04_told.f
  exact Ev.congr (fun k => if_neg (by omega)) hl
theorem rtold0_ev (s : Bool) (e : Int) : Ev (fun k => vernierlaw04_told.f k s (dg 65536 0) e) (false, [], 0, true) := by
  unfold vernierlaw04_told.f
  exact Ev.congr (fun k => if_pos rfl) (Ev.now _)
theorem dsame_ev {s : Bool} {v : Int} {n : Nat} (h : Nm (dg 18446744073709551616 v) v n) (hn : n ≤ 4611686018427387904) (e : Int) : Ev (fun k => vernierlaw04_same.f k s (dg 18446744073709551616 v) e s (dg 18446744073709551616 v) e) true := by
  unfold vernierlaw04_same.f
  refine Ev.congr (fun k => (if_pos (by simp)).trans (if_pos rfl)) (Ev.bind (h.same rfl hn) (Ev.now _))
theorem dsame0_ev : Ev (fun k => vernierlaw04_same.f k false [] 0 false [] 0) true := dsame_ev (v := 0) (n := 0) Nm.nil (by omega) 0
end Go.Proofs.YtjgdpjbkmcjbcaaDoor.PG
end
section
namespace Go.Proofs.YtjgdpjbkmcjbcaaDoor.PG
open Go.RowKit Go.Proofs.YtjgdpjbkmcjbcaaDoorW.PrintWords Go.Proofs.YtjgdpjbkmcjbcaaDoorW.PrintLast Go.Proofs.YtjgdpjbkmcjbcaaDoorW.PrintMore Go.Proofs.YtjgdpjbkmcjbcaaDoor.Num
set_option linter.unusedVariables false
set_option linter.unusedSimpArgs false
theorem i64_of_wf {a : Int} (h : (Lit.int .i64 a).wf = true) : -9223372036854775808 ≤ a ∧ a ≤ 9223372036854775807 := by
  simp [Lit.wf, IntKind.min, IntKind.max, IntKind.signed, IntKind.bits] at h
  omega
def t2F : Nat → Int → Nat
  | 0, _ => 0
  | f + 1, v => if v % 2 = 0 then t2F f (v / 2) + 1 else 0
def t2 (v : Int) : Nat := t2F v.toNat v
def od (v : Int) : Int := v / 2 ^ t2 v
theorem t2F_spec : ∀ (f : Nat) (v : Int), 0 < v → v.toNat ≤ f → ∃ m, 0 ≤ m ∧ Odd2 v (t2F f v) m
  | 0, v, h0, h1 => by omega
  | f + 1, v, h0, h1 => by
    unfold t2F
    by_cases h : v % 2 = 0
    · rw [if_pos h]
      obtain ⟨m, hm, ho⟩ := t2F_spec f (v / 2) (by omega) (by omega)
      refine ⟨m, hm, ?_⟩
      unfold Odd2 at ho ⊢
      rw [Int.pow_succ, Int.mul_assoc, Int.mul_left_comm, ← ho]
      omega
    · rw [if_neg h]
      refine ⟨v / 2, by omega, ?_⟩
      unfold Odd2
      rw [Int.pow_zero, Int.one_mul]
      omega
theorem t2_odd {v : Int} (h : 0 < v) : ∃ m, 0 ≤ m ∧ Odd2 v (t2 v) m := t2F_spec _ v h (Nat.le_refl _)
theorem t2_eq {v m : Int} {t : Nat} (hm : 0 ≤ m) (h : Odd2 v t m) : t2 v = t := by
  obtain ⟨m', _, h'⟩ := t2_odd (odd2_pos h hm)
  exact (h'.uniq h).1
theorem od_eq {v m : Int} {t : Nat} (hm : 0 ≤ m) (h : Odd2 v t m) : od v = 2 * m + 1 := by
  unfold od
  rw [t2_eq hm h]
  exact odd2_div h
def dt (z x : Int) : Bool × List Int × Int × Int :=
  if z = 0 then (false, [], 0, 0) else dtold (decide (z < 0)) (dg 18446744073709551616 (od (z.natAbs : Int))) (wrap64 (x + t2 (z.natAbs : Int)))
theorem told_wh {s : Bool} {l : List Int} {z : Int} {n : Nat} (h : Wh s l z n) (hn : n ≤ 10000000) (x : Int) : Ev (fun k => dyadic_told.f k s l x) (dt z x) := by
  unfold dt
  by_cases hz : z = 0
  · rw [if_pos hz]
    have := h.nm
    rw [hz] at this
    exact dtold0_ev this hn x
  · rw [if_neg hz]
    obtain ⟨m, hm, ho⟩ := t2_odd (v := (z.natAbs : Int)) (by omega)
    have e := dtold_ev (s := s) h.nm hn ho hm x
    have hs : decide (z < 0) = s := by
      have hv := h.val
      cases s
      · simp only [sv, Bool.false_eq_true, if_false] at hv
        exact decide_eq_false (by omega)
      · simp only [sv, if_true] at hv
        exact decide_eq_true (by omega)
    rw [hs, od_eq hm ho]
    exact e
theorem w12 : wrap64 (1 + 1) = 2 := w64 (by decide) (by decide)
theorem sv_mul (s : Bool) (v p : Int) : sv s v * p = sv s (v * p) := by
  cases s
  · rfl
  · exact Int.neg_mul _ _
theorem Wh.shl {s l z n} (h : Wh s l z n) (k : Nat) (hn : n ≤ 1000000) (hk : k ≤ 65536) : ∃ l', Ev (fun i => natdiv_Shl.f i l (k : Int)) (l', 0) ∧ Wh s l' (z * 2 ^ k) (1025 + n) := by
  obtain ⟨e, n'⟩ := h.nm.Shl k (by omega) hk
  refine ⟨_, e, ?_⟩
  have hw := Wh.of (s := s) n'
  have hv : sv s (2 ^ k * (z.natAbs : Int)) = z * 2 ^ k := by
    rw [Int.mul_comm, ← sv_mul, ← h.val]
  rw [hv] at hw
  exact hw.mono (by omega)
theorem dnorm_ev {s : Bool} {l : List Int} {e : Int} (hm : dmay l e) {X : Bool × List Int × Int × Int} (h : Ev (fun k => dyadic_told.f k s l e) X) : Ev (fun k => dyadic_Norm.f k s l e) X := by
  unfold dyadic_Norm.f
  exact Ev.bind (g := fun _ => dyadic_Check.f s l e) (Ev.congr (fun _ => check_ok hm) (Ev.now _)) (Ev.congr (fun k => if_pos rfl) (Ev.bind (g := fun _ => dyadic_signed.f s l e) (a := (s, l)) (Ev.now _) (Ev.bind h (Ev.now _))))
theorem dnorm_no {s : Bool} {l : List Int} {e : Int} (hm : ¬ dmay l e) : Ev (fun k => dyadic_Norm.f k s l e) (false, [], 0, 9) := by
  unfold dyadic_Norm.f
  exact Ev.bind (g := fun _ => dyadic_Check.f s l e) (Ev.congr (fun _ => check_no hm) (Ev.now _)) (Ev.congr (fun k => if_neg (by decide)) (Ev.now _))
theorem dof_ev {a e : Int} (h0 : -9223372036854775808 ≤ a) (h1 : a ≤ 9223372036854775807) (he : -16384 ≤ e) (he' : e ≤ 16384) : Ev (fun k => dyadic_Of.f k a e) (dt a e) := by
  obtain ⟨eo, wo⟩ := wof_ev h0 h1
  have ht := told_wh wo (by omega) e
  unfold dyadic_Of.f
  refine Ev.congr (fun k => if_neg (by omega)) ?_
  rw [decide_eq_false (show ¬ e > 16384 by omega)]
  exact Ev.step (f := _) (fun k => by rw [dyadic_Of.j0, if_neg (by decide)]) (Ev.bind eo (Ev.bind ht (Ev.now _)))
end Go.Proofs.YtjgdpjbkmcjbcaaDoor.PG
end
section
namespace Go.Proofs.YtjgdpjbkmcjbcaaDoor.PG
open Go.RowKit Go.Proofs.YtjgdpjbkmcjbcaaDoorW.PrintWords Go.Proofs.YtjgdpjbkmcjbcaaDoorW.PrintLast Go.Proofs.YtjgdpjbkmcjbcaaDoorW.PrintMore Go.Proofs.YtjgdpjbkmcjbcaaDoor.Num
set_option linter.unusedVariables false
set_option linter.unusedSimpArgs false
theorem split2 {l : List Int} {v : Int} {n : Nat} (h : Nm l v n) (hn : n ≤ 17592186044416) : v = 0 ∨ ∃ t m, 0 ≤ m ∧ Odd2 v t m ∧ t < 64 * n := by
  obtain ⟨t, _, ht⟩ := h.zeros hn
  rcases ht with h | ⟨m, h0, h1, h2⟩
  · exact .inl h.1
  · exact .inr ⟨t, m, h0, h1, h2⟩
theorem is_no {s1 s2 : Bool} {l1 l2 : List Int} {e1 e2 : Int} (hm : ¬ (dmay l1 e1 ∧ dmay l2 e2)) (ws : Bool) (wl : List Int) (we : Int) (ok : Bool) : Ev (fun k => vernierlaw04_is.f k s1 l1 e1 s2 l2 e2 false [] 0 9 ws wl we ok) true := by
  have fin : Ev (fun k => vernierlaw04_is.j0 k 9 ok true false [] 0 ws wl we) true := Ev.step (f := _) (fun k => by rw [vernierlaw04_is.j0, if_pos rfl, if_pos rfl]) (Ev.bind dsame0_ev (Ev.now _))
  unfold vernierlaw04_is.f
  by_cases h1 : dmay l1 e1
  · have h2 : ¬ dmay l2 e2 := fun h => hm ⟨h1, h⟩
    refine Ev.bind (g := fun _ => vernierlaw04_may.f s1 l1 e1) (a := true) (Ev.congr (fun _ => (may_some s1 l1 e1).trans (by rw [decide_eq_true h1])) (Ev.now _)) (Ev.congr (fun k => if_pos rfl) ?_)
    exact Ev.bind (g := fun _ => vernierlaw04_may.f s2 l2 e2) (a := false) (Ev.congr (fun _ => (may_some s2 l2 e2).trans (by rw [decide_eq_false h2])) (Ev.now _)) fin
  · refine Ev.bind (g := fun _ => vernierlaw04_may.f s1 l1 e1) (a := false) (Ev.congr (fun _ => (may_some s1 l1 e1).trans (by rw [decide_eq_false h1])) (Ev.now _)) (Ev.congr (fun k => if_neg (by decide)) ?_)
    exact fin
theorem is_yes {s1 s2 : Bool} {l1 l2 : List Int} {e1 e2 : Int} (h1 : dmay l1 e1) (h2 : dmay l2 e2) (ws : Bool) {wv : Int} {n : Nat} (hw : Nm (dg 18446744073709551616 wv) wv n) (hn : n ≤ 4611686018427387904) (we : Int) : Ev (fun k => vernierlaw04_is.f k s1 l1 e1 s2 l2 e2 ws (dg 18446744073709551616 wv) we 0 ws (dg 18446744073709551616 wv) we true) true := by
  unfold vernierlaw04_is.f
  have m1 : Ev (fun _ => vernierlaw04_may.f s1 l1 e1) true := Ev.congr (fun _ => (may_some s1 l1 e1).trans (by rw [decide_eq_true h1])) (Ev.now _)
  have m2 : Ev (fun _ => vernierlaw04_may.f s2 l2 e2) true := Ev.congr (fun _ => (may_some s2 l2 e2).trans (by rw [decide_eq_true h2])) (Ev.now _)
  refine Ev.bind m1 (Ev.congr (fun k => if_pos rfl) (Ev.bind m2 ?_))
  exact Ev.step (f := _) (fun k => by rw [vernierlaw04_is.j0, show (!true) = false from rfl, if_neg (by decide), if_pos rfl, if_pos rfl]) (Ev.bind (dsame_ev hw hn we) (Ev.now _))
theorem is_range {s1 s2 : Bool} {l1 l2 : List Int} {e1 e2 : Int} (h1 : dmay l1 e1) (h2 : dmay l2 e2) (ws : Bool) (wl : List Int) (we : Int) : Ev (fun k => vernierlaw04_is.f k s1 l1 e1 s2 l2 e2 false [] 0 4 ws wl we false) true := by
  unfold vernierlaw04_is.f
  have m1 : Ev (fun _ => vernierlaw04_may.f s1 l1 e1) true := Ev.congr (fun _ => (may_some s1 l1 e1).trans (by rw [decide_eq_true h1])) (Ev.now _)
  have m2 : Ev (fun _ => vernierlaw04_may.f s2 l2 e2) true := Ev.congr (fun _ => (may_some s2 l2 e2).trans (by rw [decide_eq_true h2])) (Ev.now _)
  refine Ev.bind m1 (Ev.congr (fun k => if_pos rfl) (Ev.bind m2 ?_))
  exact Ev.step (f := _) (fun k => by rw [vernierlaw04_is.j0, show (!true) = false from rfl, if_neg (by decide), if_neg (by decide), if_pos rfl]) (Ev.bind dsame0_ev (Ev.now _))
theorem alive4_ev : Ev (fun k => vernierlaw04_alive.f k) true := by
  have e := dof_ev (a := 12) (e := 0) (by decide) (by decide) (by decide) (by decide)
  have hd : dt 12 0 = (false, [3], 2, 0) := by decide +kernel
  rw [hd] at e
  unfold vernierlaw04_alive.f
  exact Ev.bind e (Ev.congr (fun k => (if_pos rfl).trans ((if_pos rfl).trans ((if_pos (by decide)).trans (if_pos rfl)))) (Ev.now _))
end Go.Proofs.YtjgdpjbkmcjbcaaDoor.PG
end
section
namespace Go.Proofs.YtjgdpjbkmcjbcaaDoor.Pure
open Go.RowKit Go.Proofs.YtjgdpjbkmcjbcaaDoor.PG Go.Proofs.YtjgdpjbkmcjbcaaDoorW.PrintWords Go.Proofs.YtjgdpjbkmcjbcaaDoorW.PrintLast Go.Proofs.YtjgdpjbkmcjbcaaDoorW.PrintMore Go.Proofs.YtjgdpjbkmcjbcaaDoor.Num
set_option linter.unusedVariables false
theorem of_j1 (a e : Int) (ha : -9223372036854775808 ≤ a) (ha' : a ≤ 9223372036854775807) (he : -9223372036854775808 ≤ e) (he' : e ≤ 9223372036854775807) :
    ∃ z : Bool × List Int × Int × Int, Ev (fun k => dyadic_Of.f k a e) z ∧ Ev (fun k => vernierlaw04_DyadicPlain.j1 k a e z.2.2.2 (decide (e < -16384 ∨ 16384 < e)) z.1 z.2.1 z.2.2.1) true := by
  by_cases ho : e < -16384 ∨ 16384 < e
  · refine ⟨(false, [], 0, 4), ?_, ?_⟩
    · have hj : Ev (fun k => dyadic_Of.j0 k a e true) (false, [], 0, 4) := Ev.step (f := fun _ => some (false, [], 0, 4)) (fun k => by rw [dyadic_Of.j0, if_pos rfl]) (Ev.now _)
      unfold dyadic_Of.f
      by_cases h : e < -16384
      · exact Ev.congr (fun k => if_pos h) hj
      · refine Ev.congr (fun k => if_neg h) ?_
        rw [decide_eq_true (show e > 16384 by omega)]
        exact hj
    · rw [decide_eq_true ho]
      exact Ev.step (f := _) (fun k => by rw [vernierlaw04_DyadicPlain.j1, if_pos rfl, if_pos rfl]) (Ev.bind dsame0_ev (Ev.now _))
  · obtain ⟨eo, wo⟩ := wof_ev ha ha'
    have hz1 : (wz a).2 = dg 18446744073709551616 (a.natAbs : Int) := rfl
    have hz0 : (wz a).1 = decide (a < 0) := rfl
    have nm := wo.nm
    have nu : Nm [(a.natAbs : Int)] (a.natAbs : Int) 1 := Nm.one (by omega) (by omega) (by omega)
    obtain ⟨ew, dw⟩ := nu.of (by omega)
    have hwd : Ev (fun k => vernierref01_Word.f k (a.natAbs : Int)) (dg 65536 (a.natAbs : Int)) := by
      unfold vernierref01_Word.f
      exact Ev.bind ew (Ev.now _)
    have hfin : ∀ (z : Bool × List Int × Int × Int) (y : Bool × List Int × Int × Bool), Ev (fun k => dyadic_told.f k (wz a).1 (wz a).2 e) z → Ev (fun k => vernierlaw04_told.f k (decide (a < 0)) (dg 65536 (a.natAbs : Int)) e) y →
        (y.2.2.2 = true → z.2.2.2 = 0 ∧ Ev (fun k => vernierlaw04_same.f k z.1 z.2.1 z.2.2.1 y.1 y.2.1 y.2.2.1) true) → (y.2.2.2 = false → z.2.2.2 = 4) →
        Ev (fun k => dyadic_Of.f k a e) z ∧ Ev (fun k => vernierlaw04_DyadicPlain.j1 k a e z.2.2.2 (decide (e < -16384 ∨ 16384 < e)) z.1 z.2.1 z.2.2.1) true := by
      intro z y h1 h2 h3 h4
      constructor
      · unfold dyadic_Of.f
        refine Ev.congr (fun k => if_neg (by omega)) ?_
        rw [decide_eq_false (show ¬ e > 16384 by omega)]
        exact Ev.step (f := _) (fun k => by rw [dyadic_Of.j0, if_neg (by decide)]) (Ev.bind eo (Ev.bind h1 (Ev.now _)))
      · rw [decide_eq_false ho]
        have tail : Ev (fun k => (vernierlaw04_told.f k (decide (a < 0)) (dg 65536 (a.natAbs : Int)) e).bind fun bt314 => (if bt314.2.2.2 = true then (if z.2.2.2 = 0 then ((vernierlaw04_same.f k z.1 z.2.1 z.2.2.1 bt314.1 bt314.2.1 bt314.2.2.1).bind fun t321 => (if t321 = true then (some true) else (some false))) else (some false)) else (some (z.2.2.2 == 4)))) true := by
          refine Ev.bind h2 ?_
          cases hy : y.2.2.2 with
          | true => exact Ev.congr (fun k => (if_pos rfl).trans (if_pos (h3 hy).1)) (Ev.bind (h3 hy).2 (Ev.congr (fun k => if_pos rfl) (Ev.now _)))
          | false =>
            refine Ev.congr (fun k => if_neg (by decide)) ?_
            rw [h4 hy]
            exact Ev.now _
        by_cases hn : a < 0
        · refine Ev.step (f := _) (fun k => by rw [vernierlaw04_DyadicPlain.j1, if_neg (by decide), if_pos hn, show IntKind.u64.wrap (-(IntKind.u64.wrap a)) = (a.natAbs : Int) by rw [IntKind.wrap_u64, IntKind.wrap_u64]; omega]) (Ev.bind hwd tail)
        · refine Ev.step (f := _) (fun k => by rw [vernierlaw04_DyadicPlain.j1, if_neg (by decide), if_neg hn, show IntKind.u64.wrap a = (a.natAbs : Int) by rw [IntKind.wrap_u64]; omega]) (Ev.bind hwd tail)
    rcases split2 nm (by omega) with hz | ⟨t, m, hm, hodd, htl⟩
    · have hz2 : (wz a).2 = [] := by rw [hz1, hz]; rfl
      have h1 := dtold0_ev (s := (wz a).1) (l := (wz a).2) (n := 1) (by rw [hz2]; exact Nm.nil) (by omega) e
      have h2 := rtold0_ev (decide (a < 0)) e
      rw [hz] at hfin
      exact ⟨_, hfin _ _ h1 h2 (fun _ => ⟨rfl, dsame0_ev⟩) (fun h => by cases h)⟩
    · have h1 := dtold_ev (s := (wz a).1) nm (by omega) hodd hm e
      have h2 := rtold_ev (decide (a < 0)) dw (by omega) hodd hm e he he'
      have hmv : 2 * m + 1 ≤ (a.natAbs : Int) := by
        have := odd2_div hodd
        rw [← this]
        exact Int.ediv_le_self _ (by omega)
      have ho' := nm.dg_le (w := 2 * m + 1) (by omega) hmv
      by_cases hmay : dmay (dg 18446744073709551616 (2 * m + 1)) (wrap64 (e + t))
      · unfold dtold at h1
        rw [if_pos hmay] at h1
        rw [decide_eq_true hmay] at h2
        exact ⟨_, hfin _ _ h1 h2 (fun _ => ⟨rfl, dsame_ev ho' (by omega) _⟩) (fun h => by cases h)⟩
      · unfold dtold at h1
        rw [if_neg hmay] at h1
        rw [decide_eq_false hmay] at h2
        exact ⟨_, hfin _ _ h1 h2 (fun h => by cases h) (fun _ => rfl)⟩
theorem plain_both {s : Bool} {l : List Int} {e v : Int} {n : Nat} (h : Nm l v n) (hn : n ≤ 1048576) (he : -9223372036854775808 ≤ e) (he' : e ≤ 9223372036854775807) :
    ∃ (X : Bool → Bool × List Int × Int × Int) (ws : Bool) (wl : List Int) (we : Int) (ok : Bool), (∀ s', Ev (fun k => dyadic_Norm.f k s' l e) (X s')) ∧ Ev (fun k => vernierlaw04_told.f k s (dg 65536 v) e) (ws, wl, we, ok) ∧
      Ev (fun k => vernierlaw04_is.f k s l e s l e (X s).1 (X s).2.1 (X s).2.2.1 (X s).2.2.2 ws wl we ok) true ∧ Ev (fun k => vernierlaw04_is.f k s l e s l e (X false).1 (X false).2.1 (X false).2.2.1 (X false).2.2.2 false wl we ok) true := by
  obtain ⟨_, dw⟩ := h.of (by omega)
  rcases split2 h (by omega) with hz | ⟨t, m, hm, hodd, htl⟩
  · have h2 := rtold0_ev s e
    rw [hz] at h ⊢
    by_cases hd : dmay l e
    · exact ⟨fun _ => (false, [], 0, 0), false, [], 0, true, fun s' => dnorm_ev hd (dtold0_ev h (by omega) e), h2, is_yes hd hd false (wv := 0) (n := 0) Nm.nil (by omega) 0, is_yes hd hd false (wv := 0) (n := 0) Nm.nil (by omega) 0⟩
    · exact ⟨fun _ => (false, [], 0, 9), false, [], 0, true, fun s' => dnorm_no hd, h2, is_no (fun h => hd h.1) _ _ _ _, is_no (fun h => hd h.1) _ _ _ _⟩
  · have h2 := rtold_ev s dw (by omega) hodd hm e he he'
    by_cases hd : dmay l e
    · have hmv : 2 * m + 1 ≤ v := by
        rw [← odd2_div hodd]
        exact Int.ediv_le_self _ h.nonneg
      have ho' := h.dg_le (w := 2 * m + 1) (by omega) hmv
      have hX : ∀ s', Ev (fun k => dyadic_Norm.f k s' l e) (dtold s' (dg 18446744073709551616 (2 * m + 1)) (wrap64 (e + t))) := fun s' => dnorm_ev hd (dtold_ev h (by omega) hodd hm e)
      by_cases hmay : dmay (dg 18446744073709551616 (2 * m + 1)) (wrap64 (e + t))
      · rw [decide_eq_true hmay] at h2
        exact ⟨fun s' => (s', dg 18446744073709551616 (2 * m + 1), wrap64 (e + t), 0), _, _, _, _, fun s' => by have := hX s'; unfold dtold at this; rwa [if_pos hmay] at this, h2, is_yes hd hd s ho' (by omega) _, is_yes hd hd false ho' (by omega) _⟩
      · rw [decide_eq_false hmay] at h2
        exact ⟨fun s' => (false, [], 0, 4), _, _, _, _, fun s' => by have := hX s'; unfold dtold at this; rwa [if_neg hmay] at this, h2, is_range hd hd _ _ _, is_range hd hd _ _ _⟩
    · exact ⟨fun _ => (false, [], 0, 9), _, _, _, _, fun s' => dnorm_no hd, h2, is_no (fun h => hd h.1) _ _ _ _, is_no (fun h => hd h.1) _ _ _ _⟩
theorem DyadicPlain (a0_0 : Bool) (l0_1 : List Int) (a0_2 : Int) (a1 : Int) (a2 : Int) (y0_1 : l0_1.length ≤ 1048576) (w0_1 : ∀ n ∈ l0_1, (Lit.int .u64 n).wf = true) (w0_2 : (Lit.int .i64 a0_2).wf = true) (w1 : (Lit.int .i64 a1).wf = true) (w2 : (Lit.int .i64 a2).wf = true) :
    ∃ k, vernierlaw04_DyadicPlain.f k a0_0 l0_1 a0_2 a1 a2 = some true := by
  refine Ev.rounds ?_
  obtain ⟨h0, h0'⟩ := i64_of_wf w0_2
  obtain ⟨h1, h1'⟩ := i64_of_wf w1
  obtain ⟨h2, h2'⟩ := i64_of_wf w2
  have n0 := Nm.of_wf (n := 1048576) w0_1 y0_1
  obtain ⟨ed, _⟩ := n0.of (by omega)
  obtain ⟨X, ws, wl, we, ok, eX, et, i1, i2⟩ := plain_both (s := a0_0) n0 (by omega) h0 h0'
  obtain ⟨z, ez, ej⟩ := of_j1 a1 a2 h1 h1' h2 h2'
  have eabs : Ev (fun k => dyadic_Abs.f k a0_0 l0_1 a0_2) (X false) := by
    unfold dyadic_Abs.f
    exact Ev.bind (eX false) (Ev.now _)
  have emay : Ev (fun _ => vernierlaw04_may.f a0_0 l0_1 a0_2) (decide (dmay l0_1 a0_2)) := Ev.congr (fun _ => may_some _ _ _) (Ev.now _)
  have tail : Ev (fun k => vernierlaw04_DyadicPlain.j0 k a1 a2 (X false).2.2.2 z.2.2.2 ok false a0_0 l0_1 a0_2 (X false).1 (X false).2.1 (X false).2.2.1 z.1 z.2.1 z.2.2.1 ws wl we) true := by
    refine Ev.step (f := _) (fun k => by rw [vernierlaw04_DyadicPlain.j0, if_neg (by decide)]) (Ev.bind i2 (Ev.congr (fun k => if_pos rfl) ?_))
    by_cases c : a2 < -16384
    · rw [decide_eq_true (.inl c)] at ej
      exact Ev.congr (fun k => if_pos c) ej
    · refine Ev.congr (fun k => if_neg c) ?_
      have e : decide (a2 < -16384 ∨ 16384 < a2) = decide (a2 > 16384) := decide_eq_decide.2 ⟨fun h => by omega, fun h => .inr h⟩
      rw [e] at ej
      exact ej
  unfold vernierlaw04_DyadicPlain.f
  refine Ev.bind alive4_ev (Ev.congr (fun k => if_pos rfl) ?_)
  refine Ev.bind (eX a0_0) (Ev.bind eabs (Ev.bind ez (Ev.bind ed (Ev.bind et (Ev.bind i1 (Ev.congr (fun k => if_pos rfl) (Ev.bind emay ?_)))))))
  by_cases hm : dmay l0_1 a0_2
  · refine Ev.bind (g := fun _ => dyadic_Check.f a0_0 l0_1 a0_2) (Ev.congr (fun _ => check_ok hm) (Ev.now _)) ?_
    rw [decide_eq_true hm]
    exact tail
  · refine Ev.bind (g := fun _ => dyadic_Check.f a0_0 l0_1 a0_2) (Ev.congr (fun _ => check_no hm) (Ev.now _)) ?_
    rw [decide_eq_false hm]
    exact tail
end Go.Proofs.YtjgdpjbkmcjbcaaDoor.Pure
end
