/- Parts of a proof. -/
import Derived.Lib.Mul64
import Derived.Laws.Bits64b
import Derived.Lib.Hide
import Derived.Lib.TrailingZeros
import Derived.Test.YtjgdpjbkmcjbcaaDoorZFconvFrom45
section
namespace Go.Proofs.YtjgdpjbkmcjbcaaDoor.PG
open Go.RowKit Go.Proofs.YtjgdpjbkmcjbcaaDoorW.PrintWords Go.Proofs.YtjgdpjbkmcjbcaaDoorW.PrintLast Go.Proofs.YtjgdpjbkmcjbcaaDoor.Num
set_option linter.unusedVariables false
set_option linter.unusedSimpArgs false
def wz (z : Int) : Bool × List Int := (decide (z < 0), dg 18446744073709551616 (z.natAbs : Int))
structure Wh (s : Bool) (a : List Int) (z : Int) (n : Nat) : Prop where
 nm : Nm a (z.natAbs : Int) n
 val : z = sv s (z.natAbs : Int)
theorem Wh.of {s a v n} (h : Nm a v n) : Wh s a (sv s v) n := by
 have h0 := h.nonneg
 have e : (((sv s v).natAbs : Nat) : Int) = v := by unfold sv; split <;> omega
 exact ⟨by rw [e]; exact h, by rw [e]⟩
theorem Wh.made {z : Int} {n : Nat} (h : (z.natAbs : Int) < 18446744073709551616 ^ n) : Wh (wz z).1 (wz z).2 z n := by
 refine ⟨Nm.dg (by omega) h, ?_⟩
 unfold sv wz
 simp only [decide_eq_true_eq]
 split <;> omega
theorem Wh.lt {s a z n} (h : Wh s a z n) : (z.natAbs : Int) < 18446744073709551616 ^ n := h.nm.lt
theorem Wh.mono {s a z n m} (h : Wh s a z n) (hm : n ≤ m) : Wh s a z m := ⟨h.nm.mono hm, h.val⟩
theorem wmade_ev {s : Bool} {l : List Int} {v : Int} {n : Nat} (h : Nm l v n) (hn : n ≤ 17592186044416) : Ev (fun k => whole_made.f k s l) (wz (sv s v)) := by
 have h0 := h.nonneg
 unfold whole_made.f
 refine Ev.bind (h.norm hn).1 ?_
 have e : (((sv s v).natAbs : Nat) : Int) = v := by unfold sv; split <;> omega
 have hz := dg_nil (B := 18446744073709551616) one_lt_B h0
 cases s
 ·
  have : wz (sv false v) = (false, dg 18446744073709551616 v) := by
   unfold wz
   rw [e]
   congr 1
   exact decide_eq_false (by simp [sv]; omega)
  rw [this]
  exact Ev.congr (fun k => if_neg (by decide)) (Ev.now _)
 ·
  have : wz (sv true v) = (decide (((dg 18446744073709551616 v).length : Int) > 0), dg 18446744073709551616 v) := by
   unfold wz
   rw [e]
   congr 1
   refine decide_eq_decide.2 ?_
   have : sv true v = -v := rfl
   rw [this]
   constructor
   ·
    intro h1
    have : dg 18446744073709551616 v ≠ [] := fun h2 => by have := hz.1 h2; omega
    have := List.length_pos_iff.2 this
    omega
   ·
    intro h1
    have : v ≠ 0 := fun h2 => by have h3 := hz.2 h2; rw [h3] at h1; simp at h1
    omega
  rw [this]
  exact Ev.congr (fun k => if_pos rfl) (Ev.now _)
theorem Wh.add {s a x n t b y m} (p : Nat) (h : Wh s a x n) (g : Wh t b y m) (hn : n ≤ p) (hm : m ≤ p) (hp : p < 17592186044416) : Ev (fun k => whole_Add.f k s a t b) (wz (x + y)) ∧ Wh (wz (x + y)).1 (wz (x + y)).2 (x + y) (p + 1) := by
 have l1 := (h.mono hn).lt
 have l2 := (g.mono hm).lt
 refine ⟨?_, Wh.made (by rw [Int.pow_succ]; omega)⟩
 have hx := h.val
 have hy := g.val
 unfold whole_Add.f
 by_cases e : s = t
 ·
  subst e
  refine Ev.congr (fun k => if_pos (by simp)) ?_
  obtain ⟨e1, n1⟩ := h.nm.add p g.nm hn hm (by omega)
  have ez : sv s ((x.natAbs : Int) + (y.natAbs : Int)) = x + y := by
   clear e1 n1 l1 l2
   revert hx hy
   unfold sv
   cases s <;> intro hx hy <;> simp only [Bool.false_eq_true, ↓reduceIte] at hx hy ⊢ <;> omega
  have e2 := wmade_ev (s := s) n1 (by omega)
  rw [ez] at e2
  exact Ev.bind e1 (Ev.bind e2 (Ev.now _))
 ·
  refine Ev.congr (fun k => if_neg (by simpa using e)) ?_
  obtain ⟨e1, n1⟩ := h.nm.sub p g.nm hn hm (by omega)
  refine Ev.bind (h.nm.cmp g.nm (by omega) (by omega)) ?_
  have key : ∀ (c : Bool) (fs : Bool), sv fs ((((x.natAbs : Int) - (y.natAbs : Int)).natAbs : Nat) : Int) = x + y → Ev (fun k => whole_made.f k fs (dg 18446744073709551616 (((x.natAbs : Int) - (y.natAbs : Int)).natAbs : Int))) (wz (x + y)) := by
   intro c fs hf
   have e2 := wmade_ev (s := fs) n1 (by omega)
   rwa [hf] at e2
  by_cases hlt : (x.natAbs : Int) < (y.natAbs : Int)
  ·
   have ec : decide (sgn ((x.natAbs : Int) - (y.natAbs : Int)) < 0) = true := decide_eq_true (sgn_neg_iff.2 (by omega))
   rw [ec]
   refine Ev.bind (a := (t, b)) (by unfold api_Whole.f; exact Ev.congr (fun k => if_pos rfl) (Ev.now _)) ?_
   refine Ev.bind e1 (Ev.bind (key true t ?_) (Ev.now _))
   clear key e1 n1 l1 l2 ec
   revert hx hy e
   unfold sv
   cases s <;> cases t <;> intro hx hy e <;> first | exact absurd rfl e | (simp only [Bool.false_eq_true, ↓reduceIte] at hx hy ⊢; omega)
  ·
   have ec : decide (sgn ((x.natAbs : Int) - (y.natAbs : Int)) < 0) = false := decide_eq_false (fun h' => hlt (by have := sgn_neg_iff.1 h'; omega))
   rw [ec]
   refine Ev.bind (a := (s, a)) (by unfold api_Whole.f; exact Ev.congr (fun k => if_neg (by decide)) (Ev.now _)) ?_
   refine Ev.bind e1 (Ev.bind (key true s ?_) (Ev.now _))
   clear key e1 n1 l1 l2 ec
   revert hx hy e
   unfold sv
   cases s <;> cases t <;> intro hx hy e <;> first | exact absurd rfl e | (simp only [Bool.false_eq_true, ↓reduceIte] at hx hy ⊢; omega)
theorem Wh.neg {s a x n} (h : Wh s a x n) (hn : n ≤ 17592186044416) : Ev (fun k => whole_Neg.f k s a) (wz (-x)) ∧ Wh (wz (-x)).1 (wz (-x)).2 (-x) n := by
 refine ⟨?_, Wh.made (by have := h.lt; rwa [Int.natAbs_neg])⟩
 unfold whole_Neg.f
 have e := wmade_ev (s := !s) h.nm hn
 have ez : sv (!s) (x.natAbs : Int) = -x := by
  have hx := h.val
  revert hx
  unfold sv
  cases s <;> simp <;> omega
 rw [ez] at e
 exact Ev.bind e (Ev.now _)
theorem Wh.sub {s a x n t b y m} (p : Nat) (h : Wh s a x n) (g : Wh t b y m) (hn : n ≤ p) (hm : m ≤ p) (hp : p < 17592186044416) : Ev (fun k => whole_Sub.f k s a t b) (wz (x - y)) ∧ Wh (wz (x - y)).1 (wz (x - y)).2 (x - y) (p + 1) := by
 obtain ⟨e1, g1⟩ := g.neg (by omega)
 obtain ⟨e2, g2⟩ := h.add p g1 hn hm hp
 rw [← Int.sub_eq_add_neg] at e2 g2
 refine ⟨?_, g2⟩
 unfold whole_Sub.f
 exact Ev.bind e1 (Ev.bind e2 (Ev.now _))
theorem Wh.sign {s a x n} (h : Wh s a x n) (hn : n ≤ 35184372088832) : Ev (fun k => whole_Sign.f k s a) (sgn x) := by
 unfold whole_Sign.f
 refine Ev.bind (h.nm.bits hn) ?_
 have hb := bitsOf_zero_iff (v := (x.natAbs : Int)) (by omega)
 have hx := h.val
 by_cases h0 : x = 0
 ·
  refine Ev.congr (fun k => if_pos (hb.2 (by omega))) ?_
  subst h0
  exact Ev.now _
 ·
  refine Ev.congr (fun k => if_neg (fun h' => by have := hb.1 h'; omega)) ?_
  cases s
  ·
   refine Ev.congr (fun k => if_neg (by decide)) ?_
   have : sgn x = 1 := by unfold sgn; unfold sv at hx; rw [if_neg (by decide)] at hx; rw [if_neg (by omega), if_neg h0]
   rw [this]
   exact Ev.now _
  ·
   refine Ev.congr (fun k => if_pos rfl) ?_
   have : sgn x = -1 := by unfold sgn; unfold sv at hx; rw [if_pos rfl] at hx; rw [if_pos (by omega)]
   rw [this]
   exact Ev.now _
theorem Wh.cmp {s a x n t b y m} (p : Nat) (h : Wh s a x n) (g : Wh t b y m) (hn : n ≤ p) (hm : m ≤ p) (hp : p < 17592186044416) : Ev (fun k => whole_Cmp.f k s a t b) (sgn (x - y)) := by
 obtain ⟨e1, g1⟩ := h.sub p g hn hm hp
 unfold whole_Cmp.f
 exact Ev.bind e1 (Ev.bind (g1.sign (by omega)) (Ev.now _))
end Go.Proofs.YtjgdpjbkmcjbcaaDoor.PG
end
section
namespace Go.Proofs.YtjgdpjbkmcjbcaaDoor.PG
open Go.RowKit Go.Proofs.YtjgdpjbkmcjbcaaDoorW.PrintWords Go.Proofs.YtjgdpjbkmcjbcaaDoorW.PrintLast Go.Proofs.YtjgdpjbkmcjbcaaDoorW.PrintMore Go.Proofs.YtjgdpjbkmcjbcaaDoor.Num
set_option linter.unusedVariables false
set_option linter.unusedSimpArgs false
def Odd2 (v : Int) (t : Nat) (m : Int) : Prop := v = 2 ^ t * (2 * m + 1)
theorem Odd2.uniq {v : Int} {t s : Nat} {m n : Int} (h : Odd2 v t m) (g : Odd2 v s n) : t = s ∧ m = n := by
 unfold Odd2 at h g
 have key : ∀ (a b : Nat) (x y : Int), a ≤ b → (2 : Int) ^ a * (2 * x + 1) = 2 ^ b * (2 * y + 1) → a = b ∧ x = y := by
  intro a b x y hab e
  obtain ⟨d, rfl⟩ : ∃ d, b = a + d := ⟨b - a, by omega⟩
  have hp := two_pow_pos a
  rw [Int.pow_add, Int.mul_assoc] at e
  have e2 := Int.eq_of_mul_eq_mul_left (by omega) e
  cases d with
  | zero =>
   rw [Int.pow_zero, Int.one_mul] at e2
   exact ⟨rfl, by omega⟩
  | succ d =>
   exfalso
   rw [Int.pow_succ] at e2
   generalize (2 : Int) ^ d = P at e2
   have : P * 2 * (2 * y + 1) = 2 * (P * (2 * y + 1)) := by grind
   omega
 rcases Nat.le_total t s with hts | hts
 ·
  exact key t s m n hts (by rw [← h, ← g])
 ·
  have := key s t n m hts (by rw [← h, ← g])
  exact ⟨this.1.symm, this.2.symm⟩
theorem tz_some {x : Int} (h0 : 0 < x) (h1 : x < 18446744073709551616) : ∃ (c : Nat) (m : Int), bits_TrailingZeros64.f x = some (c : Int) ∧ c < 64 ∧ 0 ≤ m ∧ Odd2 x c m := by
 obtain ⟨n, rfl⟩ := Int.eq_ofNat_of_zero_le (Int.le_of_lt h0)
 obtain ⟨m, hm, hc⟩ := Lib.ctzFrom_spec 64 n (by omega) (by omega)
 refine ⟨Lib.ctzFrom 64 n, m, ?_, hc, by omega, ?_⟩
 ·
  unfold bits_TrailingZeros64.f
  rw [if_pos ⟨by omega, by omega⟩, Int.toNat_natCast]
  unfold Lib.ctz
  rw [if_neg (by omega)]
 ·
  unfold Odd2
  have : ((n : Nat) : Int) = ((2 ^ Lib.ctzFrom 64 n * (2 * m + 1) : Nat) : Int) := congrArg _ hm
  rw [this]
  push_cast
  rfl
theorem low_zeros {l : List Int} {i : Nat} (hi : i ≤ l.length) (h : ∀ j, j < i → l.getD j 0 = 0) : V 18446744073709551616 l = 18446744073709551616 ^ i * V 18446744073709551616 (l.drop i) := by
 have a := V_split 18446744073709551616 l hi
 have b : V 18446744073709551616 (l.take i) = 0 := V_zeros 18446744073709551616 _ (fun j => by
  rw [getD_take]
  split
  ·
   exact h j (by omega)
  ·
   rfl)
 rw [a, b]
 omega
theorem odd_high {x Y : Int} {c : Nat} {m : Int} (hc : c < 64) (h : Odd2 x c m) (i : Nat) : Odd2 (18446744073709551616 ^ i * (x + 18446744073709551616 * Y)) (64 * i + c) (m + 2 ^ (63 - c) * Y) := by
 unfold Odd2 at h ⊢
 have e1 : (18446744073709551616 : Int) = 2 ^ 64 := by decide
 have e2 : (18446744073709551616 : Int) ^ i = 2 ^ (64 * i) := by rw [e1, ← Int.pow_mul]
 have e3 : (18446744073709551616 : Int) = 2 ^ c * (2 ^ (63 - c) * 2) := by
  rw [← Int.mul_assoc, ← Int.pow_add, ← Int.pow_succ, show (c + (63 - c)).succ = 64 by omega]
  rfl
 have e4 : 18446744073709551616 * Y = 2 ^ c * (2 ^ (63 - c) * 2) * Y := by rw [← e3]
 rw [e2, e4, h, Int.pow_add]
 grind
theorem zeros_loop (l : List Int) (hd : Dig 18446744073709551616 l) (hl : l.length ≤ 17592186044416) : ∀ (d i : Nat), l.length = i + d → (∀ j, j < i → l.getD j 0 = 0) →
  ∃ n : Nat, Ev (fun k => natdiv_Zeros.l0 k l (l.length : Int) (i : Int)) (n : Int) ∧ ((V 18446744073709551616 l = 0 ∧ n = 0) ∨ ∃ m, 0 ≤ m ∧ Odd2 (V 18446744073709551616 l) n m ∧ n < 64 * l.length)
 | 0, i, hi, hz => by
  refine ⟨0, Ev.step (f := fun _ => some 0) (fun k => ?_) (Ev.now _), .inl ⟨?_, rfl⟩⟩
  ·
   rw [natdiv_Zeros.l0, if_neg (by omega)]
  ·
   rw [low_zeros (i := i) (by omega) hz, V_drop_all _ _ (by omega)]
   omega
 | d + 1, i, hi, hz => by
  have hx := hd.getD B_pos i
  by_cases h0 : l.getD i 0 = 0
  ·
   obtain ⟨n, e, h⟩ := zeros_loop l hd hl d (i + 1) (by omega) (fun j hj => by
    by_cases e : j = i
    ·
     rw [e]; exact h0
    ·
     exact hz j (by omega))
   refine ⟨n, Ev.step (f := fun k => natdiv_Zeros.l0 k l (l.length : Int) ((i + 1 : Nat) : Int)) (fun k => ?_) e, h⟩
   rw [natdiv_Zeros.l0, rd_nat, if_pos (by omega), if_pos (by omega), if_pos (by omega), if_pos h0, w64 (by omega) (by omega)]
   rfl
  ·
   obtain ⟨c, m, hf, hc, hm, ho⟩ := tz_some (x := l.getD i 0) (by omega) hx.2
   have hv := low_zeros (l := l) (i := i) (by omega) hz
   rw [V_drop_succ 18446744073709551616 l i (by omega)] at hv
   have hodd := odd_high (Y := V 18446744073709551616 (l.drop (i + 1))) hc ho i
   rw [← hv] at hodd
   have hY := V_nonneg B_pos (hd.drop (i + 1))
   refine ⟨64 * i + c, Ev.step (f := fun _ => some ((64 * i + c : Nat) : Int)) (fun k => ?_) (Ev.now _), .inr ⟨_, ?_, hodd, by omega⟩⟩
   ·
    rw [natdiv_Zeros.l0, rd_nat, if_pos (by omega), if_pos (by omega), if_pos (by omega), if_neg h0, hf]
    simp only [Option.bind_some]
    rw [w64 (x := 64 * (i : Int)) (by omega) (by omega), w64 (by omega) (by omega)]
    congr 1
   ·
    have := Int.mul_nonneg (Int.le_of_lt (two_pow_pos (63 - c))) hY
    omega
theorem Nm.zeros {a v n} (h : Nm a v n) (hn : n ≤ 17592186044416) : ∃ t : Nat, Ev (fun k => natdiv_Zeros.f k a) (t : Int) ∧ ((v = 0 ∧ t = 0) ∨ ∃ m, 0 ≤ m ∧ Odd2 v t m ∧ t < 64 * n) := by
 have hl := h.len
 obtain ⟨t, e, ht⟩ := zeros_loop a h.dig (by omega) a.length 0 (by omega) (fun j hj => by omega)
 rw [h.val] at ht
 refine ⟨t, Ev.congr (fun k => rfl) e, ht.imp id ?_⟩
 rintro ⟨m, h0, h1, h2⟩
 exact ⟨m, h0, h1, by omega⟩
end Go.Proofs.YtjgdpjbkmcjbcaaDoor.PG
end
section
namespace Go.Proofs.YtjgdpjbkmcjbcaaDoor.PG
open Go.RowKit Go.Proofs.YtjgdpjbkmcjbcaaDoorW.PrintWords Go.Proofs.YtjgdpjbkmcjbcaaDoorW.PrintLast Go.Proofs.YtjgdpjbkmcjbcaaDoorW.PrintMore Go.Proofs.YtjgdpjbkmcjbcaaDoor.Num
set_option linter.unusedVariables false
set_option linter.unusedSimpArgs false
def dmay (l : List Int) (e : Int) : Prop := -16384 ≤ e ∧ e ≤ 16384 ∧ l.length ≤ 1024
instance (l : List Int) (e : Int) : Decidable (dmay l e) := by unfold dmay; exact inferInstance
theorem check_ok {s : Bool} {l : List Int} {e : Int} (h : dmay l e) : dyadic_Check.f s l e = some 0 := by
 obtain ⟨h0, h1, h2⟩ := h
 unfold dyadic_Check.f
 rw [if_neg (by omega), if_neg (by omega), if_neg (by omega)]
theorem check_no {s : Bool} {l : List Int} {e : Int} (h : ¬ dmay l e) : dyadic_Check.f s l e = some 9 := by
 unfold dmay at h
 unfold dyadic_Check.f
 by_cases h0 : e < -16384
 ·
  rw [if_pos h0]
 ·
  rw [if_neg h0]
  by_cases h1 : e > 16384
  ·
   rw [if_pos h1]
  ·
   rw [if_neg h1, if_pos (by omega)]
def dtold (s : Bool) (l : List Int) (e : Int) : Bool × List Int × Int × Int := if dmay l e then (s, l, e, 0) else (false, [], 0, 4)
theorem dtold_loop {v : Int} {n : Nat} (hn : n ≤ 10000000) (x1 x6 : Int) (s : Bool) (og : List Int) : ∀ (f left : Nat) (a : List Int) (d : Nat), left ≤ f → left < 1000000000 → Nm a (v / 2 ^ d) n →
  Ev (fun k => dyadic_told.l0 k x1 x6 a (left : Int) s og) (dtold s (dg 18446744073709551616 (v / 2 ^ (d + left))) (wrap64 (x1 + x6)))
 | f, 0, a, d, hf, hl, ha => by
  obtain ⟨e1, n1⟩ := ha.norm (by omega)
  refine Ev.step (f := _) (fun k => by rw [dyadic_told.l0, if_neg (by omega)]) (Ev.bind e1 ?_)
  rw [Nat.add_zero]
  unfold dtold
  by_cases hm : dmay (dg 18446744073709551616 (v / 2 ^ d)) (wrap64 (x1 + x6))
  ·
   rw [if_pos hm]
   exact Ev.bind (g := fun _ => dyadic_Check.f s (dg 18446744073709551616 (v / 2 ^ d)) (wrap64 (x1 + x6))) (Ev.congr (fun _ => check_ok hm) (Ev.now _)) (Ev.congr (fun k => if_pos rfl) (Ev.now _))
  ·
   rw [if_neg hm]
   exact Ev.bind (g := fun _ => dyadic_Check.f s (dg 18446744073709551616 (v / 2 ^ d)) (wrap64 (x1 + x6))) (Ev.congr (fun _ => check_no hm) (Ev.now _)) (Ev.congr (fun k => if_neg (by decide)) (Ev.now _))
 | 0, left + 1, a, d, hf, hl, ha => by omega
 | f + 1, left + 1, a, d, hf, hl, ha => by
  obtain ⟨c, hc, hc1, hc2⟩ : ∃ c : Nat, mn ((left + 1 : Nat) : Int) 65536 = (c : Int) ∧ 0 < c ∧ c ≤ 65536 := ⟨(mn ((left + 1 : Nat) : Int) 65536).toNat, by unfold mn; split <;> omega⟩
  have hcl : c ≤ left + 1 := by unfold mn at hc; split at hc <;> omega
  obtain ⟨e1, n1⟩ := ha.Shr c (by omega) hc2
  have ed : v / 2 ^ d / 2 ^ c = v / 2 ^ (d + c) := by rw [ediv_two (two_pow_pos d), ← Int.pow_add]
  rw [ed] at e1 n1
  by_cases hlast : left + 1 ≤ 65536
  ·
   have hcc : c = left + 1 := by unfold mn at hc; split at hc <;> omega
   have hrec := dtold_loop hn x1 x6 s og f 0 _ (d + c) (by omega) (by omega) n1
   rw [Nat.add_zero, hcc] at hrec
   have hneg : Ev (fun k => dyadic_told.l0 k x1 x6 (dg 18446744073709551616 (v / 2 ^ (d + (left + 1)))) (wrap64 (((left + 1 : Nat) : Int) - 65536)) s og) (dtold s (dg 18446744073709551616 (v / 2 ^ (d + (left + 1)))) (wrap64 (x1 + x6))) := by
    rw [hcc] at n1
    obtain ⟨e2, n2⟩ := n1.norm (by omega)
    refine Ev.step (f := _) (fun k => by rw [dyadic_told.l0, if_neg (by rw [w64 (by omega) (by omega)]; omega)]) (Ev.bind e2 ?_)
    unfold dtold
    by_cases hm : dmay (dg 18446744073709551616 (v / 2 ^ (d + (left + 1)))) (wrap64 (x1 + x6))
    ·
     rw [if_pos hm]
     exact Ev.bind (g := fun _ => dyadic_Check.f s (dg 18446744073709551616 (v / 2 ^ (d + (left + 1)))) (wrap64 (x1 + x6))) (Ev.congr (fun _ => check_ok hm) (Ev.now _)) (Ev.congr (fun k => if_pos rfl) (Ev.now _))
    ·
     rw [if_neg hm]
     exact Ev.bind (g := fun _ => dyadic_Check.f s (dg 18446744073709551616 (v / 2 ^ (d + (left + 1)))) (wrap64 (x1 + x6))) (Ev.congr (fun _ => check_no hm) (Ev.now _)) (Ev.congr (fun k => if_neg (by decide)) (Ev.now _))
   refine Ev.step (f := _) (fun k => by rw [dyadic_told.l0, if_pos (by omega), hc]) (Ev.bind e1 ?_)
   rw [hcc]
   exact hneg
  ·
   have hcc : c = 65536 := by unfold mn at hc; split at hc <;> omega
   obtain ⟨r, hr⟩ : ∃ r, left + 1 = r + 65536 := ⟨left + 1 - 65536, by omega⟩
   have hrec := dtold_loop hn x1 x6 s og f r _ (d + c) (by omega) (by omega) n1
   rw [show d + c + r = d + (left + 1) by omega] at hrec
   refine Ev.step (f := _) (fun k => by rw [dyadic_told.l0, if_pos (by omega), hc]) (Ev.bind e1 ?_)
   rw [w64 (x := ((left + 1 : Nat) : Int) - 65536) (by omega) (by omega), show ((left + 1 : Nat) : Int) - 65536 = (r : Int) by omega]
   exact hrec
theorem dtold0_ev {s : Bool} {l : List Int} {n : Nat} (h : Nm l 0 n) (hn : n ≤ 10000000) (exp : Int) : Ev (fun k => dyadic_told.f k s l exp) (false, [], 0, 0) := by
 have hw : Wh s l (sv s 0) n := Wh.of h
 have e := hw.sign (by omega)
 have hz : sgn (sv s 0) = 0 := by cases s <;> rfl
 rw [hz] at e
 unfold dyadic_told.f
 exact Ev.bind e (Ev.congr (fun k => if_pos rfl) (Ev.now _))
theorem odd2_pos {v m : Int} {t : Nat} (h : Odd2 v t m) (hm : 0 ≤ m) : 0 < v := by
 unfold Odd2 at h
 rw [h]
 exact Int.mul_pos (two_pow_pos t) (by omega)
theorem odd2_div {v m : Int} {t : Nat} (h : Odd2 v t m) : v / 2 ^ t = 2 * m + 1 := by
 unfold Odd2 at h
 rw [h]
 exact Int.mul_ediv_cancel_left _ (by have := two_pow_pos t; omega)
theorem dtold_ev {s : Bool} {l : List Int} {v m : Int} {t n : Nat} (h : Nm l v n) (hn : n ≤ 10000000) (ho : Odd2 v t m) (hm : 0 ≤ m) (exp : Int) : Ev (fun k => dyadic_told.f k s l exp) (dtold s (dg 18446744073709551616 (2 * m + 1)) (wrap64 (exp + t))) := by
 have hv := odd2_pos ho hm
 have hw : Wh s l (sv s v) n := Wh.of h
 have e := hw.sign (by omega)
 have hz : sgn (sv s v) ≠ 0 := by
  unfold sgn sv
  split <;> split <;> (try split) <;> omega
 obtain ⟨t', e2, ht⟩ := h.zeros (by omega)
 have ht' : t' = t ∧ t' < 64 * n := by
  rcases ht with ⟨h0, _⟩ | ⟨m', _, h1, h2⟩
  ·
   omega
  ·
   exact ⟨(h1.uniq ho).1, h2⟩
 obtain ⟨rfl, hb⟩ := ht'
 have hl := dtold_loop (v := v) hn exp (t' : Int) s l t' t' l 0 (Nat.le_refl _) (by omega) (by rw [Int.pow_zero, Int.ediv_one]; exact h)
 rw [Nat.zero_add, odd2_div ho] at hl
 unfold dyadic_told.f
 exact Ev.bind e (Ev.congr (fun k => if_neg hz) (Ev.bind e2 hl))
end Go.Proofs.YtjgdpjbkmcjbcaaDoor.PG
end
section
namespace Go.Proofs.YtjgdpjbkmcjbcaaDoor.Flt
open Go.Proofs.YtjgdpjbkmcjbcaaDoor.Num
set_option linter.unusedVariables false
set_option linter.unusedSimpArgs false
def up2 (a : Int) : Int := 2 ^ a.toNat
theorem up2_pos (a : Int) : 0 < up2 a := two_pow_pos _
theorem up2_nat (n : Nat) : up2 (n : Int) = 2 ^ n := by unfold up2; rw [Int.toNat_natCast]
theorem up2_neg {a : Int} (h : a ≤ 0) : up2 a = 1 := by unfold up2; rw [show a.toNat = 0 by omega]; rfl
theorem up2_add {a b : Int} (ha : 0 ≤ a) (hb : 0 ≤ b) : up2 (a + b) = up2 a * up2 b := by
 unfold up2
 rw [show (a + b).toNat = a.toNat + b.toNat by omega, Int.pow_add]
theorem up2_mono {a b : Int} (h : a ≤ b) : up2 a ≤ up2 b := two_pow_mono (by omega)
theorem up2_one : up2 1 = 2 := rfl
theorem up2_succ {a : Int} (ha : 0 ≤ a) : up2 (a + 1) = 2 * up2 a := by rw [up2_add ha (by omega), up2_one, Int.mul_comm]
def qhs (A D : Int) : Int × Bool × Bool := (A / D, decide (D ≤ 2 * (A % D)), decide (A % D ≠ 0 ∧ 2 * (A % D) ≠ D))
theorem qhs_scale {A D c : Int} (hc : 0 < c) : qhs (c * A) (c * D) = qhs A D := by
 unfold qhs
 rw [Int.mul_ediv_mul_of_pos _ _ hc, Int.mul_emod_mul_of_pos _ _ hc]
 have e : 2 * (c * (A % D)) = c * (2 * (A % D)) := by grind
 rw [e]
 congr 1
 congr 1
 ·
  exact decide_eq_decide.2 ⟨fun h => Int.le_of_mul_le_mul_left h hc, fun h => Int.mul_le_mul_of_nonneg_left h (by omega)⟩
 ·
  refine decide_eq_decide.2 ⟨fun ⟨h1, h2⟩ => ⟨fun h => h1 (by rw [h, Int.mul_zero]), fun h => h2 (by rw [h])⟩, fun ⟨h1, h2⟩ => ⟨fun h => h1 ?_, fun h => h2 ?_⟩⟩
  ·
   rcases Int.mul_eq_zero.1 h with h | h
   ·
    omega
   ·
    exact h
  ·
   exact Int.eq_of_mul_eq_mul_left (by omega) h
theorem qhs_one (A : Int) : qhs A 1 = (A, false, false) := by
 unfold qhs
 rw [Int.ediv_one, Int.emod_one]
 rfl
def qx (N x e : Int) : Int × Bool × Bool := qhs (N * up2 (x - e)) (up2 (e - x))
theorem qx_shift (N x e : Int) (k : Nat) : qx (N * 2 ^ k) (x - k) e = qx N x e := by
 unfold qx
 by_cases h : e ≤ x - k
 ·
  have e1 : up2 (x - k - e) * 2 ^ k = up2 (x - e) := by
   have := up2_add (a := x - k - e) (b := (k : Int)) (by omega) (by omega)
   rw [up2_nat] at this
   rw [← this]; congr 1; omega
  rw [up2_neg (a := e - (x - k)) (by omega), up2_neg (a := e - x) (by omega), ← e1]
  congr 1
  grind
 ·
  by_cases h2 : e ≤ x
  ·
   have e1 : up2 (x - e) * up2 (e - (x - k)) = 2 ^ k := by
    have := up2_add (a := x - e) (b := e - (x - k)) (by omega) (by omega)
    rw [← this, ← up2_nat]; congr 1; omega
   rw [up2_neg (a := x - k - e) (by omega), up2_neg (a := e - x) (by omega), ← e1]
   have := qhs_scale (A := N * up2 (x - e)) (D := 1) (up2_pos (e - (x - k)))
   rw [← this]
   congr 1
   ·
    grind
   ·
    grind
  ·
   have e1 : up2 (e - (x - k)) = up2 (e - x) * 2 ^ k := by
    have := up2_add (a := e - x) (b := (k : Int)) (by omega) (by omega)
    rw [up2_nat] at this
    rw [← this]; congr 1; omega
   rw [up2_neg (a := x - k - e) (by omega), up2_neg (a := x - e) (by omega), e1]
   have := qhs_scale (A := N * 1) (D := up2 (e - x)) (two_pow_pos k)
   rw [← this]
   congr 1
   ·
    grind
   ·
    grind
theorem qhs_sticky {W K t D : Int} (hK : 0 < K) (h0 : 0 ≤ t) (ht : t < K) (hD : 0 < D) (he : t ≠ 0 → D % 2 = 0) :
  qhs (K * W + t) (K * D) = ((qhs W D).1, (qhs W D).2.1, (qhs W D).2.2 || decide (t ≠ 0)) := by
 by_cases hz : t = 0
 ·
  subst hz
  rw [Int.add_zero, qhs_scale hK]
  simp
 ·
  have hev := he hz
  have hm0 := Int.emod_nonneg W (show D ≠ 0 by omega)
  have hm1 := Int.emod_lt_of_pos W hD
  have hdm := Int.emod_add_mul_ediv W D
  generalize hr : W % D = r at *
  generalize hq : W / D = q at *
  have hlt : K * r + t < K * D := by
   have : K * r ≤ K * (D - 1) := Int.mul_le_mul_of_nonneg_left (by omega) (by omega)
   rw [Int.mul_sub] at this
   omega
  have hnn : 0 ≤ K * r := Int.mul_nonneg (by omega) hm0
  have e : K * W + t = (K * r + t) + (K * D) * q := by rw [← hdm]; grind
  have ed : (K * W + t) / (K * D) = q := by
   rw [e, Int.add_mul_ediv_left _ _ (by have := Int.mul_pos hK hD; omega), Int.ediv_eq_zero_of_lt (by omega) hlt, Int.zero_add]
  have em : (K * W + t) % (K * D) = K * r + t := by
   rw [e, Int.add_mul_emod_self_left, Int.emod_eq_of_lt (by omega) hlt]
  unfold qhs
  rw [ed, em, hr, hq]
  obtain ⟨d2, hd2⟩ : ∃ d2, D = 2 * d2 := ⟨D / 2, by omega⟩
  subst hd2
  congr 1
  congr 1
  ·
   refine decide_eq_decide.2 ⟨fun h => ?_, fun h => ?_⟩
   ·
    by_cases hc : d2 ≤ r
    ·
     omega
    ·
     have : K * r ≤ K * (d2 - 1) := Int.mul_le_mul_of_nonneg_left (by omega) (by omega)
     rw [Int.mul_sub] at this
     have e2 : K * (2 * d2) = 2 * (K * d2) := by grind
     omega
   ·
    have : K * d2 ≤ K * r := Int.mul_le_mul_of_nonneg_left (by omega) (by omega)
    have e2 : K * (2 * d2) = 2 * (K * d2) := by grind
    omega
  ·
   rw [decide_eq_true hz, Bool.or_true, decide_eq_true_eq]
   refine ⟨by omega, fun h => ?_⟩
   have e2 : K * (2 * d2) = 2 * (K * d2) := by grind
   rw [e2] at h
   have h3 : K * (d2 - r) = t := by rw [Int.mul_sub]; omega
   by_cases hc : d2 - r ≤ 0
   ·
    have : K * (d2 - r) ≤ K * 0 := Int.mul_le_mul_of_nonneg_left hc (by omega)
    omega
   ·
    have : K * 1 ≤ K * (d2 - r) := Int.mul_le_mul_of_nonneg_left (by omega) (by omega)
    omega
theorem qx_sticky {N : Int} (hN : 0 ≤ N) (x e : Int) (k : Nat) (he : N % 2 ^ k ≠ 0 → x + k < e) :
  qx N x e = ((qx (N / 2 ^ k) (x + k) e).1, (qx (N / 2 ^ k) (x + k) e).2.1, (qx (N / 2 ^ k) (x + k) e).2.2 || decide (N % 2 ^ k ≠ 0)) := by
 have hK := two_pow_pos k
 have hdm := Int.emod_add_mul_ediv N (2 ^ k)
 have h0 := Int.emod_nonneg N (show (2 : Int) ^ k ≠ 0 by omega)
 have h1 := Int.emod_lt_of_pos N hK
 by_cases hz : N % 2 ^ k = 0
 ·
  have hs := qx_shift (N / 2 ^ k) (x + k) e k
  rw [show x + (k : Int) - k = x by omega] at hs
  have e1 : N / 2 ^ k * 2 ^ k = N := by rw [hz] at hdm; rw [Int.mul_comm]; omega
  rw [e1] at hs
  rw [hs]
  simp [hz]
 ·
  have hlt := he hz
  unfold qx
  rw [up2_neg (a := x - e) (by omega), up2_neg (a := x + k - e) (by omega)]
  have e1 : up2 (e - x) = 2 ^ k * up2 (e - (x + k)) := by
   have := up2_add (a := (k : Int)) (b := e - (x + k)) (by omega) (by omega)
   rw [up2_nat] at this
   rw [← this]; congr 1; omega
  have hs := qhs_sticky (W := N / 2 ^ k) (K := 2 ^ k) (t := N % 2 ^ k) (D := up2 (e - (x + k))) hK h0 h1 (up2_pos _) (fun _ => by
   rw [show e - (x + k) = (e - (x + k) - 1) + 1 by omega, up2_succ (by omega)]
   omega)
  rw [show (2 : Int) ^ k * (N / 2 ^ k) + N % 2 ^ k = N by omega] at hs
  rw [e1, Int.mul_one, Int.mul_one, hs]
theorem bitsOf_mul_pow {W : Int} (hW : 0 < W) (k : Nat) : bitsOf (W * 2 ^ k) = bitsOf W + k := by
 obtain ⟨_, h1, h2, h3⟩ := bitsOf_spec (v := W) (by omega)
 have hp := bitsOf_pos hW
 refine (bitsOf_eq ⟨Int.mul_nonneg (by omega) (Int.le_of_lt (two_pow_pos k)), by omega, ?_, .inr ?_⟩).symm
 ·
  rw [show (bitsOf W + k).toNat = (bitsOf W).toNat + k by omega, Int.pow_add]
  exact Int.mul_lt_mul_of_pos_right h2 (two_pow_pos k)
 ·
  rw [show (bitsOf W + k).toNat - 1 = ((bitsOf W).toNat - 1) + k by omega, Int.pow_add]
  exact Int.mul_le_mul_of_nonneg_right (h3.resolve_left (by omega)) (Int.le_of_lt (two_pow_pos k))
theorem bitsOf_cut {N : Int} (k : Nat) (h : 0 < N / 2 ^ k) : bitsOf N = bitsOf (N / 2 ^ k) + k := by
 have hK := two_pow_pos k
 have hdm := Int.emod_add_mul_ediv N (2 ^ k)
 have h0 := Int.emod_nonneg N (show (2 : Int) ^ k ≠ 0 by omega)
 have h1 := Int.emod_lt_of_pos N hK
 obtain ⟨g0, g1, g2, g3⟩ := bitsOf_spec (v := N / 2 ^ k) (by omega)
 have hp := bitsOf_pos h
 generalize N / 2 ^ k = W at *
 generalize N % 2 ^ k = t at *
 have hWK : 0 ≤ 2 ^ k * W := Int.mul_nonneg (by omega) g0
 refine (bitsOf_eq ⟨by omega, by omega, ?_, .inr ?_⟩).symm
 ·
  rw [show (bitsOf W + k).toNat = (bitsOf W).toNat + k by omega, Int.pow_add]
  have : 2 ^ k * (W + 1) ≤ 2 ^ k * 2 ^ (bitsOf W).toNat := Int.mul_le_mul_of_nonneg_left (by omega) (by omega)
  rw [Int.mul_add, Int.mul_one, Int.mul_comm (2 ^ k) (2 ^ _)] at this
  omega
 ·
  rw [show (bitsOf W + k).toNat - 1 = k + ((bitsOf W).toNat - 1) by omega, Int.pow_add]
  have : 2 ^ k * 2 ^ ((bitsOf W).toNat - 1) ≤ 2 ^ k * W := Int.mul_le_mul_of_nonneg_left (g3.resolve_left (by omega)) (by omega)
  omega
theorem bitsOf_ge {v : Int} {n : Nat} (h : 2 ^ n ≤ v) : (n : Int) + 1 ≤ bitsOf v := by
 have h0 : 0 < v := by have := two_pow_pos n; omega
 have h2 := bitsOf_lt_pow (v := v) (by omega)
 have := two_pow_lt_iff.1 (Int.lt_of_le_of_lt h h2)
 have := bitsOf_nonneg v
 omega
theorem bitsOf_low {v : Int} (h : 0 < v) : 2 ^ ((bitsOf v).toNat - 1) ≤ v := by
 obtain ⟨_, _, _, h3⟩ := bitsOf_spec (v := v) (by omega)
 exact h3.resolve_left (by have := bitsOf_pos h; omega)
def rup (neg : Bool) (q : Int) (h s : Bool) (mode : Int) : Bool :=
 if mode = 1 then h else if mode = 2 then false else if mode = 3 then !neg && (h || s) else if mode = 4 then neg && (h || s) else h && (s || decide (q % 2 = 1))
def rzero (neg : Bool) : Int := if neg = true then 9223372036854775808 else 0
def rinf (neg : Bool) : Int := rzero neg + 9218868437227405312
def rover (neg : Bool) (mode : Int) : Int × Int :=
 if mode = 2 ∨ (mode = 3 ∧ neg = true) ∨ (mode = 4 ∧ neg = false) then (rinf neg - 1, 20) else (rinf neg, 20)
def rput (neg : Bool) (q e : Int) : Int := if q < 4503599627370496 then rzero neg + q else rzero neg + (e + 1075) * 4503599627370496 + (q - 4503599627370496)
def rfin (neg : Bool) (e : Int) (p : Int × Bool × Bool) (tiny : Bool) (mode : Int) : Int × Int :=
 let u := rup neg p.1 p.2.1 p.2.2 mode
 let q := if u = true then p.1 + 1 else p.1
 let fl := if p.2.1 = true ∨ p.2.2 = true then (if tiny = true then 24 else 16) else 0
 let q2 := if 9007199254740992 ≤ q then q / 2 else q
 let e2 := if 9007199254740992 ≤ q then e + 1 else e
 if 4503599627370496 ≤ q2 ∧ 971 < e2 then rover neg mode else (rput neg q2 e2, fl)
def rexp (n x : Int) : Int := if n + x - 53 < -1074 then -1074 else n + x - 53
def rnd (neg : Bool) (N x mode : Int) : Int × Int :=
 rfin neg (rexp (bitsOf N) x) (qx N x (rexp (bitsOf N) x)) (decide (bitsOf N + x - 1 < -1022)) mode
theorem rexp_ge (n x : Int) : -1074 ≤ rexp n x ∧ n + x - 53 ≤ rexp n x ∧ (rexp n x = -1074 ∨ rexp n x = n + x - 53) := by unfold rexp; split <;> omega
theorem rnd_sticky (neg : Bool) {N : Int} (hN : 0 < N) (x : Int) (k : Nat) (mode : Int) (hW : 0 < N / 2 ^ k) (hm : N % 2 ^ k ≠ 0 → 55 ≤ bitsOf (N / 2 ^ k) ∨ x + k ≤ -1080) :
  rnd neg N x mode = rfin neg (rexp (bitsOf (N / 2 ^ k)) (x + k)) ((qx (N / 2 ^ k) (x + k) (rexp (bitsOf (N / 2 ^ k)) (x + k))).1, (qx (N / 2 ^ k) (x + k) (rexp (bitsOf (N / 2 ^ k)) (x + k))).2.1, (qx (N / 2 ^ k) (x + k) (rexp (bitsOf (N / 2 ^ k)) (x + k))).2.2 || decide (N % 2 ^ k ≠ 0))
   (decide (bitsOf (N / 2 ^ k) + (x + k) - 1 < -1022)) mode := by
 have hb := bitsOf_cut k hW
 have he : bitsOf N + x = bitsOf (N / 2 ^ k) + (x + k) := by omega
 have hx : rexp (bitsOf N) x = rexp (bitsOf (N / 2 ^ k)) (x + k) := by unfold rexp; rw [he]
 unfold rnd
 rw [hx, he, qx_sticky (by omega) x _ k (fun h => by have := rexp_ge (bitsOf (N / 2 ^ k)) (x + k); have := hm h; omega)]
theorem rnd_shift (neg : Bool) {W : Int} (hW : 0 < W) (x : Int) (k : Nat) (mode : Int) : rnd neg (W * 2 ^ k) (x - k) mode = rnd neg W x mode := by
 have hb := bitsOf_mul_pow hW k
 have he : bitsOf (W * 2 ^ k) + (x - k) = bitsOf W + x := by omega
 have hx : rexp (bitsOf (W * 2 ^ k)) (x - k) = rexp (bitsOf W) x := by unfold rexp; rw [he]
 unfold rnd
 rw [hx, he, qx_shift]
theorem ad_lt {N x e m : Int} (hN : 0 ≤ N) (hm : 0 ≤ m) (he : bitsOf N + x - m ≤ e) : N * up2 (x - e) < up2 m * up2 (e - x) := by
 have hA := up2_pos (x - e)
 have h2 := bitsOf_lt_pow hN
 have hb := bitsOf_nonneg N
 have hN2 : N < up2 (bitsOf N) := h2
 have h3 : N * up2 (x - e) < up2 (bitsOf N) * up2 (x - e) := Int.mul_lt_mul_of_pos_right hN2 hA
 by_cases hc : e ≤ x
 ·
  rw [← up2_add hb (by omega)] at h3
  rw [up2_neg (a := e - x) (by omega), Int.mul_one]
  exact Int.lt_of_lt_of_le h3 (up2_mono (by omega))
 ·
  rw [up2_neg (a := x - e) (by omega), Int.mul_one] at h3 ⊢
  rw [Int.mul_one] at h3
  rw [← up2_add (by omega) (by omega)]
  exact Int.lt_of_lt_of_le h3 (up2_mono (by omega))
theorem ad_ge {N x e m : Int} (hN : 0 < N) (hm : 0 ≤ m) (he : e ≤ bitsOf N + x - 1 - m) : up2 m * up2 (e - x) ≤ N * up2 (x - e) := by
 have hA := up2_pos (x - e)
 have hb := bitsOf_pos hN
 have hl := bitsOf_low hN
 have hN2 : up2 (bitsOf N - 1) ≤ N := by unfold up2; rw [show (bitsOf N - 1).toNat = (bitsOf N).toNat - 1 by omega]; exact hl
 have h3 : up2 (bitsOf N - 1) * up2 (x - e) ≤ N * up2 (x - e) := Int.mul_le_mul_of_nonneg_right hN2 (by omega)
 by_cases hc : e ≤ x
 ·
  rw [← up2_add (by omega) (by omega)] at h3
  rw [up2_neg (a := e - x) (by omega), Int.mul_one]
  exact Int.le_trans (up2_mono (by omega)) h3
 ·
  rw [up2_neg (a := x - e) (by omega), Int.mul_one, Int.mul_one] at h3
  rw [up2_neg (a := x - e) (by omega), Int.mul_one, ← up2_add (by omega) (by omega)]
  exact Int.le_trans (up2_mono (by omega)) h3
theorem qx_nonneg {N x e : Int} (hN : 0 ≤ N) : 0 ≤ (qx N x e).1 := by
 have hD := up2_pos (e - x)
 have hA := up2_pos (x - e)
 exact Int.ediv_nonneg (Int.mul_nonneg hN (by omega)) (by omega)
theorem qx_lt {N x e : Int} (hN : 0 ≤ N) (he : bitsOf N + x - 53 ≤ e) : 0 ≤ (qx N x e).1 ∧ (qx N x e).1 < 9007199254740992 :=
 ⟨qx_nonneg hN, Int.ediv_lt_of_lt_mul (up2_pos _) (ad_lt hN (m := 53) (by omega) he)⟩
theorem qx_ge {N x : Int} (hN : 0 < N) : 4503599627370496 ≤ (qx N x (bitsOf N + x - 53)).1 :=
 Int.le_ediv_of_mul_le (up2_pos _) (ad_ge hN (m := 52) (by omega) (by omega))
theorem rnd_tiny (neg : Bool) {N x : Int} (hN : 0 < N) (h : bitsOf N + x ≤ -1080) (mode : Int) : rnd neg N x mode = rfin neg (-1074) (0, false, true) true mode := by
 have hb := bitsOf_pos hN
 have he : rexp (bitsOf N) x = -1074 := by unfold rexp; rw [if_pos (by omega)]
 have h2 : N < up2 (bitsOf N) := bitsOf_lt_pow (by omega)
 have h3 : up2 (bitsOf N + 1) ≤ up2 (-1074 - x) := up2_mono (by omega)
 rw [up2_succ (by omega)] at h3
 have hq : qx N x (-1074) = (0, false, true) := by
  unfold qx qhs
  rw [up2_neg (a := x - -1074) (by omega), Int.mul_one, Int.ediv_eq_zero_of_lt (by omega) (by omega), Int.emod_eq_of_lt (by omega) (by omega)]
  congr 1
  congr 1
  ·
   exact decide_eq_false (by omega)
  ·
   exact decide_eq_true (by omega)
 unfold rnd
 rw [he, hq, decide_eq_true (by omega)]
theorem rnd_great (neg : Bool) {N x : Int} (hN : 0 < N) (h : 1026 ≤ bitsOf N + x) (mode : Int) : rnd neg N x mode = rover neg mode := by
 have he : rexp (bitsOf N) x = bitsOf N + x - 53 := by unfold rexp; rw [if_neg (by omega)]
 have h1 := qx_ge (x := x) hN
 unfold rnd rfin
 rw [he]
 generalize qx N x (bitsOf N + x - 53) = p at *
 have hq : 4503599627370496 ≤ (if rup neg p.1 p.2.1 p.2.2 mode = true then p.1 + 1 else p.1) := by split <;> omega
 simp only
 generalize (if rup neg p.1 p.2.1 p.2.2 mode = true then p.1 + 1 else p.1) = q at *
 refine if_pos ?_
 split <;> omega
end Go.Proofs.YtjgdpjbkmcjbcaaDoor.Flt
end
section
namespace Go.Proofs.YtjgdpjbkmcjbcaaDoor.PG
open Go.RowKit Go.Proofs.YtjgdpjbkmcjbcaaDoorW.PrintWords Go.Proofs.YtjgdpjbkmcjbcaaDoorW.PrintLast Go.Proofs.YtjgdpjbkmcjbcaaDoorW.PrintMore Go.Proofs.YtjgdpjbkmcjbcaaDoor.Num Go.Proofs.YtjgdpjbkmcjbcaaDoor.Flt
set_option linter.unusedVariables false
set_option linter.unusedSimpArgs false
theorem i64_of_wf {a : Int} (h : (Lit.int .i64 a).wf = true) : -9223372036854775808 ≤ a ∧ a ≤ 9223372036854775807 := by
 simp [Lit.wf, IntKind.min, IntKind.max, IntKind.signed, IntKind.bits] at h
 omega
def t2F : Nat → Int → Nat
 | 0, _ => 0
 | f + 1, v => if v % 2 = 0 then t2F f (v / 2) + 1 else 0
def t2 (v : Int) : Nat := t2F v.toNat v
def od (v : Int) : Int := v / 2 ^ t2 v
theorem t2F_spec : ∀ (f : Nat) (v : Int), 0 < v → v.toNat ≤ f → ∃ m, 0 ≤ m ∧ Odd2 v (t2F f v) m
 | 0, v, h0, h1 => by omega
 | f + 1, v, h0, h1 => by
  unfold t2F
  by_cases h : v % 2 = 0
  ·
   rw [if_pos h]
   obtain ⟨m, hm, ho⟩ := t2F_spec f (v / 2) (by omega) (by omega)
   refine ⟨m, hm, ?_⟩
   unfold Odd2 at ho ⊢
   rw [Int.pow_succ, Int.mul_assoc, Int.mul_left_comm, ← ho]
   omega
  ·
   rw [if_neg h]
   refine ⟨v / 2, by omega, ?_⟩
   unfold Odd2
   rw [Int.pow_zero, Int.one_mul]
   omega
theorem t2_odd {v : Int} (h : 0 < v) : ∃ m, 0 ≤ m ∧ Odd2 v (t2 v) m := t2F_spec _ v h (Nat.le_refl _)
theorem t2_eq {v m : Int} {t : Nat} (hm : 0 ≤ m) (h : Odd2 v t m) : t2 v = t := by
 obtain ⟨m', _, h'⟩ := t2_odd (odd2_pos h hm)
 exact (h'.uniq h).1
theorem od_eq {v m : Int} {t : Nat} (hm : 0 ≤ m) (h : Odd2 v t m) : od v = 2 * m + 1 := by
 unfold od
 rw [t2_eq hm h]
 exact odd2_div h
theorem od_val {v : Int} (h : 0 < v) : v = od v * 2 ^ t2 v ∧ 0 < od v ∧ od v ≤ v := by
 obtain ⟨m, hm, ho⟩ := t2_odd h
 have e := od_eq hm ho
 refine ⟨?_, by omega, ?_⟩
 ·
  rw [e]
  unfold Odd2 at ho
  rw [Int.mul_comm]
  exact ho
 ·
  unfold od
  exact Int.ediv_le_self _ (by omega)
def oz (z : Int) : Int := sv (decide (z < 0)) (od (z.natAbs : Int))
def dt (z x : Int) : Bool × List Int × Int × Int :=
 if z = 0 then (false, [], 0, 0) else dtold (decide (z < 0)) (dg 18446744073709551616 (od (z.natAbs : Int))) (wrap64 (x + t2 (z.natAbs : Int)))
theorem told_wh {s : Bool} {l : List Int} {z : Int} {n : Nat} (h : Wh s l z n) (hn : n ≤ 10000000) (x : Int) : Ev (fun k => dyadic_told.f k s l x) (dt z x) := by
 unfold dt
 by_cases hz : z = 0
 ·
  rw [if_pos hz]
  have := h.nm
  rw [hz] at this
  exact dtold0_ev this hn x
 ·
  rw [if_neg hz]
  obtain ⟨m, hm, ho⟩ := t2_odd (v := (z.natAbs : Int)) (by omega)
  have e := dtold_ev (s := s) h.nm hn ho hm x
  have hs : decide (z < 0) = s := by
   have hv := h.val
   cases s
   ·
    simp only [sv, Bool.false_eq_true, if_false] at hv
    exact decide_eq_false (by omega)
   ·
    simp only [sv, if_true] at hv
    exact decide_eq_true (by omega)
  rw [hs, od_eq hm ho]
  exact e
theorem oz_abs {z : Int} (hz : z ≠ 0) : ((oz z).natAbs : Int) = od (z.natAbs : Int) ∧ decide (oz z < 0) = decide (z < 0) ∧ oz z ≠ 0 := by
 have h := od_val (v := (z.natAbs : Int)) (by omega)
 unfold oz sv
 by_cases c : z < 0
 ·
  rw [decide_eq_true c, if_pos rfl]
  exact ⟨by omega, by rw [decide_eq_true (by omega)], by omega⟩
 ·
  rw [decide_eq_false c, if_neg (by decide)]
  exact ⟨by omega, by rw [decide_eq_false (by omega)], by omega⟩
theorem dt_wz {z : Int} (hz : z ≠ 0) (x : Int) : dt z x = if dmay (wz (oz z)).2 (wrap64 (x + t2 (z.natAbs : Int))) then ((wz (oz z)).1, (wz (oz z)).2, wrap64 (x + t2 (z.natAbs : Int)), 0) else (false, [], 0, 4) := by
 obtain ⟨h1, h2, _⟩ := oz_abs hz
 unfold dt dtold wz
 rw [if_neg hz, h1, h2]
theorem t2_lt {v : Int} {n : Nat} (h0 : 0 < v) (h : v < 18446744073709551616 ^ n) : t2 v < 64 * n := by
 have hv := od_val h0
 have e1 : (18446744073709551616 : Int) ^ n = 2 ^ (64 * n) := by rw [show (18446744073709551616 : Int) = 2 ^ 64 by decide, ← Int.pow_mul]
 have hle : (2 : Int) ^ t2 v ≤ v := by
  have hp := two_pow_pos (t2 v)
  have := Int.mul_le_mul_of_nonneg_right (show (1 : Int) ≤ od v by omega) (Int.le_of_lt hp)
  rw [Int.one_mul, ← hv.1] at this
  exact this
 rw [e1] at h
 exact two_pow_lt_iff.1 (Int.lt_of_le_of_lt hle h)
def vl (z x : Int) : Int := z * up2 (x + 200000)
theorem vl_shift (z x : Int) (k : Nat) (h : -200000 ≤ x - k) : vl (z * 2 ^ k) (x - k) = vl z x := by
 unfold vl
 rw [show x + 200000 = (x - k + 200000) + (k : Int) by omega, up2_add (a := x - k + 200000) (by omega) (by omega), up2_nat]
 grind
theorem vl_up (z x : Int) (t : Nat) (h : -200000 ≤ x) : vl (z * 2 ^ t) x = vl z (x + t) := by
 have := vl_shift z (x + t) t (by omega)
 rwa [show x + (t : Int) - t = x by omega] at this
theorem vl_inj {z y x : Int} (h : vl z x = vl y x) : z = y := by
 unfold vl at h
 have := up2_pos (x + 200000)
 exact Int.eq_of_mul_eq_mul_right (by omega) h
theorem rnd_vl {neg : Bool} {N M x w : Int} (mode : Int) (hN : 0 < N) (hM : 0 < M) (h : vl N x = vl M w) (hx : -200000 ≤ x) (hw : -200000 ≤ w) : rnd neg N x mode = rnd neg M w mode := by
 have key : ∀ (z y x w : Int), 0 < y → x ≤ w → -200000 ≤ x → vl z x = vl y w → rnd neg z x mode = rnd neg y w mode := by
  intro z y x w hy hxw hx h
  obtain ⟨k, hk⟩ : ∃ k : Nat, w - x = k := ⟨(w - x).toNat, by omega⟩
  have e := vl_shift y w k (by omega)
  rw [show w - (k : Int) = x by omega] at e
  have hz : z = y * 2 ^ k := vl_inj (h.trans e.symm)
  have := rnd_shift neg hy w k mode
  rw [hz, show x = w - k by omega]
  exact this
 rcases Int.le_total x w with c | c
 ·
  exact key N M x w hM c hx h
 ·
  exact (key M N w x hN c hw h.symm).symm
theorem sv_mul (s : Bool) (v p : Int) : sv s v * p = sv s (v * p) := by
 cases s
 ·
  rfl
 ·
  exact Int.neg_mul _ _
theorem Wh.shl {s l z n} (h : Wh s l z n) (k : Nat) (hn : n ≤ 1000000) (hk : k ≤ 65536) : ∃ l', Ev (fun i => natdiv_Shl.f i l (k : Int)) (l', 0) ∧ Wh s l' (z * 2 ^ k) (1025 + n) := by
 obtain ⟨e, n'⟩ := h.nm.Shl k (by omega) hk
 refine ⟨_, e, ?_⟩
 have hw := Wh.of (s := s) n'
 have hv : sv s (2 ^ k * (z.natAbs : Int)) = z * 2 ^ k := by
  rw [Int.mul_comm, ← sv_mul, ← h.val]
 rw [hv] at hw
 exact hw.mono (by omega)
theorem sv_parts {s : Bool} {w : Int} (hw : 0 < w) : sv s w ≠ 0 ∧ decide (sv s w < 0) = s ∧ ((sv s w).natAbs : Int) = w := by
 unfold sv
 cases s
 ·
  simp only [Bool.false_eq_true, if_false]
  exact ⟨by omega, decide_eq_false (by omega), by omega⟩
 ·
  simp only [if_true]
  exact ⟨by omega, decide_eq_true (by omega), by omega⟩
theorem dnorm_ev {s : Bool} {l : List Int} {e : Int} (hm : dmay l e) {X : Bool × List Int × Int × Int} (h : Ev (fun k => dyadic_told.f k s l e) X) : Ev (fun k => dyadic_Norm.f k s l e) X := by
 unfold dyadic_Norm.f
 exact Ev.bind (g := fun _ => dyadic_Check.f s l e) (Ev.congr (fun _ => check_ok hm) (Ev.now _)) (Ev.congr (fun k => if_pos rfl) (Ev.bind (g := fun _ => dyadic_signed.f s l e) (a := (s, l)) (Ev.now _) (Ev.bind h (Ev.now _))))
theorem dnorm_no {s : Bool} {l : List Int} {e : Int} (hm : ¬ dmay l e) : Ev (fun k => dyadic_Norm.f k s l e) (false, [], 0, 9) := by
 unfold dyadic_Norm.f
 exact Ev.bind (g := fun _ => dyadic_Check.f s l e) (Ev.congr (fun _ => check_no hm) (Ev.now _)) (Ev.congr (fun k => if_neg (by decide)) (Ev.now _))
end Go.Proofs.YtjgdpjbkmcjbcaaDoor.PG
end
