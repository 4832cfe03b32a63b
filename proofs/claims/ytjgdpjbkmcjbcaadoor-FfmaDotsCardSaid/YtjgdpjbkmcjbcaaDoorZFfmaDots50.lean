/- Parts of a proof. -/
import Derived.Lib.TrailingZeros
import Derived.Test.YtjgdpjbkmcjbcaaDoorZFfmaDots49
section
namespace Go.Proofs.YtjgdpjbkmcjbcaaDoor.PG
open Go.RowKit Go.Proofs.YtjgdpjbkmcjbcaaDoorW.PrintWords Go.Proofs.YtjgdpjbkmcjbcaaDoorW.PrintLast Go.Proofs.YtjgdpjbkmcjbcaaDoor.Num
set_option linter.unusedVariables false
set_option linter.unusedSimpArgs false
def wz (z : Int) : Bool × List Int := (decide (z < 0), dg 18446744073709551616 (z.natAbs : Int))
structure Wh (s : Bool) (a : List Int) (z : Int) (n : Nat) : Prop where
 nm : Nm a (z.natAbs : Int) n
 val : z = sv s (z.natAbs : Int)
theorem Wh.of {s a v n} (h : Nm a v n) : Wh s a (sv s v) n := by
 have h0 := h.nonneg
 have e : (((sv s v).natAbs : Nat) : Int) = v := by unfold sv; split <;> omega
 exact ⟨by rw [e]; exact h, by rw [e]⟩
theorem Wh.made {z : Int} {n : Nat} (h : (z.natAbs : Int) < 18446744073709551616 ^ n) : Wh (wz z).1 (wz z).2 z n := by
 refine ⟨Nm.dg (by omega) h, ?_⟩
 unfold sv wz
 simp only [decide_eq_true_eq]
 split <;> omega
theorem Wh.lt {s a z n} (h : Wh s a z n) : (z.natAbs : Int) < 18446744073709551616 ^ n := h.nm.lt
theorem Wh.mono {s a z n m} (h : Wh s a z n) (hm : n ≤ m) : Wh s a z m := ⟨h.nm.mono hm, h.val⟩
theorem wmade_ev {s : Bool} {l : List Int} {v : Int} {n : Nat} (h : Nm l v n) (hn : n ≤ 17592186044416) : Ev (fun k => whole_made.f k s l) (wz (sv s v)) := by
 have h0 := h.nonneg
 unfold whole_made.f
 refine Ev.bind (h.norm hn).1 ?_
 have e : (((sv s v).natAbs : Nat) : Int) = v := by unfold sv; split <;> omega
 have hz := dg_nil (B := 18446744073709551616) one_lt_B h0
 cases s
 ·
  have : wz (sv false v) = (false, dg 18446744073709551616 v) := by
   unfold wz
   rw [e]
   congr 1
   exact decide_eq_false (by simp [sv]; omega)
  rw [this]
  exact Ev.congr (fun k => if_neg (by decide)) (Ev.now _)
 ·
  have : wz (sv true v) = (decide (((dg 18446744073709551616 v).length : Int) > 0), dg 18446744073709551616 v) := by
   unfold wz
   rw [e]
   congr 1
   refine decide_eq_decide.2 ?_
   have : sv true v = -v := rfl
   rw [this]
   constructor
   ·
    intro h1
    have : dg 18446744073709551616 v ≠ [] := fun h2 => by have := hz.1 h2; omega
    have := List.length_pos_iff.2 this
    omega
   ·
    intro h1
    have : v ≠ 0 := fun h2 => by have h3 := hz.2 h2; rw [h3] at h1; simp at h1
    omega
  rw [this]
  exact Ev.congr (fun k => if_pos rfl) (Ev.now _)
theorem Wh.add {s a x n t b y m} (p : Nat) (h : Wh s a x n) (g : Wh t b y m) (hn : n ≤ p) (hm : m ≤ p) (hp : p < 17592186044416) : Ev (fun k => whole_Add.f k s a t b) (wz (x + y)) ∧ Wh (wz (x + y)).1 (wz (x + y)).2 (x + y) (p + 1) := by
 have l1 := (h.mono hn).lt
 have l2 := (g.mono hm).lt
 refine ⟨?_, Wh.made (by rw [Int.pow_succ]; omega)⟩
 have hx := h.val
 have hy := g.val
 unfold whole_Add.f
 by_cases e : s = t
 ·
  subst e
  refine Ev.congr (fun k => if_pos (by simp)) ?_
  obtain ⟨e1, n1⟩ := h.nm.add p g.nm hn hm (by omega)
  have ez : sv s ((x.natAbs : Int) + (y.natAbs : Int)) = x + y := by
   clear e1 n1 l1 l2
   revert hx hy
   unfold sv
   cases s <;> intro hx hy <;> simp only [Bool.false_eq_true, ↓reduceIte] at hx hy ⊢ <;> omega
  have e2 := wmade_ev (s := s) n1 (by omega)
  rw [ez] at e2
  exact Ev.bind e1 (Ev.bind e2 (Ev.now _))
 ·
  refine Ev.congr (fun k => if_neg (by simpa using e)) ?_
  obtain ⟨e1, n1⟩ := h.nm.sub p g.nm hn hm (by omega)
  refine Ev.bind (h.nm.cmp g.nm (by omega) (by omega)) ?_
  have key : ∀ (c : Bool) (fs : Bool), sv fs ((((x.natAbs : Int) - (y.natAbs : Int)).natAbs : Nat) : Int) = x + y → Ev (fun k => whole_made.f k fs (dg 18446744073709551616 (((x.natAbs : Int) - (y.natAbs : Int)).natAbs : Int))) (wz (x + y)) := by
   intro c fs hf
   have e2 := wmade_ev (s := fs) n1 (by omega)
   rwa [hf] at e2
  by_cases hlt : (x.natAbs : Int) < (y.natAbs : Int)
  ·
   have ec : decide (sgn ((x.natAbs : Int) - (y.natAbs : Int)) < 0) = true := decide_eq_true (sgn_neg_iff.2 (by omega))
   rw [ec]
   refine Ev.bind (a := (t, b)) (by unfold api_Whole.f; exact Ev.congr (fun k => if_pos rfl) (Ev.now _)) ?_
   refine Ev.bind e1 (Ev.bind (key true t ?_) (Ev.now _))
   clear key e1 n1 l1 l2 ec
   revert hx hy e
   unfold sv
   cases s <;> cases t <;> intro hx hy e <;> first | exact absurd rfl e | (simp only [Bool.false_eq_true, ↓reduceIte] at hx hy ⊢; omega)
  ·
   have ec : decide (sgn ((x.natAbs : Int) - (y.natAbs : Int)) < 0) = false := decide_eq_false (fun h' => hlt (by have := sgn_neg_iff.1 h'; omega))
   rw [ec]
   refine Ev.bind (a := (s, a)) (by unfold api_Whole.f; exact Ev.congr (fun k => if_neg (by decide)) (Ev.now _)) ?_
   refine Ev.bind e1 (Ev.bind (key true s ?_) (Ev.now _))
   clear key e1 n1 l1 l2 ec
   revert hx hy e
   unfold sv
   cases s <;> cases t <;> intro hx hy e <;> first | exact absurd rfl e | (simp only [Bool.false_eq_true, ↓reduceIte] at hx hy ⊢; omega)
theorem Wh.neg {s a x n} (h : Wh s a x n) (hn : n ≤ 17592186044416) : Ev (fun k => whole_Neg.f k s a) (wz (-x)) ∧ Wh (wz (-x)).1 (wz (-x)).2 (-x) n := by
 refine ⟨?_, Wh.made (by have := h.lt; rwa [Int.natAbs_neg])⟩
 unfold whole_Neg.f
 have e := wmade_ev (s := !s) h.nm hn
 have ez : sv (!s) (x.natAbs : Int) = -x := by
  have hx := h.val
  revert hx
  unfold sv
  cases s <;> simp <;> omega
 rw [ez] at e
 exact Ev.bind e (Ev.now _)
theorem Wh.mul {s a x n t b y m} (h : Wh s a x n) (g : Wh t b y m) (hp : n + m ≤ 17592186044416) : Ev (fun k => whole_Mul.f k s a t b) (wz (x * y)) ∧ Wh (wz (x * y)).1 (wz (x * y)).2 (x * y) (n + m) := by
 obtain ⟨e1, n1⟩ := h.nm.mul g.nm (by omega)
 have ea : (((x * y).natAbs : Nat) : Int) = (x.natAbs : Int) * (y.natAbs : Int) := by rw [Int.natAbs_mul]; simp
 refine ⟨?_, Wh.made (by rw [ea]; exact n1.lt)⟩
 unfold whole_Mul.f
 have e2 := wmade_ev (s := s != t) n1 hp
 have ez : sv (s != t) ((x.natAbs : Int) * (y.natAbs : Int)) = x * y := by
  have hx := h.val
  have hy := g.val
  generalize (x.natAbs : Int) = v at hx
  generalize (y.natAbs : Int) = w at hy
  subst hx
  subst hy
  unfold sv
  cases s <;> cases t <;> simp [Int.mul_neg, Int.neg_mul]
 rw [ez] at e2
 exact Ev.bind e1 (Ev.bind e2 (Ev.now _))
theorem Wh.sign {s a x n} (h : Wh s a x n) (hn : n ≤ 35184372088832) : Ev (fun k => whole_Sign.f k s a) (sgn x) := by
 unfold whole_Sign.f
 refine Ev.bind (h.nm.bits hn) ?_
 have hb := bitsOf_zero_iff (v := (x.natAbs : Int)) (by omega)
 have hx := h.val
 by_cases h0 : x = 0
 ·
  refine Ev.congr (fun k => if_pos (hb.2 (by omega))) ?_
  subst h0
  exact Ev.now _
 ·
  refine Ev.congr (fun k => if_neg (fun h' => by have := hb.1 h'; omega)) ?_
  cases s
  ·
   refine Ev.congr (fun k => if_neg (by decide)) ?_
   have : sgn x = 1 := by unfold sgn; unfold sv at hx; rw [if_neg (by decide)] at hx; rw [if_neg (by omega), if_neg h0]
   rw [this]
   exact Ev.now _
  ·
   refine Ev.congr (fun k => if_pos rfl) ?_
   have : sgn x = -1 := by unfold sgn; unfold sv at hx; rw [if_pos rfl] at hx; rw [if_pos (by omega)]
   rw [this]
   exact Ev.now _
end Go.Proofs.YtjgdpjbkmcjbcaaDoor.PG
end
section
namespace Go.Proofs.YtjgdpjbkmcjbcaaDoor.PG
open Go.RowKit Go.Proofs.YtjgdpjbkmcjbcaaDoorW.PrintWords Go.Proofs.YtjgdpjbkmcjbcaaDoorW.PrintLast Go.Proofs.YtjgdpjbkmcjbcaaDoorW.PrintMore Go.Proofs.YtjgdpjbkmcjbcaaDoor.Num
set_option linter.unusedVariables false
set_option linter.unusedSimpArgs false
def Odd2 (v : Int) (t : Nat) (m : Int) : Prop := v = 2 ^ t * (2 * m + 1)
theorem Odd2.uniq {v : Int} {t s : Nat} {m n : Int} (h : Odd2 v t m) (g : Odd2 v s n) : t = s ∧ m = n := by
 unfold Odd2 at h g
 have key : ∀ (a b : Nat) (x y : Int), a ≤ b → (2 : Int) ^ a * (2 * x + 1) = 2 ^ b * (2 * y + 1) → a = b ∧ x = y := by
  intro a b x y hab e
  obtain ⟨d, rfl⟩ : ∃ d, b = a + d := ⟨b - a, by omega⟩
  have hp := two_pow_pos a
  rw [Int.pow_add, Int.mul_assoc] at e
  have e2 := Int.eq_of_mul_eq_mul_left (by omega) e
  cases d with
  | zero =>
   rw [Int.pow_zero, Int.one_mul] at e2
   exact ⟨rfl, by omega⟩
  | succ d =>
   exfalso
   rw [Int.pow_succ] at e2
   generalize (2 : Int) ^ d = P at e2
   have : P * 2 * (2 * y + 1) = 2 * (P * (2 * y + 1)) := by grind
   omega
 rcases Nat.le_total t s with hts | hts
 ·
  exact key t s m n hts (by rw [← h, ← g])
 ·
  have := key s t n m hts (by rw [← h, ← g])
  exact ⟨this.1.symm, this.2.symm⟩
theorem tz_some {x : Int} (h0 : 0 < x) (h1 : x < 18446744073709551616) : ∃ (c : Nat) (m : Int), bits_TrailingZeros64.f x = some (c : Int) ∧ c < 64 ∧ 0 ≤ m ∧ Odd2 x c m := by
 obtain ⟨n, rfl⟩ := Int.eq_ofNat_of_zero_le (Int.le_of_lt h0)
 obtain ⟨m, hm, hc⟩ := Lib.ctzFrom_spec 64 n (by omega) (by omega)
 refine ⟨Lib.ctzFrom 64 n, m, ?_, hc, by omega, ?_⟩
 ·
  unfold bits_TrailingZeros64.f
  rw [if_pos ⟨by omega, by omega⟩, Int.toNat_natCast]
  unfold Lib.ctz
  rw [if_neg (by omega)]
 ·
  unfold Odd2
  have : ((n : Nat) : Int) = ((2 ^ Lib.ctzFrom 64 n * (2 * m + 1) : Nat) : Int) := congrArg _ hm
  rw [this]
  push_cast
  rfl
theorem low_zeros {l : List Int} {i : Nat} (hi : i ≤ l.length) (h : ∀ j, j < i → l.getD j 0 = 0) : V 18446744073709551616 l = 18446744073709551616 ^ i * V 18446744073709551616 (l.drop i) := by
 have a := V_split 18446744073709551616 l hi
 have b : V 18446744073709551616 (l.take i) = 0 := V_zeros 18446744073709551616 _ (fun j => by
  rw [getD_take]
  split
  ·
   exact h j (by omega)
  ·
   rfl)
 rw [a, b]
 omega
theorem odd_high {x Y : Int} {c : Nat} {m : Int} (hc : c < 64) (h : Odd2 x c m) (i : Nat) : Odd2 (18446744073709551616 ^ i * (x + 18446744073709551616 * Y)) (64 * i + c) (m + 2 ^ (63 - c) * Y) := by
 unfold Odd2 at h ⊢
 have e1 : (18446744073709551616 : Int) = 2 ^ 64 := by decide
 have e2 : (18446744073709551616 : Int) ^ i = 2 ^ (64 * i) := by rw [e1, ← Int.pow_mul]
 have e3 : (18446744073709551616 : Int) = 2 ^ c * (2 ^ (63 - c) * 2) := by
  rw [← Int.mul_assoc, ← Int.pow_add, ← Int.pow_succ, show (c + (63 - c)).succ = 64 by omega]
  rfl
 have e4 : 18446744073709551616 * Y = 2 ^ c * (2 ^ (63 - c) * 2) * Y := by rw [← e3]
 rw [e2, e4, h, Int.pow_add]
 grind
theorem zeros_loop (l : List Int) (hd : Dig 18446744073709551616 l) (hl : l.length ≤ 17592186044416) : ∀ (d i : Nat), l.length = i + d → (∀ j, j < i → l.getD j 0 = 0) →
  ∃ n : Nat, Ev (fun k => natdiv_Zeros.l0 k l (l.length : Int) (i : Int)) (n : Int) ∧ ((V 18446744073709551616 l = 0 ∧ n = 0) ∨ ∃ m, 0 ≤ m ∧ Odd2 (V 18446744073709551616 l) n m ∧ n < 64 * l.length)
 | 0, i, hi, hz => by
  refine ⟨0, Ev.step (f := fun _ => some 0) (fun k => ?_) (Ev.now _), .inl ⟨?_, rfl⟩⟩
  ·
   rw [natdiv_Zeros.l0, if_neg (by omega)]
  ·
   rw [low_zeros (i := i) (by omega) hz, V_drop_all _ _ (by omega)]
   omega
 | d + 1, i, hi, hz => by
  have hx := hd.getD B_pos i
  by_cases h0 : l.getD i 0 = 0
  ·
   obtain ⟨n, e, h⟩ := zeros_loop l hd hl d (i + 1) (by omega) (fun j hj => by
    by_cases e : j = i
    ·
     rw [e]; exact h0
    ·
     exact hz j (by omega))
   refine ⟨n, Ev.step (f := fun k => natdiv_Zeros.l0 k l (l.length : Int) ((i + 1 : Nat) : Int)) (fun k => ?_) e, h⟩
   rw [natdiv_Zeros.l0, rd_nat, if_pos (by omega), if_pos (by omega), if_pos (by omega), if_pos h0, w64 (by omega) (by omega)]
   rfl
  ·
   obtain ⟨c, m, hf, hc, hm, ho⟩ := tz_some (x := l.getD i 0) (by omega) hx.2
   have hv := low_zeros (l := l) (i := i) (by omega) hz
   rw [V_drop_succ 18446744073709551616 l i (by omega)] at hv
   have hodd := odd_high (Y := V 18446744073709551616 (l.drop (i + 1))) hc ho i
   rw [← hv] at hodd
   have hY := V_nonneg B_pos (hd.drop (i + 1))
   refine ⟨64 * i + c, Ev.step (f := fun _ => some ((64 * i + c : Nat) : Int)) (fun k => ?_) (Ev.now _), .inr ⟨_, ?_, hodd, by omega⟩⟩
   ·
    rw [natdiv_Zeros.l0, rd_nat, if_pos (by omega), if_pos (by omega), if_pos (by omega), if_neg h0, hf]
    simp only [Option.bind_some]
    rw [w64 (x := 64 * (i : Int)) (by omega) (by omega), w64 (by omega) (by omega)]
    congr 1
   ·
    have := Int.mul_nonneg (Int.le_of_lt (two_pow_pos (63 - c))) hY
    omega
theorem Nm.zeros {a v n} (h : Nm a v n) (hn : n ≤ 17592186044416) : ∃ t : Nat, Ev (fun k => natdiv_Zeros.f k a) (t : Int) ∧ ((v = 0 ∧ t = 0) ∨ ∃ m, 0 ≤ m ∧ Odd2 v t m ∧ t < 64 * n) := by
 have hl := h.len
 obtain ⟨t, e, ht⟩ := zeros_loop a h.dig (by omega) a.length 0 (by omega) (fun j hj => by omega)
 rw [h.val] at ht
 refine ⟨t, Ev.congr (fun k => rfl) e, ht.imp id ?_⟩
 rintro ⟨m, h0, h1, h2⟩
 exact ⟨m, h0, h1, by omega⟩
end Go.Proofs.YtjgdpjbkmcjbcaaDoor.PG
end
section
namespace Go.Proofs.YtjgdpjbkmcjbcaaDoor.PG
open Go.RowKit Go.Proofs.YtjgdpjbkmcjbcaaDoorW.PrintWords Go.Proofs.YtjgdpjbkmcjbcaaDoorW.PrintLast Go.Proofs.YtjgdpjbkmcjbcaaDoorW.PrintMore Go.Proofs.YtjgdpjbkmcjbcaaDoor.Num
set_option linter.unusedVariables false
set_option linter.unusedSimpArgs false
def dmay (l : List Int) (e : Int) : Prop := -16384 ≤ e ∧ e ≤ 16384 ∧ l.length ≤ 1024
instance (l : List Int) (e : Int) : Decidable (dmay l e) := by unfold dmay; exact inferInstance
theorem check_ok {s : Bool} {l : List Int} {e : Int} (h : dmay l e) : dyadic_Check.f s l e = some 0 := by
 obtain ⟨h0, h1, h2⟩ := h
 unfold dyadic_Check.f
 rw [if_neg (by omega), if_neg (by omega), if_neg (by omega)]
theorem check_no {s : Bool} {l : List Int} {e : Int} (h : ¬ dmay l e) : dyadic_Check.f s l e = some 9 := by
 unfold dmay at h
 unfold dyadic_Check.f
 by_cases h0 : e < -16384
 ·
  rw [if_pos h0]
 ·
  rw [if_neg h0]
  by_cases h1 : e > 16384
  ·
   rw [if_pos h1]
  ·
   rw [if_neg h1, if_pos (by omega)]
def dtold (s : Bool) (l : List Int) (e : Int) : Bool × List Int × Int × Int := if dmay l e then (s, l, e, 0) else (false, [], 0, 4)
theorem dtold_loop {v : Int} {n : Nat} (hn : n ≤ 10000000) (x1 x6 : Int) (s : Bool) (og : List Int) : ∀ (f left : Nat) (a : List Int) (d : Nat), left ≤ f → left < 1000000000 → Nm a (v / 2 ^ d) n →
  Ev (fun k => dyadic_told.l0 k x1 x6 a (left : Int) s og) (dtold s (dg 18446744073709551616 (v / 2 ^ (d + left))) (wrap64 (x1 + x6)))
 | f, 0, a, d, hf, hl, ha => by
  obtain ⟨e1, n1⟩ := ha.norm (by omega)
  refine Ev.step (f := _) (fun k => by rw [dyadic_told.l0, if_neg (by omega)]) (Ev.bind e1 ?_)
  rw [Nat.add_zero]
  unfold dtold
  by_cases hm : dmay (dg 18446744073709551616 (v / 2 ^ d)) (wrap64 (x1 + x6))
  ·
   rw [if_pos hm]
   exact Ev.bind (g := fun _ => dyadic_Check.f s (dg 18446744073709551616 (v / 2 ^ d)) (wrap64 (x1 + x6))) (Ev.congr (fun _ => check_ok hm) (Ev.now _)) (Ev.congr (fun k => if_pos rfl) (Ev.now _))
  ·
   rw [if_neg hm]
   exact Ev.bind (g := fun _ => dyadic_Check.f s (dg 18446744073709551616 (v / 2 ^ d)) (wrap64 (x1 + x6))) (Ev.congr (fun _ => check_no hm) (Ev.now _)) (Ev.congr (fun k => if_neg (by decide)) (Ev.now _))
 | 0, left + 1, a, d, hf, hl, ha => by omega
 | f + 1, left + 1, a, d, hf, hl, ha => by
  obtain ⟨c, hc, hc1, hc2⟩ : ∃ c : Nat, mn ((left + 1 : Nat) : Int) 65536 = (c : Int) ∧ 0 < c ∧ c ≤ 65536 := ⟨(mn ((left + 1 : Nat) : Int) 65536).toNat, by unfold mn; split <;> omega⟩
  have hcl : c ≤ left + 1 := by unfold mn at hc; split at hc <;> omega
  obtain ⟨e1, n1⟩ := ha.Shr c (by omega) hc2
  have ed : v / 2 ^ d / 2 ^ c = v / 2 ^ (d + c) := by rw [ediv_two (two_pow_pos d), ← Int.pow_add]
  rw [ed] at e1 n1
  by_cases hlast : left + 1 ≤ 65536
  ·
   have hcc : c = left + 1 := by unfold mn at hc; split at hc <;> omega
   have hrec := dtold_loop hn x1 x6 s og f 0 _ (d + c) (by omega) (by omega) n1
   rw [Nat.add_zero, hcc] at hrec
   have hneg : Ev (fun k => dyadic_told.l0 k x1 x6 (dg 18446744073709551616 (v / 2 ^ (d + (left + 1)))) (wrap64 (((left + 1 : Nat) : Int) - 65536)) s og) (dtold s (dg 18446744073709551616 (v / 2 ^ (d + (left + 1)))) (wrap64 (x1 + x6))) := by
    rw [hcc] at n1
    obtain ⟨e2, n2⟩ := n1.norm (by omega)
    refine Ev.step (f := _) (fun k => by rw [dyadic_told.l0, if_neg (by rw [w64 (by omega) (by omega)]; omega)]) (Ev.bind e2 ?_)
    unfold dtold
    by_cases hm : dmay (dg 18446744073709551616 (v / 2 ^ (d + (left + 1)))) (wrap64 (x1 + x6))
    ·
     rw [if_pos hm]
     exact Ev.bind (g := fun _ => dyadic_Check.f s (dg 18446744073709551616 (v / 2 ^ (d + (left + 1)))) (wrap64 (x1 + x6))) (Ev.congr (fun _ => check_ok hm) (Ev.now _)) (Ev.congr (fun k => if_pos rfl) (Ev.now _))
    ·
     rw [if_neg hm]
     exact Ev.bind (g := fun _ => dyadic_Check.f s (dg 18446744073709551616 (v / 2 ^ (d + (left + 1)))) (wrap64 (x1 + x6))) (Ev.congr (fun _ => check_no hm) (Ev.now _)) (Ev.congr (fun k => if_neg (by decide)) (Ev.now _))
   refine Ev.step (f := _) (fun k => by rw [dyadic_told.l0, if_pos (by omega), hc]) (Ev.bind e1 ?_)
   rw [hcc]
   exact hneg
  ·
   have hcc : c = 65536 := by unfold mn at hc; split at hc <;> omega
   obtain ⟨r, hr⟩ : ∃ r, left + 1 = r + 65536 := ⟨left + 1 - 65536, by omega⟩
   have hrec := dtold_loop hn x1 x6 s og f r _ (d + c) (by omega) (by omega) n1
   rw [show d + c + r = d + (left + 1) by omega] at hrec
   refine Ev.step (f := _) (fun k => by rw [dyadic_told.l0, if_pos (by omega), hc]) (Ev.bind e1 ?_)
   rw [w64 (x := ((left + 1 : Nat) : Int) - 65536) (by omega) (by omega), show ((left + 1 : Nat) : Int) - 65536 = (r : Int) by omega]
   exact hrec
theorem dtold0_ev {s : Bool} {l : List Int} {n : Nat} (h : Nm l 0 n) (hn : n ≤ 10000000) (exp : Int) : Ev (fun k => dyadic_told.f k s l exp) (false, [], 0, 0) := by
 have hw : Wh s l (sv s 0) n := Wh.of h
 have e := hw.sign (by omega)
 have hz : sgn (sv s 0) = 0 := by cases s <;> rfl
 rw [hz] at e
 unfold dyadic_told.f
 exact Ev.bind e (Ev.congr (fun k => if_pos rfl) (Ev.now _))
theorem odd2_pos {v m : Int} {t : Nat} (h : Odd2 v t m) (hm : 0 ≤ m) : 0 < v := by
 unfold Odd2 at h
 rw [h]
 exact Int.mul_pos (two_pow_pos t) (by omega)
theorem odd2_div {v m : Int} {t : Nat} (h : Odd2 v t m) : v / 2 ^ t = 2 * m + 1 := by
 unfold Odd2 at h
 rw [h]
 exact Int.mul_ediv_cancel_left _ (by have := two_pow_pos t; omega)
theorem dtold_ev {s : Bool} {l : List Int} {v m : Int} {t n : Nat} (h : Nm l v n) (hn : n ≤ 10000000) (ho : Odd2 v t m) (hm : 0 ≤ m) (exp : Int) : Ev (fun k => dyadic_told.f k s l exp) (dtold s (dg 18446744073709551616 (2 * m + 1)) (wrap64 (exp + t))) := by
 have hv := odd2_pos ho hm
 have hw : Wh s l (sv s v) n := Wh.of h
 have e := hw.sign (by omega)
 have hz : sgn (sv s v) ≠ 0 := by
  unfold sgn sv
  split <;> split <;> (try split) <;> omega
 obtain ⟨t', e2, ht⟩ := h.zeros (by omega)
 have ht' : t' = t ∧ t' < 64 * n := by
  rcases ht with ⟨h0, _⟩ | ⟨m', _, h1, h2⟩
  ·
   omega
  ·
   exact ⟨(h1.uniq ho).1, h2⟩
 obtain ⟨rfl, hb⟩ := ht'
 have hl := dtold_loop (v := v) hn exp (t' : Int) s l t' t' l 0 (Nat.le_refl _) (by omega) (by rw [Int.pow_zero, Int.ediv_one]; exact h)
 rw [Nat.zero_add, odd2_div ho] at hl
 unfold dyadic_told.f
 exact Ev.bind e (Ev.congr (fun k => if_neg hz) (Ev.bind e2 hl))
end Go.Proofs.YtjgdpjbkmcjbcaaDoor.PG
end
section
namespace Go.Proofs.YtjgdpjbkmcjbcaaDoor.PG
open Go.RowKit Go.Proofs.YtjgdpjbkmcjbcaaDoorW.PrintWords Go.Proofs.YtjgdpjbkmcjbcaaDoorW.PrintLast Go.Proofs.YtjgdpjbkmcjbcaaDoorW.PrintMore Go.Proofs.YtjgdpjbkmcjbcaaDoor.Num Go.Proofs.YtjgdpjbkmcjbcaaDoor.Flt
set_option linter.unusedVariables false
set_option linter.unusedSimpArgs false
def t2F : Nat → Int → Nat
 | 0, _ => 0
 | f + 1, v => if v % 2 = 0 then t2F f (v / 2) + 1 else 0
def t2 (v : Int) : Nat := t2F v.toNat v
def od (v : Int) : Int := v / 2 ^ t2 v
theorem t2F_spec : ∀ (f : Nat) (v : Int), 0 < v → v.toNat ≤ f → ∃ m, 0 ≤ m ∧ Odd2 v (t2F f v) m
 | 0, v, h0, h1 => by omega
 | f + 1, v, h0, h1 => by
  unfold t2F
  by_cases h : v % 2 = 0
  ·
   rw [if_pos h]
   obtain ⟨m, hm, ho⟩ := t2F_spec f (v / 2) (by omega) (by omega)
   refine ⟨m, hm, ?_⟩
   unfold Odd2 at ho ⊢
   rw [Int.pow_succ, Int.mul_assoc, Int.mul_left_comm, ← ho]
   omega
  ·
   rw [if_neg h]
   refine ⟨v / 2, by omega, ?_⟩
   unfold Odd2
   rw [Int.pow_zero, Int.one_mul]
   omega
theorem t2_odd {v : Int} (h : 0 < v) : ∃ m, 0 ≤ m ∧ Odd2 v (t2 v) m := t2F_spec _ v h (Nat.le_refl _)
theorem t2_eq {v m : Int} {t : Nat} (hm : 0 ≤ m) (h : Odd2 v t m) : t2 v = t := by
 obtain ⟨m', _, h'⟩ := t2_odd (odd2_pos h hm)
 exact (h'.uniq h).1
theorem od_eq {v m : Int} {t : Nat} (hm : 0 ≤ m) (h : Odd2 v t m) : od v = 2 * m + 1 := by
 unfold od
 rw [t2_eq hm h]
 exact odd2_div h
theorem od_val {v : Int} (h : 0 < v) : v = od v * 2 ^ t2 v ∧ 0 < od v ∧ od v ≤ v := by
 obtain ⟨m, hm, ho⟩ := t2_odd h
 have e := od_eq hm ho
 refine ⟨?_, by omega, ?_⟩
 ·
  rw [e]
  unfold Odd2 at ho
  rw [Int.mul_comm]
  exact ho
 ·
  unfold od
  exact Int.ediv_le_self _ (by omega)
theorem abs_mul_pow (z : Int) (k : Nat) : (((z * 2 ^ k).natAbs : Nat) : Int) = (z.natAbs : Int) * 2 ^ k := by
 rw [Int.natAbs_mul, Int.natCast_mul, Int.natAbs_of_nonneg (Int.le_of_lt (two_pow_pos k))]
def oz (z : Int) : Int := sv (decide (z < 0)) (od (z.natAbs : Int))
def dt (z x : Int) : Bool × List Int × Int × Int :=
 if z = 0 then (false, [], 0, 0) else dtold (decide (z < 0)) (dg 18446744073709551616 (od (z.natAbs : Int))) (wrap64 (x + t2 (z.natAbs : Int)))
theorem told_wh {s : Bool} {l : List Int} {z : Int} {n : Nat} (h : Wh s l z n) (hn : n ≤ 10000000) (x : Int) : Ev (fun k => dyadic_told.f k s l x) (dt z x) := by
 unfold dt
 by_cases hz : z = 0
 ·
  rw [if_pos hz]
  have := h.nm
  rw [hz] at this
  exact dtold0_ev this hn x
 ·
  rw [if_neg hz]
  obtain ⟨m, hm, ho⟩ := t2_odd (v := (z.natAbs : Int)) (by omega)
  have e := dtold_ev (s := s) h.nm hn ho hm x
  have hs : decide (z < 0) = s := by
   have hv := h.val
   cases s
   ·
    simp only [sv, Bool.false_eq_true, if_false] at hv
    exact decide_eq_false (by omega)
   ·
    simp only [sv, if_true] at hv
    exact decide_eq_true (by omega)
  rw [hs, od_eq hm ho]
  exact e
theorem mul_neg_iff' {z P : Int} (hp : 0 < P) : z * P < 0 ↔ z < 0 := by
 constructor
 ·
  intro h
  by_cases c : z < 0
  ·
   exact c
  ·
   have := Int.mul_nonneg (show 0 ≤ z by omega) (Int.le_of_lt hp)
   omega
 ·
  exact fun h => Int.mul_neg_of_neg_of_pos h hp
theorem oz_abs {z : Int} (hz : z ≠ 0) : ((oz z).natAbs : Int) = od (z.natAbs : Int) ∧ decide (oz z < 0) = decide (z < 0) ∧ oz z ≠ 0 := by
 have h := od_val (v := (z.natAbs : Int)) (by omega)
 unfold oz sv
 by_cases c : z < 0
 ·
  rw [decide_eq_true c, if_pos rfl]
  exact ⟨by omega, by rw [decide_eq_true (by omega)], by omega⟩
 ·
  rw [decide_eq_false c, if_neg (by decide)]
  exact ⟨by omega, by rw [decide_eq_false (by omega)], by omega⟩
theorem oz_val {z : Int} (hz : z ≠ 0) : z = oz z * 2 ^ t2 (z.natAbs : Int) := by
 have h := od_val (v := (z.natAbs : Int)) (by omega)
 have hp := two_pow_pos (t2 (z.natAbs : Int))
 generalize (2 : Int) ^ t2 (z.natAbs : Int) = P at *
 unfold oz sv
 by_cases c : z < 0
 ·
  rw [decide_eq_true c, if_pos rfl, Int.neg_mul, ← h.1]
  omega
 ·
  rw [decide_eq_false c, if_neg (by decide), ← h.1]
  omega
theorem dt_wz {z : Int} (hz : z ≠ 0) (x : Int) : dt z x = if dmay (wz (oz z)).2 (wrap64 (x + t2 (z.natAbs : Int))) then ((wz (oz z)).1, (wz (oz z)).2, wrap64 (x + t2 (z.natAbs : Int)), 0) else (false, [], 0, 4) := by
 obtain ⟨h1, h2, _⟩ := oz_abs hz
 unfold dt dtold wz
 rw [if_neg hz, h1, h2]
theorem t2_lt {v : Int} {n : Nat} (h0 : 0 < v) (h : v < 18446744073709551616 ^ n) : t2 v < 64 * n := by
 have hv := od_val h0
 have e1 : (18446744073709551616 : Int) ^ n = 2 ^ (64 * n) := by rw [show (18446744073709551616 : Int) = 2 ^ 64 by decide, ← Int.pow_mul]
 have hle : (2 : Int) ^ t2 v ≤ v := by
  have hp := two_pow_pos (t2 v)
  have := Int.mul_le_mul_of_nonneg_right (show (1 : Int) ≤ od v by omega) (Int.le_of_lt hp)
  rw [Int.one_mul, ← hv.1] at this
  exact this
 rw [e1] at h
 exact two_pow_lt_iff.1 (Int.lt_of_le_of_lt hle h)
theorem dt_ok {z x : Int} {n : Nat} (hz : (z.natAbs : Int) < 18446744073709551616 ^ n) (hn : n ≤ 1024) (hx0 : -16384 ≤ x) (hx1 : x + 64 * n ≤ 16384) :
  ∃ (y e : Int) (t : Nat), dt z x = ((wz y).1, (wz y).2, e, 0) ∧ Wh (wz y).1 (wz y).2 y n ∧ -16384 ≤ e ∧ e ≤ 16384 ∧ (z = 0 ∧ y = 0 ∧ e = 0 ∨ y ≠ 0 ∧ z ≠ 0 ∧ z = y * 2 ^ t ∧ e = x + t ∧ t < 64 * n ∧ y = oz z) := by
 by_cases h0 : z = 0
 ·
  refine ⟨0, 0, 0, ?_, Wh.made (by rw [h0] at hz; exact hz), by omega, by omega, .inl ⟨h0, rfl, rfl⟩⟩
  rw [h0]
  rfl
 ·
  obtain ⟨h1, h2, h3⟩ := oz_abs h0
  have hv := od_val (v := (z.natAbs : Int)) (by omega)
  have ht := t2_lt (by omega) hz
  have hw := Wh.made (z := oz z) (n := n) (by rw [h1]; omega)
  have hl := hw.nm.len
  refine ⟨oz z, x + t2 (z.natAbs : Int), t2 (z.natAbs : Int), ?_, hw, by omega, by omega, .inr ⟨h3, h0, oz_val h0, rfl, ht, rfl⟩⟩
  rw [dt_wz h0, w64 (by omega) (by omega), if_pos]
  unfold dmay
  omega
def vl (z x : Int) : Int := z * up2 (x + 200000)
theorem vl_zero (x : Int) : vl 0 x = 0 := Int.zero_mul _
theorem vl_shift (z x : Int) (k : Nat) (h : -200000 ≤ x - k) : vl (z * 2 ^ k) (x - k) = vl z x := by
 unfold vl
 rw [show x + 200000 = (x - k + 200000) + (k : Int) by omega, up2_add (a := x - k + 200000) (by omega) (by omega), up2_nat]
 grind
theorem vl_up (z x : Int) (t : Nat) (h : -200000 ≤ x) : vl (z * 2 ^ t) x = vl z (x + t) := by
 have := vl_shift z (x + t) t (by omega)
 rwa [show x + (t : Int) - t = x by omega] at this
theorem vl_inj {z y x : Int} (h : vl z x = vl y x) : z = y := by
 unfold vl at h
 have := up2_pos (x + 200000)
 exact Int.eq_of_mul_eq_mul_right (by omega) h
theorem vl_add (z y x : Int) : vl (z + y) x = vl z x + vl y x := Int.add_mul _ _ _
theorem vl_level (z x m : Int) (hm : m ≤ x) (h : -200000 ≤ m) : vl (z * up2 (x - m)) m = vl z x := by
 obtain ⟨k, hk⟩ : ∃ k : Nat, x - m = k := ⟨(x - m).toNat, by omega⟩
 rw [hk, up2_nat]
 have := vl_up z m k h
 rwa [show m + (k : Int) = x by omega] at this
theorem rnd_vl {neg : Bool} {N M x w : Int} (mode : Int) (hN : 0 < N) (hM : 0 < M) (h : vl N x = vl M w) (hx : -200000 ≤ x) (hw : -200000 ≤ w) : rnd neg N x mode = rnd neg M w mode := by
 have key : ∀ (z y x w : Int), 0 < y → x ≤ w → -200000 ≤ x → vl z x = vl y w → rnd neg z x mode = rnd neg y w mode := by
  intro z y x w hy hxw hx h
  obtain ⟨k, hk⟩ : ∃ k : Nat, w - x = k := ⟨(w - x).toNat, by omega⟩
  have e := vl_shift y w k (by omega)
  rw [show w - (k : Int) = x by omega] at e
  have hz : z = y * 2 ^ k := vl_inj (h.trans e.symm)
  have := rnd_shift neg hy w k mode
  rw [hz, show x = w - k by omega]
  exact this
 rcases Int.le_total x w with c | c
 ·
  exact key N M x w hM c hx h
 ·
  exact (key M N w x hN c hw h.symm).symm
theorem rdT0 (a b : S36) : rd_T36 [a, b] 0 = a := rfl
theorem rdT1 (a b : S36) : rd_T36 [a, b] 1 = b := rfl
theorem lenT (a b : S36) : (([a, b] : List S36).length : Int) = 2 := rfl
theorem w01 : wrap64 (0 + 1) = 1 := w64 (by decide) (by decide)
theorem w12 : wrap64 (1 + 1) = 2 := w64 (by decide) (by decide)
theorem checked_ok {s1 s2 : Bool} {l1 l2 : List Int} {e1 e2 : Int} (h1 : dmay l1 e1) (h2 : dmay l2 e2) : Ev (fun k => dyadic_checked.f k [(⟨s1, l1, e1⟩ : S36), (⟨s2, l2, e2⟩ : S36)]) 0 := by
 unfold dyadic_checked.f
 rw [lenT]
 refine Ev.step (f := fun k => dyadic_checked.l0 k [(⟨s1, l1, e1⟩ : S36), (⟨s2, l2, e2⟩ : S36)] 2 1) (fun k => ?_) (Ev.step (f := fun k => dyadic_checked.l0 k [(⟨s1, l1, e1⟩ : S36), (⟨s2, l2, e2⟩ : S36)] 2 2) (fun k => ?_) (Ev.step (f := fun _ => some 0) (fun k => ?_) (Ev.now _)))
 ·
  rw [dyadic_checked.l0, lenT, if_pos (by decide), if_pos (by decide), if_pos (by decide), rdT0, check_ok h1, Option.bind_some, if_pos rfl, w01]
 ·
  rw [dyadic_checked.l0, lenT, if_pos (by decide), if_pos (by decide), if_pos (by decide), rdT1, check_ok h2, Option.bind_some, if_pos rfl, w12]
 ·
  rw [dyadic_checked.l0, if_neg (by decide)]
theorem mn_le' (a b : Int) : mn a b ≤ a ∧ mn a b ≤ b ∧ (mn a b = a ∨ mn a b = b) := by unfold mn; split <;> omega
theorem Wh.may {s l z e} (h : Wh s l z 1024) (h0 : -16384 ≤ e) (h1 : e ≤ 16384) : dmay l e := ⟨h0, h1, h.nm.len⟩
theorem sv_mul (s : Bool) (v p : Int) : sv s v * p = sv s (v * p) := by
 cases s
 ·
  rfl
 ·
  exact Int.neg_mul _ _
theorem Wh.shl {s l z n} (h : Wh s l z n) (k : Nat) (hn : n ≤ 1000000) (hk : k ≤ 65536) : ∃ l', Ev (fun i => natdiv_Shl.f i l (k : Int)) (l', 0) ∧ Wh s l' (z * 2 ^ k) (1025 + n) := by
 obtain ⟨e, n'⟩ := h.nm.Shl k (by omega) hk
 refine ⟨_, e, ?_⟩
 have hw := Wh.of (s := s) n'
 have hv : sv s (2 ^ k * (z.natAbs : Int)) = z * 2 ^ k := by
  rw [Int.mul_comm, ← sv_mul, ← h.val]
 rw [hv] at hw
 exact hw.mono (by omega)
theorem level_ev {s1 s2 : Bool} {l1 l2 : List Int} {z1 z2 e1 e2 : Int} (h1 : Wh s1 l1 z1 1024) (h2 : Wh s2 l2 z2 1024) (a0 : -16384 ≤ e1) (a1 : e1 ≤ 16384) (b0 : -16384 ≤ e2) (b1 : e2 ≤ 16384) :
  ∃ m1 m2, Ev (fun k => dyadic_level.f k s1 l1 e1 s2 l2 e2) (s1, m1, s2, m2, mn e1 e2) ∧ Wh s1 m1 (z1 * up2 (e1 - mn e1 e2)) 2049 ∧ Wh s2 m2 (z2 * up2 (e2 - mn e1 e2)) 2049 := by
 have hm := mn_le' e1 e2
 obtain ⟨j1, hj1⟩ : ∃ k : Nat, e1 - mn e1 e2 = k := ⟨(e1 - mn e1 e2).toNat, by omega⟩
 obtain ⟨j2, hj2⟩ : ∃ k : Nat, e2 - mn e1 e2 = k := ⟨(e2 - mn e1 e2).toNat, by omega⟩
 obtain ⟨m1, x1, w1⟩ := h1.shl j1 (by omega) (by omega)
 obtain ⟨m2, x2, w2⟩ := h2.shl j2 (by omega) (by omega)
 refine ⟨m1, m2, ?_, by rw [hj1, up2_nat]; exact w1, by rw [hj2, up2_nat]; exact w2⟩
 unfold dyadic_level.f
 rw [w64 (x := e1 - mn e1 e2) (by omega) (by omega), w64 (x := e2 - mn e1 e2) (by omega) (by omega), hj1, hj2]
 exact Ev.bind (g := fun _ => dyadic_signed.f s1 l1 e1) (a := (s1, l1)) (Ev.now _) (Ev.bind (g := fun _ => dyadic_signed.f s2 l2 e2) (a := (s2, l2)) (Ev.now _) (Ev.bind x1 (Ev.bind x2 (Ev.now _))))
theorem dadd_ev {s1 s2 : Bool} {l1 l2 : List Int} {z1 z2 e1 e2 : Int} (h1 : Wh s1 l1 z1 1024) (h2 : Wh s2 l2 z2 1024) (a0 : -16384 ≤ e1) (a1 : e1 ≤ 16384) (b0 : -16384 ≤ e2) (b1 : e2 ≤ 16384) :
  Ev (fun k => dyadic_Add.f k s1 l1 e1 s2 l2 e2) (dt (z1 * up2 (e1 - mn e1 e2) + z2 * up2 (e2 - mn e1 e2)) (mn e1 e2)) := by
 obtain ⟨m1, m2, x, w1, w2⟩ := level_ev h1 h2 a0 a1 b0 b1
 obtain ⟨x2, w3⟩ := w1.add 2049 w2 (by omega) (by omega) (by omega)
 unfold dyadic_Add.f
 exact Ev.bind (checked_ok (h1.may a0 a1) (h2.may b0 b1)) (Ev.congr (fun k => if_pos rfl) (Ev.bind x (Ev.bind x2 (Ev.bind (told_wh w3 (by omega) _) (Ev.now _)))))
theorem dmul_ev {s1 s2 : Bool} {l1 l2 : List Int} {z1 z2 e1 e2 : Int} (h1 : Wh s1 l1 z1 1024) (h2 : Wh s2 l2 z2 1024) (a0 : -16384 ≤ e1) (a1 : e1 ≤ 16384) (b0 : -16384 ≤ e2) (b1 : e2 ≤ 16384) :
  Ev (fun k => dyadic_Mul.f k s1 l1 e1 s2 l2 e2) (dt (z1 * z2) (e1 + e2)) := by
 obtain ⟨x2, w3⟩ := h1.mul h2 (by omega)
 have ht := told_wh w3 (by omega) (e1 + e2)
 unfold dyadic_Mul.f
 rw [w64 (x := e1 + e2) (by omega) (by omega)]
 refine Ev.bind (checked_ok (h1.may a0 a1) (h2.may b0 b1)) (Ev.congr (fun k => if_pos rfl) ?_)
 exact Ev.bind (g := fun _ => dyadic_signed.f s1 l1 e1) (a := (s1, l1)) (Ev.now _) (Ev.bind (g := fun _ => dyadic_signed.f s2 l2 e2) (a := (s2, l2)) (Ev.now _) (Ev.bind x2 (Ev.bind ht (Ev.now _))))
theorem vl_sum (z1 z2 e1 e2 : Int) (a0 : -16384 ≤ e1) (b0 : -16384 ≤ e2) : vl (z1 * up2 (e1 - mn e1 e2) + z2 * up2 (e2 - mn e1 e2)) (mn e1 e2) = vl z1 e1 + vl z2 e2 := by
 have hm := mn_le' e1 e2
 rw [vl_add, vl_level _ _ _ hm.1 (by omega), vl_level _ _ _ hm.2.1 (by omega)]
theorem dt_any_vl {z x y e : Int} {t n : Nat} (hx : -200000 ≤ x) (h : z = 0 ∧ y = 0 ∧ e = 0 ∨ y ≠ 0 ∧ z ≠ 0 ∧ z = y * 2 ^ t ∧ e = x + t ∧ t < 64 * n ∧ y = oz z) : vl y e = vl z x := by
 rcases h with ⟨rfl, rfl, rfl⟩ | ⟨_, _, h1, h2, _⟩
 ·
  rw [vl_zero, vl_zero]
 ·
  rw [h1, h2, vl_up _ _ _ hx]
theorem vl_abs (z x : Int) : vl (z.natAbs : Int) x = ((vl z x).natAbs : Int) := by
 unfold vl
 rw [Int.natAbs_mul, Int.natCast_mul, Int.natAbs_of_nonneg (Int.le_of_lt (up2_pos _))]
theorem vl_neg (z x : Int) : vl z x < 0 ↔ z < 0 := mul_neg_iff' (up2_pos _)
theorem vl_zero_iff (z x : Int) : vl z x = 0 ↔ z = 0 := by
 have h := vl_neg z x
 have g := vl_neg (-z) x
 have e : vl (-z) x = -vl z x := Int.neg_mul _ _
 omega
end Go.Proofs.YtjgdpjbkmcjbcaaDoor.PG
end
section
namespace Go.Proofs.YtjgdpjbkmcjbcaaDoor.PG
open Go.RowKit Go.Proofs.YtjgdpjbkmcjbcaaDoorW.PrintWords Go.Proofs.YtjgdpjbkmcjbcaaDoorW.PrintLast Go.Proofs.YtjgdpjbkmcjbcaaDoorW.PrintMore Go.Proofs.YtjgdpjbkmcjbcaaDoor.Num Go.Proofs.YtjgdpjbkmcjbcaaDoor.Flt
set_option linter.unusedVariables false
set_option linter.unusedSimpArgs false
theorem low2 {l : List Int} {v : Int} {n : Nat} (h : Nm l v n) (hv : v < 18446744073709551616 * 18446744073709551616) : 0 ≤ rd l 1 ∧ rd l 1 < 18446744073709551616 ∧ 0 ≤ rd l 0 ∧ rd l 0 < 18446744073709551616 ∧ rd l 1 * 18446744073709551616 + rd l 0 = v := by
 have e0 : rd l 0 = l.getD 0 0 := rd_nat l 0
 have e1 : rd l 1 = l.getD 1 0 := rd_nat l 1
 rw [e0, e1]
 have d0 := h.dig.getD B_pos 0
 have d1 := h.dig.getD B_pos 1
 refine ⟨d1.1, d1.2, d0.1, d0.2, ?_⟩
 have hval := h.val
 match l, h, hval, d0, d1 with
 | [], h, hval, d0, d1 =>
  rw [← hval]
  rfl
 | [x], h, hval, d0, d1 =>
  simp only [V_cons, V_nil] at hval
  simp
  omega
 | x :: y :: r, h, hval, d0, d1 =>
  have hr := V_nonneg B_pos h.dig.tail.tail
  simp only [V_cons] at hval
  simp only [List.getD_cons_zero, List.getD_cons_succ] at d0 d1 ⊢
  generalize V 18446744073709551616 r = R at *
  have : R = 0 := by
   by_cases c : R = 0
   ·
    exact c
   ·
    exfalso
    omega
  subst this
  omega
theorem some_ev {l : List Int} {v : Int} {n : Nat} (h : Nm l v n) (hn : n ≤ 1000000) (N : Nat) (hN : N ≤ 65536) : Ev (fun k => parts_some.f k l (N : Int)) (decide (v % 2 ^ N ≠ 0)) := by
 obtain ⟨x1, y1⟩ := h.Shr N (by omega) hN
 obtain ⟨x2, y2⟩ := y1.Shl N (by omega) hN
 have x3 := h.cmp y2 (by omega) (by omega)
 have hd := Int.emod_add_mul_ediv v (2 ^ N)
 have e : (sgn (v - 2 ^ N * (v / 2 ^ N)) != 0) = decide (v % 2 ^ N ≠ 0) := by
  by_cases c : v % 2 ^ N = 0
  ·
   rw [sgn_zero_iff.2 (by omega), decide_eq_false (by omega)]
   rfl
  ·
   rw [decide_eq_true c, bne_iff_ne]
   intro g
   have := sgn_zero_iff.1 g
   omega
 unfold parts_some.f
 rw [← e]
 exact Ev.bind x1 (Ev.bind x2 (Ev.bind x3 (Ev.now _)))
theorem round_clamp (neg : Bool) {hi lo N : Int} (y : Int) (k : Nat) (more : Bool) (mode : Int) (h0 : 0 ≤ hi) (h1 : hi < 18446744073709551616) (l0 : 0 ≤ lo) (l1 : lo < 18446744073709551616) (hN : 0 < N) (hW : hi * 18446744073709551616 + lo = N / 2 ^ k) (hW0 : 0 < N / 2 ^ k)
  (hm : more = decide (N % 2 ^ k ≠ 0)) (hs : N % 2 ^ k ≠ 0 → 55 ≤ bitsOf (N / 2 ^ k)) : Ev (fun i => parts_Round.f i neg hi lo y more mode) (rnd neg N (rclamp y - k) mode) := by
 have e := round_raw neg y more mode h0 h1 l0 l1 (by rw [hW]; exact hW0)
 rw [hW] at e
 have es := rnd_sticky neg hN (rclamp y - k) k mode hW0 (fun h => .inl (hs h))
 rw [show rclamp y - (k : Int) + k = rclamp y by omega] at es
 rw [es]
 have e2 : (more && decide (55 ≤ bitsOf (N / 2 ^ k) ∨ rclamp y ≤ -1080)) = decide (N % 2 ^ k ≠ 0) := by
  rw [hm]
  by_cases c : N % 2 ^ k ≠ 0
  ·
   rw [decide_eq_true c, decide_eq_true (.inl (hs c))]
   rfl
  ·
   rw [decide_eq_false c]
   rfl
 rw [e2] at e
 exact e
theorem rnd_clamp (neg : Bool) {N : Int} (hN : 0 < N) (y : Int) (k : Nat) (mode : Int) (hk : (k : Int) < bitsOf N) (hb : bitsOf N ≤ k + 128) : rnd neg N (rclamp y - k) mode = rnd neg N (y - k) mode := by
 by_cases c : -16384 ≤ y ∧ y ≤ 16384
 ·
  rw [rclamp_id c.1 c.2]
 ·
  by_cases c1 : y < -16384
  ·
   have e : rclamp y = -16384 := by unfold rclamp mn mx; split <;> split <;> omega
   rw [e, rnd_tiny neg hN (by omega), rnd_tiny neg hN (by omega)]
  ·
   have e : rclamp y = 16384 := by unfold rclamp mn mx; split <;> split <;> omega
   rw [e, rnd_great neg hN (by omega), rnd_great neg hN (by omega)]
theorem wide_ev {l : List Int} {v : Int} (h : Nm l v 1024) (hv : 0 < v) (s : Bool) (e mode : Int) (he : -32768 ≤ e) (he' : e ≤ 32768) : Ev (fun k => parts_Wide.f k s l e mode) ((rnd s v e mode).1, (rnd s v e mode).2, 0) := by
 have hl := h.len
 have hb := h.bits (by omega)
 have hbp := bitsOf_pos hv
 have hb1 : bitsOf v ≤ 65536 := by
  have := bitsOf_le (Int.le_of_lt hv) (n := 64 * 1024) (by
   have := h.lt
   rw [show (18446744073709551616 : Int) = 2 ^ 64 by decide, ← Int.pow_mul] at this
   exact this)
  omega
 have eBB : (18446744073709551616 : Int) * 18446744073709551616 = 2 ^ 128 := by decide
 unfold parts_Wide.f
 refine Ev.congr (fun k => (if_neg (by omega)).trans ((if_neg (by omega)).trans (if_neg (by omega)))) (Ev.bind hb ?_)
 rw [w64 (x := bitsOf v - 128) (by omega) (by omega)]
 by_cases c : bitsOf v - 128 > 0
 ·
  obtain ⟨N, hN⟩ : ∃ N : Nat, bitsOf v - 128 = (N : Int) := ⟨(bitsOf v - 128).toNat, by omega⟩
  have hp := two_pow_pos N
  have hq : 0 < v / 2 ^ N := by
   have h1 := bitsOf_low hv
   have h2 : (2 : Int) ^ N ≤ v := Int.le_trans (two_pow_mono (by omega)) h1
   have := Int.le_ediv_of_mul_le hp (show 1 * (2 : Int) ^ N ≤ v by omega)
   omega
  have hcut := bitsOf_cut N hq
  have hlt : v / 2 ^ N < 18446744073709551616 * 18446744073709551616 := by
   rw [eBB]
   have := bitsOf_lt_pow (Int.le_of_lt hq)
   rwa [show (bitsOf (v / 2 ^ N)).toNat = 128 by omega] at this
  obtain ⟨x1, y1⟩ := h.Shr N (by omega) (by omega)
  obtain ⟨q0, q1, q2, q3, q4⟩ := low2 y1 hlt
  have hr := round_clamp s (e + N) N (decide (v % 2 ^ N ≠ 0)) mode q0 q1 q2 q3 hv q4 hq rfl (fun _ => by omega)
  rw [rnd_clamp s hv (e + N) N mode (by omega) (by omega), show e + (N : Int) - N = e by omega] at hr
  refine Ev.congr (fun k => if_pos c) ?_
  rw [hN, w64 (x := e + (N : Int)) (by omega) (by omega)]
  refine Ev.bind (some_ev h (by omega) N (by omega)) (Ev.bind x1 ?_)
  unfold parts_Wide.t
  exact Ev.bind hr (Ev.now _)
 ·
  have hlt : v < 18446744073709551616 * 18446744073709551616 := by
   rw [eBB]
   exact Int.lt_of_lt_of_le (bitsOf_lt_pow (Int.le_of_lt hv)) (two_pow_mono (by omega))
  obtain ⟨q0, q1, q2, q3, q4⟩ := low2 h hlt
  have e1 : v / 2 ^ 0 = v := by rw [Int.pow_zero, Int.ediv_one]
  have e2 : v % 2 ^ 0 = 0 := by rw [Int.pow_zero, Int.emod_one]
  have hr := round_clamp s e 0 false mode q0 q1 q2 q3 hv (by rw [e1]; exact q4) (by rw [e1]; exact hv) (by rw [e2]; rfl) (fun h => absurd e2 h)
  rw [rnd_clamp s hv e 0 mode (by omega) (by omega), show e - ((0 : Nat) : Int) = e by omega] at hr
  refine Ev.congr (fun k => if_neg c) ?_
  unfold parts_Wide.t
  exact Ev.bind hr (Ev.now _)
end Go.Proofs.YtjgdpjbkmcjbcaaDoor.PG
end
