/- Parts of a proof. -/
import Derived.Test.YtpdjahhimmaonaaDoorZBoundOwn49
import Derived.Lib.TrailingZeros
section
namespace Go.Proofs.YtpdjahhimmaonaaDoor.PD
open Go.RowKit Go.Proofs.YtpdjahhimmaonaaDoorW.PrintWords Go.Proofs.YtpdjahhimmaonaaDoorW.PrintLast Go.Proofs.YtpdjahhimmaonaaDoor.Num
set_option linter.unusedVariables false
set_option linter.unusedSimpArgs false
def wz (z : Int) : Bool × List Int := (decide (z < 0), dg 18446744073709551616 (z.natAbs : Int))
structure Wh (s : Bool) (a : List Int) (z : Int) (n : Nat) : Prop where
 nm : Nm a (z.natAbs : Int) n
 val : z = sv s (z.natAbs : Int)
theorem Wh.of {s a v n} (h : Nm a v n) : Wh s a (sv s v) n := by
 have h0 := h.nonneg
 have e : (((sv s v).natAbs : Nat) : Int) = v := by unfold sv; split <;> omega
 exact ⟨by rw [e]; exact h, by rw [e]⟩
theorem Wh.made {z : Int} {n : Nat} (h : (z.natAbs : Int) < 18446744073709551616 ^ n) : Wh (wz z).1 (wz z).2 z n := by
 refine ⟨Nm.dg (by omega) h, ?_⟩
 unfold sv wz
 simp only [decide_eq_true_eq]
 split <;> omega
theorem Wh.lt {s a z n} (h : Wh s a z n) : (z.natAbs : Int) < 18446744073709551616 ^ n := h.nm.lt
theorem Wh.mono {s a z n m} (h : Wh s a z n) (hm : n ≤ m) : Wh s a z m := ⟨h.nm.mono hm, h.val⟩
theorem wmade_ev {s : Bool} {l : List Int} {v : Int} {n : Nat} (h : Nm l v n) (hn : n ≤ 17592186044416) : Ev (fun k => whole_made.f k s l) (wz (sv s v)) := by
 have h0 := h.nonneg
 unfold whole_made.f
 refine Ev.bind (h.norm hn).1 ?_
 have e : (((sv s v).natAbs : Nat) : Int) = v := by unfold sv; split <;> omega
 have hz := dg_nil (B := 18446744073709551616) one_lt_B h0
 cases s
 ·
  have : wz (sv false v) = (false, dg 18446744073709551616 v) := by
   unfold wz
   rw [e]
   congr 1
   exact decide_eq_false (by simp [sv]; omega)
  rw [this]
  exact Ev.congr (fun k => if_neg (by decide)) (Ev.now _)
 ·
  have : wz (sv true v) = (decide (((dg 18446744073709551616 v).length : Int) > 0), dg 18446744073709551616 v) := by
   unfold wz
   rw [e]
   congr 1
   refine decide_eq_decide.2 ?_
   have : sv true v = -v := rfl
   rw [this]
   constructor
   ·
    intro h1
    have : dg 18446744073709551616 v ≠ [] := fun h2 => by have := hz.1 h2; omega
    have := List.length_pos_iff.2 this
    omega
   ·
    intro h1
    have : v ≠ 0 := fun h2 => by have h3 := hz.2 h2; rw [h3] at h1; simp at h1
    omega
  rw [this]
  exact Ev.congr (fun k => if_pos rfl) (Ev.now _)
theorem Wh.add {s a x n t b y m} (p : Nat) (h : Wh s a x n) (g : Wh t b y m) (hn : n ≤ p) (hm : m ≤ p) (hp : p < 17592186044416) : Ev (fun k => whole_Add.f k s a t b) (wz (x + y)) ∧ Wh (wz (x + y)).1 (wz (x + y)).2 (x + y) (p + 1) := by
 have l1 := (h.mono hn).lt
 have l2 := (g.mono hm).lt
 refine ⟨?_, Wh.made (by rw [Int.pow_succ]; omega)⟩
 have hx := h.val
 have hy := g.val
 unfold whole_Add.f
 by_cases e : s = t
 ·
  subst e
  refine Ev.congr (fun k => if_pos (by simp)) ?_
  obtain ⟨e1, n1⟩ := h.nm.add p g.nm hn hm (by omega)
  have ez : sv s ((x.natAbs : Int) + (y.natAbs : Int)) = x + y := by
   clear e1 n1 l1 l2
   revert hx hy
   unfold sv
   cases s <;> intro hx hy <;> simp only [Bool.false_eq_true, ↓reduceIte] at hx hy ⊢ <;> omega
  have e2 := wmade_ev (s := s) n1 (by omega)
  rw [ez] at e2
  exact Ev.bind e1 (Ev.bind e2 (Ev.now _))
 ·
  refine Ev.congr (fun k => if_neg (by simpa using e)) ?_
  obtain ⟨e1, n1⟩ := h.nm.sub p g.nm hn hm (by omega)
  refine Ev.bind (h.nm.cmp g.nm (by omega) (by omega)) ?_
  have key : ∀ (c : Bool) (fs : Bool), sv fs ((((x.natAbs : Int) - (y.natAbs : Int)).natAbs : Nat) : Int) = x + y → Ev (fun k => whole_made.f k fs (dg 18446744073709551616 (((x.natAbs : Int) - (y.natAbs : Int)).natAbs : Int))) (wz (x + y)) := by
   intro c fs hf
   have e2 := wmade_ev (s := fs) n1 (by omega)
   rwa [hf] at e2
  by_cases hlt : (x.natAbs : Int) < (y.natAbs : Int)
  ·
   have ec : decide (sgn ((x.natAbs : Int) - (y.natAbs : Int)) < 0) = true := decide_eq_true (sgn_neg_iff.2 (by omega))
   rw [ec]
   refine Ev.bind (a := (t, b)) (by unfold api_Whole.f; exact Ev.congr (fun k => if_pos rfl) (Ev.now _)) ?_
   refine Ev.bind e1 (Ev.bind (key true t ?_) (Ev.now _))
   clear key e1 n1 l1 l2 ec
   revert hx hy e
   unfold sv
   cases s <;> cases t <;> intro hx hy e <;> first | exact absurd rfl e | (simp only [Bool.false_eq_true, ↓reduceIte] at hx hy ⊢; omega)
  ·
   have ec : decide (sgn ((x.natAbs : Int) - (y.natAbs : Int)) < 0) = false := decide_eq_false (fun h' => hlt (by have := sgn_neg_iff.1 h'; omega))
   rw [ec]
   refine Ev.bind (a := (s, a)) (by unfold api_Whole.f; exact Ev.congr (fun k => if_neg (by decide)) (Ev.now _)) ?_
   refine Ev.bind e1 (Ev.bind (key true s ?_) (Ev.now _))
   clear key e1 n1 l1 l2 ec
   revert hx hy e
   unfold sv
   cases s <;> cases t <;> intro hx hy e <;> first | exact absurd rfl e | (simp only [Bool.false_eq_true, ↓reduceIte] at hx hy ⊢; omega)
theorem Wh.mul {s a x n t b y m} (h : Wh s a x n) (g : Wh t b y m) (hp : n + m ≤ 17592186044416) : Ev (fun k => whole_Mul.f k s a t b) (wz (x * y)) ∧ Wh (wz (x * y)).1 (wz (x * y)).2 (x * y) (n + m) := by
 obtain ⟨e1, n1⟩ := h.nm.mul g.nm (by omega)
 have ea : (((x * y).natAbs : Nat) : Int) = (x.natAbs : Int) * (y.natAbs : Int) := by rw [Int.natAbs_mul]; simp
 refine ⟨?_, Wh.made (by rw [ea]; exact n1.lt)⟩
 unfold whole_Mul.f
 have e2 := wmade_ev (s := s != t) n1 hp
 have ez : sv (s != t) ((x.natAbs : Int) * (y.natAbs : Int)) = x * y := by
  have hx := h.val
  have hy := g.val
  generalize (x.natAbs : Int) = v at hx
  generalize (y.natAbs : Int) = w at hy
  subst hx
  subst hy
  unfold sv
  cases s <;> cases t <;> simp [Int.mul_neg, Int.neg_mul]
 rw [ez] at e2
 exact Ev.bind e1 (Ev.bind e2 (Ev.now _))
theorem Wh.sign {s a x n} (h : Wh s a x n) (hn : n ≤ 35184372088832) : Ev (fun k => whole_Sign.f k s a) (sgn x) := by
 unfold whole_Sign.f
 refine Ev.bind (h.nm.bits hn) ?_
 have hb := bitsOf_zero_iff (v := (x.natAbs : Int)) (by omega)
 have hx := h.val
 by_cases h0 : x = 0
 ·
  refine Ev.congr (fun k => if_pos (hb.2 (by omega))) ?_
  subst h0
  exact Ev.now _
 ·
  refine Ev.congr (fun k => if_neg (fun h' => by have := hb.1 h'; omega)) ?_
  cases s
  ·
   refine Ev.congr (fun k => if_neg (by decide)) ?_
   have : sgn x = 1 := by unfold sgn; unfold sv at hx; rw [if_neg (by decide)] at hx; rw [if_neg (by omega), if_neg h0]
   rw [this]
   exact Ev.now _
  ·
   refine Ev.congr (fun k => if_pos rfl) ?_
   have : sgn x = -1 := by unfold sgn; unfold sv at hx; rw [if_pos rfl] at hx; rw [if_pos (by omega)]
   rw [this]
   exact Ev.now _
theorem wof_ev {x : Int} (h0 : -9223372036854775808 ≤ x) (h1 : x ≤ 9223372036854775807) : Ev (fun k => whole_Of.f k x) (wz x) ∧ Wh (wz x).1 (wz x).2 x 1 := by
 refine ⟨?_, Wh.made (by omega)⟩
 unfold whole_Of.f
 by_cases h : x < 0
 ·
  refine Ev.congr (fun k => if_pos h) ?_
  have ew : IntKind.u64.wrap (-(IntKind.u64.wrap x)) = -x := by rw [IntKind.wrap_u64, IntKind.wrap_u64]; omega
  have e := wmade_ev (s := true) (Nm.one (x := -x) (n := 1) (by omega) (by omega) (by omega)) (by omega)
  rw [show sv true (-x) = x by unfold sv; rw [if_pos rfl]; omega] at e
  rw [ew, decide_eq_true h]
  exact Ev.bind e (Ev.now _)
 ·
  refine Ev.congr (fun k => if_neg h) ?_
  have e := wmade_ev (s := false) (Nm.one (x := x) (n := 1) (by omega) (by omega) (by omega)) (by omega)
  rw [show sv false x = x by unfold sv; rw [if_neg (by decide)]] at e
  rw [u64w (by omega) (by omega), decide_eq_false h]
  exact Ev.bind e (Ev.now _)
end Go.Proofs.YtpdjahhimmaonaaDoor.PD
end
section
namespace Go.Proofs.YtpdjahhimmaonaaDoor.PD
open Go.RowKit Go.Proofs.YtpdjahhimmaonaaDoorW.PrintWords Go.Proofs.YtpdjahhimmaonaaDoorW.PrintLast Go.Proofs.YtpdjahhimmaonaaDoorW.PrintMore Go.Proofs.YtpdjahhimmaonaaDoor.Num
set_option linter.unusedVariables false
set_option linter.unusedSimpArgs false
def Odd2 (v : Int) (t : Nat) (m : Int) : Prop := v = 2 ^ t * (2 * m + 1)
theorem Odd2.uniq {v : Int} {t s : Nat} {m n : Int} (h : Odd2 v t m) (g : Odd2 v s n) : t = s ∧ m = n := by
 unfold Odd2 at h g
 have key : ∀ (a b : Nat) (x y : Int), a ≤ b → (2 : Int) ^ a * (2 * x + 1) = 2 ^ b * (2 * y + 1) → a = b ∧ x = y := by
  intro a b x y hab e
  obtain ⟨d, rfl⟩ : ∃ d, b = a + d := ⟨b - a, by omega⟩
  have hp := two_pow_pos a
  rw [Int.pow_add, Int.mul_assoc] at e
  have e2 := Int.eq_of_mul_eq_mul_left (by omega) e
  cases d with
  | zero =>
   rw [Int.pow_zero, Int.one_mul] at e2
   exact ⟨rfl, by omega⟩
  | succ d =>
   exfalso
   rw [Int.pow_succ] at e2
   generalize (2 : Int) ^ d = P at e2
   have : P * 2 * (2 * y + 1) = 2 * (P * (2 * y + 1)) := by grind
   omega
 rcases Nat.le_total t s with hts | hts
 ·
  exact key t s m n hts (by rw [← h, ← g])
 ·
  have := key s t n m hts (by rw [← h, ← g])
  exact ⟨this.1.symm, this.2.symm⟩
theorem tz_some {x : Int} (h0 : 0 < x) (h1 : x < 18446744073709551616) : ∃ (c : Nat) (m : Int), bits_TrailingZeros64.f x = some (c : Int) ∧ c < 64 ∧ 0 ≤ m ∧ Odd2 x c m := by
 obtain ⟨n, rfl⟩ := Int.eq_ofNat_of_zero_le (Int.le_of_lt h0)
 obtain ⟨m, hm, hc⟩ := Lib.ctzFrom_spec 64 n (by omega) (by omega)
 refine ⟨Lib.ctzFrom 64 n, m, ?_, hc, by omega, ?_⟩
 ·
  unfold bits_TrailingZeros64.f
  rw [if_pos ⟨by omega, by omega⟩, Int.toNat_natCast]
  unfold Lib.ctz
  rw [if_neg (by omega)]
 ·
  unfold Odd2
  have : ((n : Nat) : Int) = ((2 ^ Lib.ctzFrom 64 n * (2 * m + 1) : Nat) : Int) := congrArg _ hm
  rw [this]
  push_cast
  rfl
theorem low_zeros {l : List Int} {i : Nat} (hi : i ≤ l.length) (h : ∀ j, j < i → l.getD j 0 = 0) : V 18446744073709551616 l = 18446744073709551616 ^ i * V 18446744073709551616 (l.drop i) := by
 have a := V_split 18446744073709551616 l hi
 have b : V 18446744073709551616 (l.take i) = 0 := V_zeros 18446744073709551616 _ (fun j => by
  rw [getD_take]
  split
  ·
   exact h j (by omega)
  ·
   rfl)
 rw [a, b]
 omega
theorem odd_high {x Y : Int} {c : Nat} {m : Int} (hc : c < 64) (h : Odd2 x c m) (i : Nat) : Odd2 (18446744073709551616 ^ i * (x + 18446744073709551616 * Y)) (64 * i + c) (m + 2 ^ (63 - c) * Y) := by
 unfold Odd2 at h ⊢
 have e1 : (18446744073709551616 : Int) = 2 ^ 64 := by decide
 have e2 : (18446744073709551616 : Int) ^ i = 2 ^ (64 * i) := by rw [e1, ← Int.pow_mul]
 have e3 : (18446744073709551616 : Int) = 2 ^ c * (2 ^ (63 - c) * 2) := by
  rw [← Int.mul_assoc, ← Int.pow_add, ← Int.pow_succ, show (c + (63 - c)).succ = 64 by omega]
  rfl
 have e4 : 18446744073709551616 * Y = 2 ^ c * (2 ^ (63 - c) * 2) * Y := by rw [← e3]
 rw [e2, e4, h, Int.pow_add]
 grind
theorem zeros_loop (l : List Int) (hd : Dig 18446744073709551616 l) (hl : l.length ≤ 17592186044416) : ∀ (d i : Nat), l.length = i + d → (∀ j, j < i → l.getD j 0 = 0) →
  ∃ n : Nat, Ev (fun k => natdiv_Zeros.l0 k l (l.length : Int) (i : Int)) (n : Int) ∧ ((V 18446744073709551616 l = 0 ∧ n = 0) ∨ ∃ m, 0 ≤ m ∧ Odd2 (V 18446744073709551616 l) n m ∧ n < 64 * l.length)
 | 0, i, hi, hz => by
  refine ⟨0, Ev.step (f := fun _ => some 0) (fun k => ?_) (Ev.now _), .inl ⟨?_, rfl⟩⟩
  ·
   rw [natdiv_Zeros.l0, if_neg (by omega)]
  ·
   rw [low_zeros (i := i) (by omega) hz, V_drop_all _ _ (by omega)]
   omega
 | d + 1, i, hi, hz => by
  have hx := hd.getD B_pos i
  by_cases h0 : l.getD i 0 = 0
  ·
   obtain ⟨n, e, h⟩ := zeros_loop l hd hl d (i + 1) (by omega) (fun j hj => by
    by_cases e : j = i
    ·
     rw [e]; exact h0
    ·
     exact hz j (by omega))
   refine ⟨n, Ev.step (f := fun k => natdiv_Zeros.l0 k l (l.length : Int) ((i + 1 : Nat) : Int)) (fun k => ?_) e, h⟩
   rw [natdiv_Zeros.l0, rd_nat, if_pos (by omega), if_pos (by omega), if_pos (by omega), if_pos h0, w64 (by omega) (by omega)]
   rfl
  ·
   obtain ⟨c, m, hf, hc, hm, ho⟩ := tz_some (x := l.getD i 0) (by omega) hx.2
   have hv := low_zeros (l := l) (i := i) (by omega) hz
   rw [V_drop_succ 18446744073709551616 l i (by omega)] at hv
   have hodd := odd_high (Y := V 18446744073709551616 (l.drop (i + 1))) hc ho i
   rw [← hv] at hodd
   have hY := V_nonneg B_pos (hd.drop (i + 1))
   refine ⟨64 * i + c, Ev.step (f := fun _ => some ((64 * i + c : Nat) : Int)) (fun k => ?_) (Ev.now _), .inr ⟨_, ?_, hodd, by omega⟩⟩
   ·
    rw [natdiv_Zeros.l0, rd_nat, if_pos (by omega), if_pos (by omega), if_pos (by omega), if_neg h0, hf]
    simp only [Option.bind_some]
    rw [w64 (x := 64 * (i : Int)) (by omega) (by omega), w64 (by omega) (by omega)]
    congr 1
   ·
    have := Int.mul_nonneg (Int.le_of_lt (two_pow_pos (63 - c))) hY
    omega
theorem Nm.zeros {a v n} (h : Nm a v n) (hn : n ≤ 17592186044416) : ∃ t : Nat, Ev (fun k => natdiv_Zeros.f k a) (t : Int) ∧ ((v = 0 ∧ t = 0) ∨ ∃ m, 0 ≤ m ∧ Odd2 v t m ∧ t < 64 * n) := by
 have hl := h.len
 obtain ⟨t, e, ht⟩ := zeros_loop a h.dig (by omega) a.length 0 (by omega) (fun j hj => by omega)
 rw [h.val] at ht
 refine ⟨t, Ev.congr (fun k => rfl) e, ht.imp id ?_⟩
 rintro ⟨m, h0, h1, h2⟩
 exact ⟨m, h0, h1, by omega⟩
end Go.Proofs.YtpdjahhimmaonaaDoor.PD
end
section
namespace Go.Proofs.YtpdjahhimmaonaaDoor.PD
open Go.RowKit Go.Proofs.YtpdjahhimmaonaaDoorW.PrintWords Go.Proofs.YtpdjahhimmaonaaDoorW.PrintLast Go.Proofs.YtpdjahhimmaonaaDoorW.PrintMore Go.Proofs.YtpdjahhimmaonaaDoor.Num
set_option linter.unusedVariables false
set_option linter.unusedSimpArgs false
def dmay (l : List Int) (e : Int) : Prop := -16384 ≤ e ∧ e ≤ 16384 ∧ l.length ≤ 1024
instance (l : List Int) (e : Int) : Decidable (dmay l e) := by unfold dmay; exact inferInstance
theorem check_ok {s : Bool} {l : List Int} {e : Int} (h : dmay l e) : dyadic_Check.f s l e = some 0 := by
 obtain ⟨h0, h1, h2⟩ := h
 unfold dyadic_Check.f
 rw [if_neg (by omega), if_neg (by omega), if_neg (by omega)]
theorem check_no {s : Bool} {l : List Int} {e : Int} (h : ¬ dmay l e) : dyadic_Check.f s l e = some 9 := by
 unfold dmay at h
 unfold dyadic_Check.f
 by_cases h0 : e < -16384
 ·
  rw [if_pos h0]
 ·
  rw [if_neg h0]
  by_cases h1 : e > 16384
  ·
   rw [if_pos h1]
  ·
   rw [if_neg h1, if_pos (by omega)]
def dtold (s : Bool) (l : List Int) (e : Int) : Bool × List Int × Int × Int := if dmay l e then (s, l, e, 0) else (false, [], 0, 4)
theorem dtold_loop {v : Int} {n : Nat} (hn : n ≤ 10000000) (x1 x6 : Int) (s : Bool) (og : List Int) : ∀ (f left : Nat) (a : List Int) (d : Nat), left ≤ f → left < 1000000000 → Nm a (v / 2 ^ d) n →
  Ev (fun k => dyadic_told.l0 k x1 x6 a (left : Int) s og) (dtold s (dg 18446744073709551616 (v / 2 ^ (d + left))) (wrap64 (x1 + x6)))
 | f, 0, a, d, hf, hl, ha => by
  obtain ⟨e1, n1⟩ := ha.norm (by omega)
  refine Ev.step (f := _) (fun k => by rw [dyadic_told.l0, if_neg (by omega)]) (Ev.bind e1 ?_)
  rw [Nat.add_zero]
  unfold dtold
  by_cases hm : dmay (dg 18446744073709551616 (v / 2 ^ d)) (wrap64 (x1 + x6))
  ·
   rw [if_pos hm]
   exact Ev.bind (g := fun _ => dyadic_Check.f s (dg 18446744073709551616 (v / 2 ^ d)) (wrap64 (x1 + x6))) (Ev.congr (fun _ => check_ok hm) (Ev.now _)) (Ev.congr (fun k => if_pos rfl) (Ev.now _))
  ·
   rw [if_neg hm]
   exact Ev.bind (g := fun _ => dyadic_Check.f s (dg 18446744073709551616 (v / 2 ^ d)) (wrap64 (x1 + x6))) (Ev.congr (fun _ => check_no hm) (Ev.now _)) (Ev.congr (fun k => if_neg (by decide)) (Ev.now _))
 | 0, left + 1, a, d, hf, hl, ha => by omega
 | f + 1, left + 1, a, d, hf, hl, ha => by
  obtain ⟨c, hc, hc1, hc2⟩ : ∃ c : Nat, mn ((left + 1 : Nat) : Int) 65536 = (c : Int) ∧ 0 < c ∧ c ≤ 65536 := ⟨(mn ((left + 1 : Nat) : Int) 65536).toNat, by unfold mn; split <;> omega⟩
  have hcl : c ≤ left + 1 := by unfold mn at hc; split at hc <;> omega
  obtain ⟨e1, n1⟩ := ha.Shr c (by omega) hc2
  have ed : v / 2 ^ d / 2 ^ c = v / 2 ^ (d + c) := by rw [ediv_two (two_pow_pos d), ← Int.pow_add]
  rw [ed] at e1 n1
  by_cases hlast : left + 1 ≤ 65536
  ·
   have hcc : c = left + 1 := by unfold mn at hc; split at hc <;> omega
   have hrec := dtold_loop hn x1 x6 s og f 0 _ (d + c) (by omega) (by omega) n1
   rw [Nat.add_zero, hcc] at hrec
   have hneg : Ev (fun k => dyadic_told.l0 k x1 x6 (dg 18446744073709551616 (v / 2 ^ (d + (left + 1)))) (wrap64 (((left + 1 : Nat) : Int) - 65536)) s og) (dtold s (dg 18446744073709551616 (v / 2 ^ (d + (left + 1)))) (wrap64 (x1 + x6))) := by
    rw [hcc] at n1
    obtain ⟨e2, n2⟩ := n1.norm (by omega)
    refine Ev.step (f := _) (fun k => by rw [dyadic_told.l0, if_neg (by rw [w64 (by omega) (by omega)]; omega)]) (Ev.bind e2 ?_)
    unfold dtold
    by_cases hm : dmay (dg 18446744073709551616 (v / 2 ^ (d + (left + 1)))) (wrap64 (x1 + x6))
    ·
     rw [if_pos hm]
     exact Ev.bind (g := fun _ => dyadic_Check.f s (dg 18446744073709551616 (v / 2 ^ (d + (left + 1)))) (wrap64 (x1 + x6))) (Ev.congr (fun _ => check_ok hm) (Ev.now _)) (Ev.congr (fun k => if_pos rfl) (Ev.now _))
    ·
     rw [if_neg hm]
     exact Ev.bind (g := fun _ => dyadic_Check.f s (dg 18446744073709551616 (v / 2 ^ (d + (left + 1)))) (wrap64 (x1 + x6))) (Ev.congr (fun _ => check_no hm) (Ev.now _)) (Ev.congr (fun k => if_neg (by decide)) (Ev.now _))
   refine Ev.step (f := _) (fun k => by rw [dyadic_told.l0, if_pos (by omega), hc]) (Ev.bind e1 ?_)
   rw [hcc]
   exact hneg
  ·
   have hcc : c = 65536 := by unfold mn at hc; split at hc <;> omega
   obtain ⟨r, hr⟩ : ∃ r, left + 1 = r + 65536 := ⟨left + 1 - 65536, by omega⟩
   have hrec := dtold_loop hn x1 x6 s og f r _ (d + c) (by omega) (by omega) n1
   rw [show d + c + r = d + (left + 1) by omega] at hrec
   refine Ev.step (f := _) (fun k => by rw [dyadic_told.l0, if_pos (by omega), hc]) (Ev.bind e1 ?_)
   rw [w64 (x := ((left + 1 : Nat) : Int) - 65536) (by omega) (by omega), show ((left + 1 : Nat) : Int) - 65536 = (r : Int) by omega]
   exact hrec
theorem dtold0_ev {s : Bool} {l : List Int} {n : Nat} (h : Nm l 0 n) (hn : n ≤ 10000000) (exp : Int) : Ev (fun k => dyadic_told.f k s l exp) (false, [], 0, 0) := by
 have hw : Wh s l (sv s 0) n := Wh.of h
 have e := hw.sign (by omega)
 have hz : sgn (sv s 0) = 0 := by cases s <;> rfl
 rw [hz] at e
 unfold dyadic_told.f
 exact Ev.bind e (Ev.congr (fun k => if_pos rfl) (Ev.now _))
theorem odd2_pos {v m : Int} {t : Nat} (h : Odd2 v t m) (hm : 0 ≤ m) : 0 < v := by
 unfold Odd2 at h
 rw [h]
 exact Int.mul_pos (two_pow_pos t) (by omega)
theorem odd2_div {v m : Int} {t : Nat} (h : Odd2 v t m) : v / 2 ^ t = 2 * m + 1 := by
 unfold Odd2 at h
 rw [h]
 exact Int.mul_ediv_cancel_left _ (by have := two_pow_pos t; omega)
theorem dtold_ev {s : Bool} {l : List Int} {v m : Int} {t n : Nat} (h : Nm l v n) (hn : n ≤ 10000000) (ho : Odd2 v t m) (hm : 0 ≤ m) (exp : Int) : Ev (fun k => dyadic_told.f k s l exp) (dtold s (dg 18446744073709551616 (2 * m + 1)) (wrap64 (exp + t))) := by
 have hv := odd2_pos ho hm
 have hw : Wh s l (sv s v) n := Wh.of h
 have e := hw.sign (by omega)
 have hz : sgn (sv s v) ≠ 0 := by
  unfold sgn sv
  split <;> split <;> (try split) <;> omega
 obtain ⟨t', e2, ht⟩ := h.zeros (by omega)
 have ht' : t' = t ∧ t' < 64 * n := by
  rcases ht with ⟨h0, _⟩ | ⟨m', _, h1, h2⟩
  ·
   omega
  ·
   exact ⟨(h1.uniq ho).1, h2⟩
 obtain ⟨rfl, hb⟩ := ht'
 have hl := dtold_loop (v := v) hn exp (t' : Int) s l t' t' l 0 (Nat.le_refl _) (by omega) (by rw [Int.pow_zero, Int.ediv_one]; exact h)
 rw [Nat.zero_add, odd2_div ho] at hl
 unfold dyadic_told.f
 exact Ev.bind e (Ev.congr (fun k => if_neg hz) (Ev.bind e2 hl))
end Go.Proofs.YtpdjahhimmaonaaDoor.PD
end
section
namespace Go.Proofs.YtpdjahhimmaonaaDoor.Flt
open Go.Proofs.YtpdjahhimmaonaaDoor.Num
set_option linter.unusedVariables false
set_option linter.unusedSimpArgs false
def up2 (a : Int) : Int := 2 ^ a.toNat
theorem up2_pos (a : Int) : 0 < up2 a := two_pow_pos _
theorem up2_nat (n : Nat) : up2 (n : Int) = 2 ^ n := by unfold up2; rw [Int.toNat_natCast]
theorem up2_add {a b : Int} (ha : 0 ≤ a) (hb : 0 ≤ b) : up2 (a + b) = up2 a * up2 b := by
 unfold up2
 rw [show (a + b).toNat = a.toNat + b.toNat by omega, Int.pow_add]
theorem bitsOf_low {v : Int} (h : 0 < v) : 2 ^ ((bitsOf v).toNat - 1) ≤ v := by
 obtain ⟨_, _, _, h3⟩ := bitsOf_spec (v := v) (by omega)
 exact h3.resolve_left (by have := bitsOf_pos h; omega)
end Go.Proofs.YtpdjahhimmaonaaDoor.Flt
end
