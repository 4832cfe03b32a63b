/- Parts of a proof. -/
import Derived.Test.YtkjhjlnjkohlbaaZRatioTells49
section
namespace Go.Proofs.Ytkjhjlnjkohlbaa.PR
open Go.RowKit Go.Proofs.YtkjhjlnjkohlbaaW.PrintWords Go.Proofs.YtkjhjlnjkohlbaaW.PrintLast Go.Proofs.YtkjhjlnjkohlbaaW.PrintMore Go.Proofs.Ytkjhjlnjkohlbaa.Num
set_option linter.unusedVariables false
set_option linter.unusedSimpArgs false
theorem gcd_loop {n : Nat} (hn : n < 100000000000) : ∀ (y x : Nat), Nm (dg 18446744073709551616 (x : Int)) (x : Int) n → Nm (dg 18446744073709551616 (y : Int)) (y : Int) n →
  Ev (fun k => natdiv_Gcd.l0 k (dg 18446744073709551616 (x : Int)) (dg 18446744073709551616 (y : Int))) (dg 18446744073709551616 ((Nat.gcd x y : Nat) : Int))
 | y, x, hx, hy => by
  by_cases h0 : y = 0
  ·
   subst h0
   refine Ev.step (f := fun _ => some (dg 18446744073709551616 (x : Int))) (fun k => ?_) ?_
   ·
    have e : dg 18446744073709551616 ((0 : Nat) : Int) = [] := rfl
    rw [natdiv_Gcd.l0, e, if_neg (by decide)]
   ·
    rw [Nat.gcd_zero_right]
    exact Ev.now _
  ·
   obtain ⟨e1, _, n1⟩ := hx.divmod hy (by omega) hn hn
   have em : ((x : Int) % (y : Int)) = ((x % y : Nat) : Int) := by omega
   rw [em] at e1 n1
   have hlt : x % y < y := Nat.mod_lt _ (by omega)
   have hne : (dg 18446744073709551616 (y : Int)).length ≠ 0 := fun e => by
    have := (dg_nil one_lt_B (by omega)).1 (List.length_eq_zero_iff.1 e)
    omega
   have hrec := gcd_loop hn (x % y) y hy n1
   rw [show Nat.gcd y (x % y) = Nat.gcd x y by rw [Nat.gcd_comm x y, Nat.gcd_rec y x, Nat.gcd_comm]] at hrec
   refine Ev.step (f := fun k => (natdiv_DivMod.f k (dg 18446744073709551616 (x : Int)) (dg 18446744073709551616 (y : Int))).bind fun bt => natdiv_Gcd.l0 k (dg 18446744073709551616 (y : Int)) bt.2.1) (fun k => ?_) (Ev.bind e1 hrec)
   rw [natdiv_Gcd.l0, if_pos (by omega)]
 termination_by y => y
theorem Nm.gcd {a b v w n m} (p : Nat) (h : Nm a v n) (g : Nm b w m) (hn : n ≤ p) (hm : m ≤ p) (hp : p < 100000000000) :
  Ev (fun k => natdiv_Gcd.f k a b) (Num.dg 18446744073709551616 ((Int.gcd v w : Nat) : Int)) := by
 obtain ⟨e1, n1⟩ := h.norm (by omega)
 obtain ⟨e2, n2⟩ := g.norm (by omega)
 obtain ⟨x, rfl⟩ := Int.eq_ofNat_of_zero_le h.nonneg
 obtain ⟨y, rfl⟩ := Int.eq_ofNat_of_zero_le g.nonneg
 unfold natdiv_Gcd.f
 exact Ev.bind e1 (Ev.bind e2 (gcd_loop hp y x (n1.mono hn) (n2.mono hm)))
end Go.Proofs.Ytkjhjlnjkohlbaa.PR
end
section
namespace Go.Proofs.Ytkjhjlnjkohlbaa.PR
open Go.RowKit Go.Proofs.YtkjhjlnjkohlbaaW.PrintWords Go.Proofs.YtkjhjlnjkohlbaaW.PrintLast Go.Proofs.Ytkjhjlnjkohlbaa.Num
set_option linter.unusedVariables false
set_option linter.unusedSimpArgs false
def wz (z : Int) : Bool × List Int := (decide (z < 0), dg 18446744073709551616 (z.natAbs : Int))
structure Wh (s : Bool) (a : List Int) (z : Int) (n : Nat) : Prop where
 nm : Nm a (z.natAbs : Int) n
 val : z = sv s (z.natAbs : Int)
theorem Wh.of {s a v n} (h : Nm a v n) : Wh s a (sv s v) n := by
 have h0 := h.nonneg
 have e : (((sv s v).natAbs : Nat) : Int) = v := by unfold sv; split <;> omega
 exact ⟨by rw [e]; exact h, by rw [e]⟩
theorem Wh.made {z : Int} {n : Nat} (h : (z.natAbs : Int) < 18446744073709551616 ^ n) : Wh (wz z).1 (wz z).2 z n := by
 refine ⟨Nm.dg (by omega) h, ?_⟩
 unfold sv wz
 simp only [decide_eq_true_eq]
 split <;> omega
theorem Wh.lt {s a z n} (h : Wh s a z n) : (z.natAbs : Int) < 18446744073709551616 ^ n := h.nm.lt
theorem Wh.mono {s a z n m} (h : Wh s a z n) (hm : n ≤ m) : Wh s a z m := ⟨h.nm.mono hm, h.val⟩
theorem wmade_ev {s : Bool} {l : List Int} {v : Int} {n : Nat} (h : Nm l v n) (hn : n ≤ 17592186044416) : Ev (fun k => whole_made.f k s l) (wz (sv s v)) := by
 have h0 := h.nonneg
 unfold whole_made.f
 refine Ev.bind (h.norm hn).1 ?_
 have e : (((sv s v).natAbs : Nat) : Int) = v := by unfold sv; split <;> omega
 have hz := dg_nil (B := 18446744073709551616) one_lt_B h0
 cases s
 ·
  have : wz (sv false v) = (false, dg 18446744073709551616 v) := by
   unfold wz
   rw [e]
   congr 1
   exact decide_eq_false (by simp [sv]; omega)
  rw [this]
  exact Ev.congr (fun k => if_neg (by decide)) (Ev.now _)
 ·
  have : wz (sv true v) = (decide (((dg 18446744073709551616 v).length : Int) > 0), dg 18446744073709551616 v) := by
   unfold wz
   rw [e]
   congr 1
   refine decide_eq_decide.2 ?_
   have : sv true v = -v := rfl
   rw [this]
   constructor
   ·
    intro h1
    have : dg 18446744073709551616 v ≠ [] := fun h2 => by have := hz.1 h2; omega
    have := List.length_pos_iff.2 this
    omega
   ·
    intro h1
    have : v ≠ 0 := fun h2 => by have h3 := hz.2 h2; rw [h3] at h1; simp at h1
    omega
  rw [this]
  exact Ev.congr (fun k => if_pos rfl) (Ev.now _)
theorem Wh.add {s a x n t b y m} (p : Nat) (h : Wh s a x n) (g : Wh t b y m) (hn : n ≤ p) (hm : m ≤ p) (hp : p < 17592186044416) : Ev (fun k => whole_Add.f k s a t b) (wz (x + y)) ∧ Wh (wz (x + y)).1 (wz (x + y)).2 (x + y) (p + 1) := by
 have l1 := (h.mono hn).lt
 have l2 := (g.mono hm).lt
 refine ⟨?_, Wh.made (by rw [Int.pow_succ]; omega)⟩
 have hx := h.val
 have hy := g.val
 unfold whole_Add.f
 by_cases e : s = t
 ·
  subst e
  refine Ev.congr (fun k => if_pos (by simp)) ?_
  obtain ⟨e1, n1⟩ := h.nm.add p g.nm hn hm (by omega)
  have ez : sv s ((x.natAbs : Int) + (y.natAbs : Int)) = x + y := by
   clear e1 n1 l1 l2
   revert hx hy
   unfold sv
   cases s <;> intro hx hy <;> simp only [Bool.false_eq_true, ↓reduceIte] at hx hy ⊢ <;> omega
  have e2 := wmade_ev (s := s) n1 (by omega)
  rw [ez] at e2
  exact Ev.bind e1 (Ev.bind e2 (Ev.now _))
 ·
  refine Ev.congr (fun k => if_neg (by simpa using e)) ?_
  obtain ⟨e1, n1⟩ := h.nm.sub p g.nm hn hm (by omega)
  refine Ev.bind (h.nm.cmp g.nm (by omega) (by omega)) ?_
  have key : ∀ (c : Bool) (fs : Bool), sv fs ((((x.natAbs : Int) - (y.natAbs : Int)).natAbs : Nat) : Int) = x + y → Ev (fun k => whole_made.f k fs (dg 18446744073709551616 (((x.natAbs : Int) - (y.natAbs : Int)).natAbs : Int))) (wz (x + y)) := by
   intro c fs hf
   have e2 := wmade_ev (s := fs) n1 (by omega)
   rwa [hf] at e2
  by_cases hlt : (x.natAbs : Int) < (y.natAbs : Int)
  ·
   have ec : decide (sgn ((x.natAbs : Int) - (y.natAbs : Int)) < 0) = true := decide_eq_true (sgn_neg_iff.2 (by omega))
   rw [ec]
   refine Ev.bind (a := (t, b)) (by unfold api_Whole.f; exact Ev.congr (fun k => if_pos rfl) (Ev.now _)) ?_
   refine Ev.bind e1 (Ev.bind (key true t ?_) (Ev.now _))
   clear key e1 n1 l1 l2 ec
   revert hx hy e
   unfold sv
   cases s <;> cases t <;> intro hx hy e <;> first | exact absurd rfl e | (simp only [Bool.false_eq_true, ↓reduceIte] at hx hy ⊢; omega)
  ·
   have ec : decide (sgn ((x.natAbs : Int) - (y.natAbs : Int)) < 0) = false := decide_eq_false (fun h' => hlt (by have := sgn_neg_iff.1 h'; omega))
   rw [ec]
   refine Ev.bind (a := (s, a)) (by unfold api_Whole.f; exact Ev.congr (fun k => if_neg (by decide)) (Ev.now _)) ?_
   refine Ev.bind e1 (Ev.bind (key true s ?_) (Ev.now _))
   clear key e1 n1 l1 l2 ec
   revert hx hy e
   unfold sv
   cases s <;> cases t <;> intro hx hy e <;> first | exact absurd rfl e | (simp only [Bool.false_eq_true, ↓reduceIte] at hx hy ⊢; omega)
theorem Wh.neg {s a x n} (h : Wh s a x n) (hn : n ≤ 17592186044416) : Ev (fun k => whole_Neg.f k s a) (wz (-x)) ∧ Wh (wz (-x)).1 (wz (-x)).2 (-x) n := by
 refine ⟨?_, Wh.made (by have := h.lt; rwa [Int.natAbs_neg])⟩
 unfold whole_Neg.f
 have e := wmade_ev (s := !s) h.nm hn
 have ez : sv (!s) (x.natAbs : Int) = -x := by
  have hx := h.val
  revert hx
  unfold sv
  cases s <;> simp <;> omega
 rw [ez] at e
 exact Ev.bind e (Ev.now _)
theorem Wh.norm {s a x n} (h : Wh s a x n) (hn : n ≤ 17592186044416) : Ev (fun k => whole_Norm.f k s a) (wz x) ∧ Wh (wz x).1 (wz x).2 x n := by
 refine ⟨?_, Wh.made h.lt⟩
 unfold whole_Norm.f
 have e := wmade_ev (s := s) h.nm hn
 rw [← h.val] at e
 exact Ev.bind e (Ev.now _)
theorem Wh.sub {s a x n t b y m} (p : Nat) (h : Wh s a x n) (g : Wh t b y m) (hn : n ≤ p) (hm : m ≤ p) (hp : p < 17592186044416) : Ev (fun k => whole_Sub.f k s a t b) (wz (x - y)) ∧ Wh (wz (x - y)).1 (wz (x - y)).2 (x - y) (p + 1) := by
 obtain ⟨e1, g1⟩ := g.neg (by omega)
 obtain ⟨e2, g2⟩ := h.add p g1 hn hm hp
 rw [← Int.sub_eq_add_neg] at e2 g2
 refine ⟨?_, g2⟩
 unfold whole_Sub.f
 exact Ev.bind e1 (Ev.bind e2 (Ev.now _))
theorem Wh.mul {s a x n t b y m} (h : Wh s a x n) (g : Wh t b y m) (hp : n + m ≤ 17592186044416) : Ev (fun k => whole_Mul.f k s a t b) (wz (x * y)) ∧ Wh (wz (x * y)).1 (wz (x * y)).2 (x * y) (n + m) := by
 obtain ⟨e1, n1⟩ := h.nm.mul g.nm (by omega)
 have ea : (((x * y).natAbs : Nat) : Int) = (x.natAbs : Int) * (y.natAbs : Int) := by rw [Int.natAbs_mul]; simp
 refine ⟨?_, Wh.made (by rw [ea]; exact n1.lt)⟩
 unfold whole_Mul.f
 have e2 := wmade_ev (s := s != t) n1 hp
 have ez : sv (s != t) ((x.natAbs : Int) * (y.natAbs : Int)) = x * y := by
  have hx := h.val
  have hy := g.val
  generalize (x.natAbs : Int) = v at hx
  generalize (y.natAbs : Int) = w at hy
  subst hx
  subst hy
  unfold sv
  cases s <;> cases t <;> simp [Int.mul_neg, Int.neg_mul]
 rw [ez] at e2
 exact Ev.bind e1 (Ev.bind e2 (Ev.now _))
theorem Wh.sign {s a x n} (h : Wh s a x n) (hn : n ≤ 35184372088832) : Ev (fun k => whole_Sign.f k s a) (sgn x) := by
 unfold whole_Sign.f
 refine Ev.bind (h.nm.bits hn) ?_
 have hb := bitsOf_zero_iff (v := (x.natAbs : Int)) (by omega)
 have hx := h.val
 by_cases h0 : x = 0
 ·
  refine Ev.congr (fun k => if_pos (hb.2 (by omega))) ?_
  subst h0
  exact Ev.now _
 ·
  refine Ev.congr (fun k => if_neg (fun h' => by have := hb.1 h'; omega)) ?_
  cases s
  ·
   refine Ev.congr (fun k => if_neg (by decide)) ?_
   have : sgn x = 1 := by unfold sgn; unfold sv at hx; rw [if_neg (by decide)] at hx; rw [if_neg (by omega), if_neg h0]
   rw [this]
   exact Ev.now _
  ·
   refine Ev.congr (fun k => if_pos rfl) ?_
   have : sgn x = -1 := by unfold sgn; unfold sv at hx; rw [if_pos rfl] at hx; rw [if_pos (by omega)]
   rw [this]
   exact Ev.now _
theorem Wh.cmp {s a x n t b y m} (p : Nat) (h : Wh s a x n) (g : Wh t b y m) (hn : n ≤ p) (hm : m ≤ p) (hp : p < 17592186044416) : Ev (fun k => whole_Cmp.f k s a t b) (sgn (x - y)) := by
 obtain ⟨e1, g1⟩ := h.sub p g hn hm hp
 unfold whole_Cmp.f
 exact Ev.bind e1 (Ev.bind (g1.sign (by omega)) (Ev.now _))
end Go.Proofs.Ytkjhjlnjkohlbaa.PR
end
