/- Parts of a proof. -/
import Derived.Test.YtjgdpjbkmcjbcaaDoorZFconvFrom49
import Derived.Laws.Bits64
section
namespace Go.Proofs.YtjgdpjbkmcjbcaaDoor.PG
open Go.RowKit Go.Proofs.YtjgdpjbkmcjbcaaDoorW.PrintWords Go.Proofs.YtjgdpjbkmcjbcaaDoorW.PrintLast Go.Proofs.YtjgdpjbkmcjbcaaDoorW.PrintMore Go.Proofs.YtjgdpjbkmcjbcaaDoor.Num Go.Proofs.YtjgdpjbkmcjbcaaDoor.Flt
set_option linter.unusedVariables false
set_option linter.unusedSimpArgs false
theorem rup_no (neg : Bool) (q mode : Int) : rup neg q false false mode = false := by unfold rup; cases neg <;> simp
theorem rnd_exact (neg : Bool) {m x : Int} (mode : Int) (h0 : 0 < m) (h1 : m < 9007199254740992) (hx : -1074 ≤ x) (hx' : x ≤ 971) (hn : 4503599627370496 ≤ m ∨ x = -1074) : rnd neg m x mode = (rput neg m x, 0) := by
 have e53 : (2 : Int) ^ 53 = 9007199254740992 := by decide
 have e52 : (2 : Int) ^ 52 = 4503599627370496 := by decide
 have hb : bitsOf m ≤ 53 := bitsOf_le (by omega) (n := 53) (by omega)
 have hb2 : 4503599627370496 ≤ m → 53 ≤ bitsOf m := by
  intro h
  have := bitsOf_ge (v := m) (n := 52) (by omega)
  omega
 have he : rexp (bitsOf m) x = x := by unfold rexp; split <;> omega
 have hq : qx m x x = (m, false, false) := by
  unfold qx
  rw [show x - x = 0 by omega, up2_neg (a := 0) (by omega), Int.mul_one, qhs_one]
 unfold rnd rfin
 rw [he, hq]
 simp only [rup_no]
 rw [if_neg (show ¬ (false = true) by decide), if_neg (show ¬ 9007199254740992 ≤ m by omega), if_neg (show ¬ 9007199254740992 ≤ m by omega), if_neg (show ¬ (4503599627370496 ≤ m ∧ 971 < x) by omega), if_neg (show ¬ (false = true ∨ false = true) by decide)]
theorem rput_parts (neg : Bool) {m e : Int} (h0 : 0 ≤ m) (h1 : m < 9007199254740992) (he : -1074 ≤ e) (he' : e ≤ 971) (hn : 4503599627370496 ≤ m ∨ e = -1074) :
  0 ≤ rput neg m e ∧ rput neg m e < 18446744073709551616 ∧ fneg (rput neg m e) = neg ∧ fex (rput neg m e) ≠ 2047 ∧ fman (rput neg m e) = m ∧ fxp (rput neg m e) = e := by
 have key : ∀ z : Int, (z = 0 ∧ neg = false) ∨ (z = 9223372036854775808 ∧ neg = true) → rzero neg = z := by
  intro z hz
  rcases hz with ⟨rfl, rfl⟩ | ⟨rfl, rfl⟩ <;> rfl
 obtain ⟨z, hz⟩ : ∃ z : Int, (z = 0 ∧ neg = false) ∨ (z = 9223372036854775808 ∧ neg = true) := by cases neg; exact ⟨0, .inl ⟨rfl, rfl⟩⟩; exact ⟨_, .inr ⟨rfl, rfl⟩⟩
 have hr := key z hz
 unfold rput
 rw [hr]
 have hfn : ∀ t : Int, (t < 9223372036854775808 ↔ z = 0) → fneg t = neg := by
  intro t ht
  unfold fneg
  rcases hz with ⟨rfl, rfl⟩ | ⟨rfl, rfl⟩
  ·
   exact decide_eq_false (by have := ht.2 rfl; omega)
  ·
   exact decide_eq_true (by
    by_cases c : t < 9223372036854775808
    ·
     have := ht.1 c; omega
    ·
     omega)
 have hz2 : z = 0 ∨ z = 9223372036854775808 := by omega
 by_cases c : m < 4503599627370496
 ·
  rw [if_pos c]
  have ee : e = -1074 := by omega
  have e1 : fex (z + m) = 0 := by unfold fex; rcases hz2 with rfl | rfl <;> omega
  have e2 : ffr (z + m) = m := by unfold ffr; rcases hz2 with rfl | rfl <;> omega
  refine ⟨by omega, by omega, hfn _ (by omega), by omega, ?_, ?_⟩
  ·
   unfold fman; rw [if_pos e1, e2]
  ·
   unfold fxp; rw [if_pos e1, ee]
 ·
  rw [if_neg c]
  have e1 : fex (z + (e + 1075) * 4503599627370496 + (m - 4503599627370496)) = e + 1075 := by unfold fex; rcases hz2 with rfl | rfl <;> omega
  have e2 : ffr (z + (e + 1075) * 4503599627370496 + (m - 4503599627370496)) = m - 4503599627370496 := by unfold ffr; rcases hz2 with rfl | rfl <;> omega
  refine ⟨by omega, by omega, hfn _ (by omega), by omega, ?_, ?_⟩
  ·
   unfold fman; rw [if_neg (by omega), e2]; omega
  ·
   unfold fxp; rw [if_neg (by omega), e1]; omega
theorem fin_shape {a : Int} (hf : fex a ≠ 2047) : -1074 ≤ fxp a ∧ fxp a ≤ 971 ∧ (4503599627370496 ≤ fman a ∨ fxp a = -1074) := by
 have ra := fex_range a
 have fa := ffr_range a
 unfold fxp fman
 split <;> omega
theorem rnd_few (neg : Bool) {N x : Int} (mode : Int) (h0 : 0 < N) (h1 : N < 9007199254740992) (hx : -1074 ≤ x) (hx' : x ≤ 900) : ∃ t k : Int, rnd neg N x mode = (t, 0) ∧ 0 ≤ t ∧ t < 18446744073709551616 ∧ fneg t = neg ∧ fex t ≠ 2047 ∧ 0 ≤ k ∧ fman t = N * up2 k ∧ fxp t = x - k := by
 have e53 : (2 : Int) ^ 53 = 9007199254740992 := by decide
 have hb : bitsOf N ≤ 53 := bitsOf_le (by omega) (n := 53) (by omega)
 have hb0 := bitsOf_pos h0
 have hr := rexp_ge (bitsOf N) x
 obtain ⟨k, hk⟩ : ∃ k : Nat, x - rexp (bitsOf N) x = k := ⟨(x - rexp (bitsOf N) x).toNat, by omega⟩
 have hs := rnd_shift neg h0 x k mode
 have hbs := bitsOf_mul_pow h0 k
 have hp := two_pow_pos k
 have hm0 : 0 < N * 2 ^ k := Int.mul_pos h0 hp
 have hm1 : N * 2 ^ k < 9007199254740992 := by
  have := bitsOf_lt_pow (v := N * 2 ^ k) (by omega)
  have h2 : (2 : Int) ^ (bitsOf (N * 2 ^ k)).toNat ≤ 2 ^ 53 := two_pow_mono (by omega)
  omega
 have hm2 : 4503599627370496 ≤ N * 2 ^ k ∨ x - k = -1074 := by
  rcases hr.2.2 with h | h
  ·
   right; omega
  ·
   left
   have h2 := bitsOf_low hm0
   have h3 : (2 : Int) ^ 52 ≤ 2 ^ ((bitsOf (N * 2 ^ k)).toNat - 1) := two_pow_mono (by omega)
   have e52 : (2 : Int) ^ 52 = 4503599627370496 := by decide
   omega
 have he := rnd_exact neg mode hm0 hm1 (x := x - k) (by omega) (by omega) hm2
 obtain ⟨p0, p1, p2, p3, p4, p5⟩ := rput_parts neg (Int.le_of_lt hm0) hm1 (e := x - k) (by omega) (by omega) hm2
 exact ⟨rput neg (N * 2 ^ k) (x - k), k, by rw [← hs, he], p0, p1, p2, p3, by omega, by rw [p4, up2_nat], p5⟩
def fflip (b : Int) : Int := if b < 9223372036854775808 then b + 9223372036854775808 else b - 9223372036854775808
theorem fflip_parts {b : Int} (b0 : 0 ≤ b) (b1 : b < 18446744073709551616) : fneg (fflip b) = !fneg b ∧ fex (fflip b) = fex b ∧ ffr (fflip b) = ffr b := by
 unfold fflip
 split
 ·
  refine ⟨?_, by unfold fex; omega, by unfold ffr; omega⟩
  unfold fneg
  rw [decide_eq_true (by omega), decide_eq_false (by omega)]
  rfl
 ·
  refine ⟨?_, by unfold fex; omega, by unfold ffr; omega⟩
  unfold fneg
  rw [decide_eq_false (by omega), decide_eq_true (by omega)]
  rfl
theorem fflip_man {b : Int} (b0 : 0 ≤ b) (b1 : b < 18446744073709551616) : fman (fflip b) = fman b ∧ fxp (fflip b) = fxp b ∧ fcls (fflip b) = fcls b := by
 obtain ⟨_, e1, e2⟩ := fflip_parts b0 b1
 unfold fman fxp fcls
 rw [e1, e2]
 exact ⟨rfl, rfl, rfl⟩
theorem addS_fin {a b : Int} (mode : Int) (ha : fcls a ≤ 1) (hb : fcls b ≤ 1) : addS a b mode = rsum (fneg a) (fman a) (fxp a) (fneg b) (fman b) (fxp b) mode := by
 unfold addS
 rw [if_neg (by omega), if_neg (by omega), if_neg (by omega), if_neg (by omega)]
end Go.Proofs.YtjgdpjbkmcjbcaaDoor.PG
end
section
namespace Go.Proofs.YtjgdpjbkmcjbcaaDoor.PG
open Go.RowKit Go.Proofs.YtjgdpjbkmcjbcaaDoorW.PrintWords Go.Proofs.YtjgdpjbkmcjbcaaDoorW.PrintLast Go.Proofs.YtjgdpjbkmcjbcaaDoorW.PrintMore Go.Proofs.YtjgdpjbkmcjbcaaDoor.Num Go.Proofs.YtjgdpjbkmcjbcaaDoor.Flt
set_option linter.unusedVariables false
set_option linter.unusedSimpArgs false
def wup (neg : Bool) (m D mode : Int) : Bool := rup neg (m / D) (qhs m D).2.1 (qhs m D).2.2 mode
def wq (neg : Bool) (m D mode : Int) : Int := if wup neg m D mode = true then m / D + 1 else m / D
theorem qhs_rest {m D : Int} (hD : 0 < D) : ((qhs m D).2.1 = false ∧ (qhs m D).2.2 = false) ↔ m % D = 0 := by
 have h0 := Int.emod_nonneg m (show D ≠ 0 by omega)
 unfold qhs
 simp only [decide_eq_false_iff_not]
 omega
theorem wup_exact {neg : Bool} {m D mode : Int} (hD : 0 < D) (h : m % D = 0) : wup neg m D mode = false := by
 have := (qhs_rest (m := m) hD).2 h
 unfold wup
 rw [this.1, this.2]
 exact rup_no neg _ mode
theorem qhs_far {m : Int} (h0 : 0 ≤ m) (h1 : m < 9007199254740992) {n : Nat} (hn : 63 ≤ n) : qhs m (2 ^ n) = (0, false, decide (m ≠ 0)) := by
 have e63 : (2 : Int) ^ 63 = 9223372036854775808 := by decide
 have h2 : (2 : Int) ^ 63 ≤ 2 ^ n := two_pow_mono hn
 have e1 : m / 2 ^ n = 0 := Int.ediv_eq_zero_of_lt h0 (by omega)
 have e2 : m % 2 ^ n = m := Int.emod_eq_of_lt h0 (by omega)
 unfold qhs
 rw [e1, e2, decide_eq_false (by omega)]
 congr 2
 refine decide_eq_decide.2 ?_
 omega
theorem fup_some (neg : Bool) (q : Int) (h s : Bool) (mode : Int) (h0 : 0 ≤ q) (h1 : q < 18446744073709551616) (hs : ¬ (h = false ∧ s = false)) : fconv_up.f neg h s q mode = some (rup neg q h s mode) := by
 have e : (Go.bits .and .u64 q 1 == 1) = decide (q % 2 = 1) := by rw [and_one h0 h1]; rw [Bool.eq_iff_iff]; simp
 unfold fconv_up.f rup
 rw [e]
 by_cases m1 : mode = 1
 ·
  rw [if_pos m1, if_pos m1]
 ·
  rw [if_neg m1, if_neg m1]
  by_cases m2 : mode = 2
  ·
   rw [if_pos m2, if_pos m2]
  ·
   rw [if_neg m2, if_neg m2]
   by_cases m3 : mode = 3
   ·
    rw [if_pos m3, if_pos m3]
    cases neg <;> cases h <;> cases s <;> simp_all
   ·
    rw [if_neg m3, if_neg m3]
    by_cases m4 : mode = 4
    ·
     rw [if_pos m4, if_pos m4]
     cases neg <;> cases h <;> cases s <;> simp_all
    ·
     rw [if_neg m4, if_neg m4]
     cases h <;> cases s <;> simp_all
theorem near_j0 (neg : Bool) (mode q : Int) (h s : Bool) (h0 : 0 ≤ q) (h1 : q < 9007199254740992) (x : Bool) (hx : x = true ↔ (h = false ∧ s = false)) :
  Ev (fun k => fconv_near.j0 k neg mode q h s x) (if rup neg q h s mode = true then q + 1 else q, decide (¬ (h = false ∧ s = false))) := by
 by_cases c : h = false ∧ s = false
 ·
  rw [hx.2 c, decide_eq_false (by simp [c]), c.1, c.2, rup_no, if_neg (by decide)]
  refine Ev.step (f := fun _ => some (q, false)) (fun k => ?_) (Ev.now _)
  rw [fconv_near.j0, if_pos rfl]
 ·
  have hx' : x = false := by
   cases x
   ·
    rfl
   ·
    exact absurd (hx.1 rfl) c
  rw [hx', decide_eq_true c]
  refine Ev.step (f := fun _ => some (if rup neg q h s mode = true then q + 1 else q, true)) (fun k => ?_) (Ev.now _)
  rw [fconv_near.j0, if_neg (by decide), fup_some neg q h s mode h0 (by omega) c]
  simp only [Option.bind_some]
  by_cases u : rup neg q h s mode = true
  ·
   rw [if_pos u, if_pos u, u64w (by omega) (by omega)]
  ·
   rw [if_neg u, if_neg u]
theorem near_ev (neg : Bool) {m : Int} (h0 : 0 ≤ m) (h1 : m < 9007199254740992) (n : Nat) (hn : 0 < n) (hn' : n < 100000) (mode : Int) :
  Ev (fun k => fconv_near.f k neg m (n : Int) mode) (wq neg m (2 ^ n) mode, decide (m % 2 ^ n ≠ 0)) := by
 obtain ⟨s, hs⟩ : ∃ s : Nat, mn (n : Int) 63 = ((s + 1 : Nat) : Int) := ⟨(mn (n : Int) 63).toNat - 1, by unfold mn; split <;> omega⟩
 have hs1 : s + 1 ≤ 63 ∧ s + 1 ≤ n ∧ (s + 1 = n ∨ s + 1 = 63) := by unfold mn at hs; split at hs <;> omega
 have hp := two_pow_pos s
 have hq : qhs m (2 ^ n) = (m / 2 ^ (s + 1), decide (m / 2 ^ s % 2 = 1), decide (m % 2 ^ s ≠ 0)) := by
  rw [← qhs_bits]
  rcases hs1.2.2 with h | h
  ·
   rw [h]
  ·
   rw [qhs_far h0 h1 (n := n) (by omega), qhs_far h0 h1 (n := s + 1) (by omega)]
 have e1 : wrap64 (((s + 1 : Nat) : Int) - 1) = (s : Int) := by rw [w64 (by omega) (by omega)]; omega
 have e2 : shr .u64 m (s : Int) = m / 2 ^ s := shr_u64 (by omega)
 have e3 : shl .u64 1 (s : Int) = 2 ^ s := by
  have := shl_u64 (x := 1) (s := s) (by omega)
  have h64 : (2 : Int) ^ s ≤ 2 ^ 62 := two_pow_mono (by omega)
  have e62 : (2 : Int) ^ 62 = 4611686018427387904 := by decide
  rw [this, Int.one_mul]
  omega
 have h62 : (2 : Int) ^ s ≤ 2 ^ 62 := two_pow_mono (by omega)
 have e62 : (2 : Int) ^ 62 = 4611686018427387904 := by decide
 have e4 : IntKind.u64.wrap (2 ^ s - 1) = 2 ^ s - 1 := u64w (by omega) (by omega)
 have e5 : Go.bits .and .u64 m (2 ^ s - 1) = m % 2 ^ s := and_mask s rfl (by omega) h0 (by omega)
 have d0 : 0 ≤ m / 2 ^ s := Int.ediv_nonneg h0 (Int.le_of_lt hp)
 have d1 : m / 2 ^ s ≤ m := Int.ediv_le_self _ h0
 have e6 : Go.bits .and .u64 (m / 2 ^ s) 1 = m / 2 ^ s % 2 := and_one d0 (by omega)
 have q0 : 0 ≤ m / 2 ^ (s + 1) := Int.ediv_nonneg h0 (Int.le_of_lt (two_pow_pos _))
 have q1 : m / 2 ^ (s + 1) ≤ m := Int.ediv_le_self _ h0
 have b1 : (m / 2 ^ s % 2 == 1) = decide (m / 2 ^ s % 2 = 1) := rfl
 have b2 : (m % 2 ^ s != 0) = decide (m % 2 ^ s ≠ 0) := by
  by_cases c : m % 2 ^ s = 0
  ·
   rw [c]; rfl
  ·
   rw [decide_eq_true c]; exact bne_iff_ne.2 c
 have hD := two_pow_pos n
 have hrest := qhs_rest (m := m) hD
 rw [hq] at hrest
 have hw : wq neg m (2 ^ n) mode = if rup neg (m / 2 ^ (s + 1)) (decide (m / 2 ^ s % 2 = 1)) (decide (m % 2 ^ s ≠ 0)) mode = true then m / 2 ^ (s + 1) + 1 else m / 2 ^ (s + 1) := by
  have h' : m / 2 ^ n = m / 2 ^ (s + 1) := congrArg Prod.fst hq
  unfold wq wup
  rw [hq, h']
 have hr2 : decide (m % 2 ^ n ≠ 0) = decide (¬ (decide (m / 2 ^ s % 2 = 1) = false ∧ decide (m % 2 ^ s ≠ 0) = false)) := decide_eq_decide.2 (not_congr hrest).symm
 have hj := near_j0 neg mode (m / 2 ^ (s + 1)) (decide (m / 2 ^ s % 2 = 1)) (decide (m % 2 ^ s ≠ 0)) q0 (by omega)
 rw [hw, hr2]
 unfold fconv_near.f
 rw [hs, e1, e2, e3, e4, e5, e6, b1, b2, Int.toNat_natCast]
 refine Ev.congr (fun k => (if_pos (by omega)).trans (if_pos (by omega))) ?_
 by_cases c : m / 2 ^ s % 2 = 1
 ·
  refine Ev.congr (fun k => if_pos c) (hj false ?_)
  rw [decide_eq_true c]
  simp
 ·
  refine Ev.congr (fun k => if_neg c) (hj _ ?_)
  rw [decide_eq_false c]
  cases decide (m % 2 ^ s ≠ 0) <;> simp
theorem round_zero (neg : Bool) (y mode : Int) : Ev (fun k => parts_Round.f k neg 0 0 y false mode) (rzero neg, 0) := by
 have hl := len_some (hi := 0) (lo := 0) (by decide) (by decide) (by decide) (by decide)
 unfold parts_Round.f
 refine Ev.bind (g := fun _ => parts_wide_len.f 0 0) (a := 0) (Ev.congr (fun _ => hl) (Ev.now _)) (Ev.congr (fun k => if_pos rfl) ?_)
 exact Ev.bind (g := fun _ => parts_Zero.f neg) (Ev.congr (fun _ => zero_some neg) (Ev.now _)) (Ev.now _)
theorem rzero_parts (neg : Bool) : fneg (rzero neg) = neg ∧ fex (rzero neg) = 0 ∧ fman (rzero neg) = 0 ∧ fxp (rzero neg) = -1074 := by cases neg <;> decide
theorem up2_split {p c : Int} (h : c ≤ p) : up2 (p - c) * up2 c * up2 (-p) = up2 p * up2 (-c) := by
 by_cases hc : 0 ≤ c
 ·
  rw [up2_neg (a := -c) (by omega), up2_neg (a := -p) (by omega), ← up2_add (by omega) hc, show p - c + c = p by omega]
 ·
  rw [up2_neg (a := c) (by omega), Int.mul_one]
  by_cases hp : 0 ≤ p
  ·
   rw [up2_neg (a := -p) (by omega), Int.mul_one, show p - c = p + -c by omega, up2_add hp (by omega)]
  ·
   rw [up2_neg (a := p) (by omega), Int.one_mul, ← up2_add (by omega) (by omega), show p - c + -p = -c by omega]
def wval (a mode : Int) : Int := if fxp a < 0 then wq (fneg a) (fman a) (2 ^ (-fxp a).toNat) mode else fman a * 2 ^ (fxp a).toNat
def wfl (a : Int) : Bool := decide (fxp a < 0 ∧ fman a % 2 ^ (-fxp a).toNat ≠ 0)
theorem wq_range (neg : Bool) {m D : Int} (mode : Int) (h0 : 0 ≤ m) (h1 : m < 9007199254740992) (hD : 2 ≤ D) : 0 ≤ wq neg m D mode ∧ wq neg m D mode < 9007199254740992 := by
 have a := Int.ediv_nonneg h0 (show 0 ≤ D by omega)
 have b : m / D ≤ m / 2 := by
  refine Int.le_ediv_of_mul_le (by decide) ?_
  have c : m / D * 2 ≤ m / D * D := Int.mul_le_mul_of_nonneg_left hD a
  have d : m / D * D ≤ m := Int.ediv_mul_le m (by omega)
  omega
 unfold wq
 split <;> omega
theorem fwhole_ev {a : Int} (a0 : 0 ≤ a) (a1 : a < 18446744073709551616) (hf : fex a ≠ 2047) (mode : Int) :
  ∃ t, Ev (fun k => fconv_Whole.f k a mode) (t, if wfl a = true then 16 else 0) ∧ 0 ≤ t ∧ t < 18446744073709551616 ∧ fneg t = fneg a ∧ fex t ≠ 2047 ∧ fman t * up2 (fxp t) = wval a mode * up2 (-fxp t) := by
 have hc := fcls_range a
 have hcf := (fcls_fin (a := a)).2 hf
 have hs := split_some a0 a1 hf
 have hcl := class_ev a0 a1
 have mr := fman_range a
 have xr := fxp_range a
 by_cases c1 : fcls a = 1 ∧ fxp a < 0
 ·
  obtain ⟨n, hn⟩ : ∃ n : Nat, -fxp a = (n : Int) := ⟨(-fxp a).toNat, by omega⟩
  have hnear := near_ev (fneg a) mr.1 mr.2 n (by omega) (by omega) mode
  have hp2 : (2 : Int) ≤ 2 ^ n := by
   have := two_pow_mono (show 1 ≤ n by omega)
   omega
  have hwr := wq_range (fneg a) mode mr.1 mr.2 hp2
  have hwv : wval a mode = wq (fneg a) (fman a) (2 ^ n) mode := by
   unfold wval
   rw [if_pos c1.2, hn, Int.toNat_natCast]
  have hwf : wfl a = decide (fman a % 2 ^ n ≠ 0) := by
   unfold wfl
   rw [hn, Int.toNat_natCast]
   refine decide_eq_decide.2 ⟨fun h => h.2, fun h => ⟨c1.2, h⟩⟩
  rw [hwv, hwf]
  obtain ⟨W, hW⟩ : ∃ W, wq (fneg a) (fman a) (2 ^ n) mode = W := ⟨_, rfl⟩
  rw [hW] at hnear hwr ⊢
  have hround : ∃ t, Ev (fun k => parts_Round.f k (fneg a) 0 W 0 false 0) (t, 0) ∧ 0 ≤ t ∧ t < 18446744073709551616 ∧ fneg t = fneg a ∧ fex t ≠ 2047 ∧ fman t * up2 (fxp t) = W * up2 (-fxp t) := by
   by_cases hz : W = 0
   ·
    have hzp := rzero_parts (fneg a)
    refine ⟨rzero (fneg a), ?_, ?_, ?_, hzp.1, by rw [hzp.2.1]; decide, by rw [hzp.2.2.1, hz]; omega⟩
    ·
     rw [hz]
     exact round_zero _ _ _
    ·
     rcases rzero_or (fneg a) with h | h <;> omega
    ·
     rcases rzero_or (fneg a) with h | h <;> omega
   ·
    have hr := round_plain (fneg a) (hi := 0) (lo := W) 0 0 (by decide) (by decide) hwr.1 (by omega) (by omega) (by decide) (by decide)
    have e0 : 0 * 18446744073709551616 + W = W := by omega
    rw [e0] at hr
    obtain ⟨t, k, r1, r2, r3, r4, r5, r6, r7, r8⟩ := rnd_few (fneg a) (N := W) (x := 0) 0 (by omega) hwr.2 (by decide) (by decide)
    rw [r1] at hr
    refine ⟨t, hr, r2, r3, r4, r5, ?_⟩
    rw [r7, r8, up2_neg (a := 0 - k) (by omega), show -(0 - k) = k by omega, Int.mul_one]
  obtain ⟨t, e1, e2⟩ := hround
  refine ⟨t, ?_, e2⟩
  unfold fconv_Whole.f
  rw [hs]
  refine Ev.bind (g := fun _ => some (fneg a, fman a, fxp a, 0)) (Ev.now _) (Ev.bind hcl ?_)
  refine Ev.congr (fun k => (if_neg (by omega)).trans ((if_pos c1.1).trans (if_pos c1.2))) ?_
  rw [w64 (x := -fxp a) (by omega) (by omega), hn]
  refine Ev.bind hnear ?_
  by_cases cr : fman a % 2 ^ n ≠ 0
  ·
   rw [decide_eq_true cr, if_pos rfl]
   exact Ev.congr (fun k => if_pos rfl) (Ev.bind e1 (Ev.now _))
  ·
   rw [decide_eq_false cr, if_neg (by decide)]
   exact Ev.congr (fun k => if_neg Bool.false_ne_true) (Ev.bind e1 (Ev.now _))
 ·
  have hwhole : Ev (fun k => fconv_Whole.f k a mode) (a, 0) := by
   unfold fconv_Whole.f
   rw [hs]
   refine Ev.bind (g := fun _ => some (fneg a, fman a, fxp a, 0)) (Ev.now _) (Ev.bind hcl ?_)
   refine Ev.congr (fun k => if_neg (by omega)) ?_
   by_cases c2 : fcls a = 1
   ·
    exact Ev.congr (fun k => (if_pos c2).trans (if_neg (fun h => c1 ⟨c2, h⟩))) (Ev.now _)
   ·
    exact Ev.congr (fun k => if_neg c2) (Ev.now _)
  have hz : fxp a < 0 → fman a = 0 := by
   intro h
   have c2 : fcls a = 0 := by
    by_cases c2 : fcls a = 1
    ·
     exact absurd ⟨c2, h⟩ c1
    ·
     omega
   unfold fcls at c2
   rw [if_neg hf] at c2
   split at c2
   ·
    rename_i h2
    unfold fman
    rw [if_pos h2.1]
    exact h2.2
   ·
    omega
  have hwf : wfl a = false := by
   unfold wfl
   refine decide_eq_false ?_
   rintro ⟨h1, h2⟩
   rw [hz h1] at h2
   simp at h2
  refine ⟨a, ?_, a0, a1, rfl, hf, ?_⟩
  ·
   rw [hwf, if_neg (by decide)]
   exact hwhole
  ·
   unfold wval
   by_cases h : fxp a < 0
   ·
    have hD := two_pow_pos (-fxp a).toNat
    rw [if_pos h, hz h, Int.zero_mul]
    have : wq (fneg a) 0 (2 ^ (-fxp a).toNat) mode = 0 := by
     unfold wq
     rw [wup_exact hD (Int.zero_emod _), if_neg (by decide), Int.zero_ediv]
    rw [this, Int.zero_mul]
   ·
    rw [if_neg h, up2_neg (a := -fxp a) (by omega), Int.mul_one]
    rfl
theorem rput_top (neg : Bool) {q e : Int} (h0 : 4503599627370496 ≤ q) (h1 : q < 9007199254740992) (he : -1074 ≤ e) (he' : e ≤ 971) : rzero neg < rput neg q e ∧ rput neg q e < rzero neg + 9223372036854775808 := by
 unfold rput
 rw [if_neg (by omega)]
 omega
theorem rover_top (neg : Bool) (mode : Int) : rzero neg < (rover neg mode).1 ∧ (rover neg mode).1 < rzero neg + 9223372036854775808 := by
 unfold rover rinf
 split <;> (simp only; omega)
theorem rnd_top (neg : Bool) {N x : Int} (mode : Int) (hN : 0 < N) (hx : -1021 ≤ bitsOf N + x) : rzero neg < (rnd neg N x mode).1 ∧ (rnd neg N x mode).1 < rzero neg + 9223372036854775808 := by
 have hr : rexp (bitsOf N) x = bitsOf N + x - 53 := by unfold rexp; rw [if_neg (by omega)]
 have hq := qx_lt (N := N) (x := x) (e := rexp (bitsOf N) x) (by omega) (by omega)
 have hq2 := qx_ge (N := N) (x := x) hN
 unfold rnd
 rw [hr] at hq ⊢
 generalize qx N x (bitsOf N + x - 53) = p at hq hq2 ⊢
 obtain ⟨q, h, s⟩ := p
 simp only at hq hq2
 have he : -1074 ≤ bitsOf N + x - 53 := by omega
 generalize bitsOf N + x - 53 = e at he ⊢
 have hp : ∀ q2 e2 : Int, 4503599627370496 ≤ q2 → q2 < 9007199254740992 → -1074 ≤ e2 → ∀ fl, rzero neg < (if 4503599627370496 ≤ q2 ∧ 971 < e2 then rover neg mode else (rput neg q2 e2, fl)).1 ∧ (if 4503599627370496 ≤ q2 ∧ 971 < e2 then rover neg mode else (rput neg q2 e2, fl)).1 < rzero neg + 9223372036854775808 := by
  intro q2 e2 a b c fl
  by_cases d : 4503599627370496 ≤ q2 ∧ 971 < e2
  ·
   rw [if_pos d]
   exact rover_top neg mode
  ·
   rw [if_neg d]
   exact rput_top neg a b c (by omega)
 unfold rfin
 generalize rup neg (q, h, s).1 (q, h, s).2.1 (q, h, s).2.2 mode = u
 have hq3 : 4503599627370496 ≤ (if u = true then q + 1 else q) ∧ (if u = true then q + 1 else q) ≤ 9007199254740992 := by split <;> omega
 generalize hq1 : (if u = true then q + 1 else q) = q1 at hq3
 by_cases c : 9007199254740992 ≤ q1
 ·
  have := hp (q1 / 2) (e + 1) (by omega) (by omega) (by omega)
  simp only [hq1, if_pos c]
  exact this _
 ·
  have := hp q1 e (by omega) (by omega) (by omega)
  simp only [hq1, if_neg c]
  exact this _
theorem from62 : ∃ t, Ev (fun k => fconv_FromInt.f k 4611686018427387904 0) (t, 0) ∧ 0 ≤ t ∧ t < 18446744073709551616 ∧ fneg t = false ∧ fex t ≠ 2047 ∧ 0 ≤ fxp t ∧ fman t * up2 (fxp t) = 4611686018427387904 := by
 have hr := round_plain false (hi := 0) (lo := 4611686018427387904) 0 0 (by decide) (by decide) (by decide) (by decide) (by decide) (by decide) (by decide)
 have hs := rnd_shift false (W := 1) (by decide) 62 62 0
 have e1 : (1 : Int) * 2 ^ 62 = 0 * 18446744073709551616 + 4611686018427387904 := by decide
 have e2 : (62 : Int) - ((62 : Nat) : Int) = 0 := by decide
 rw [e1, e2] at hs
 rw [hs] at hr
 obtain ⟨t, k, r1, r2, r3, r4, r5, r6, r7, r8⟩ := rnd_few false (N := 1) (x := 62) 0 (by decide) (by decide) (by decide) (by decide)
 rw [r1] at hr
 have hk : k ≤ 62 := by
  by_cases h : k ≤ 62
  ·
   exact h
  ·
   exfalso
   have h1 := up2_mono (show 62 ≤ k by omega)
   have h2 : up2 62 = 4611686018427387904 := by decide
   have h3 := (fman_range t).2
   omega
 refine ⟨t, ?_, r2, r3, r4, r5, by omega, ?_⟩
 ·
  unfold fconv_FromInt.f
  refine Ev.congr (fun k => (if_neg (by decide)).trans (if_neg (by decide))) ?_
  exact Ev.bind hr (Ev.now _)
 ·
  rw [r7, r8, Int.one_mul, ← up2_add (by omega) (by omega), show k + (62 - k) = 62 by omega]
  decide
theorem abs_parts {t : Int} (t0 : 0 ≤ t) (t1 : t < 18446744073709551616) : fneg (t % 9223372036854775808) = false ∧ fex (t % 9223372036854775808) = fex t ∧ fman (t % 9223372036854775808) = fman t ∧ fxp (t % 9223372036854775808) = fxp t := by
 have e1 : fex (t % 9223372036854775808) = fex t := by unfold fex; omega
 have e2 : ffr (t % 9223372036854775808) = ffr t := by unfold ffr; omega
 refine ⟨decide_eq_false (by omega), e1, ?_, ?_⟩
 ·
  unfold fman; rw [e1, e2]
 ·
  unfold fxp; rw [e1]
theorem sub62 {t b W : Int} (t0 : 0 ≤ t) (t1 : t < 18446744073709551616) (ht : fex t ≠ 2047) (b0 : 0 ≤ b) (b1 : b < 18446744073709551616) (hbn : fneg b = false) (hb : fex b ≠ 2047) (hbx : 0 ≤ fxp b) (hbv : fman b * up2 (fxp b) = 4611686018427387904) (hW : fman t * up2 (fxp t) = W * up2 (-fxp t)) :
  ∃ z f, Ev (fun k => fadd_Sub.f k (t % 9223372036854775808) b 0) (z, f) ∧ (W = 4611686018427387904 → z = 0) ∧ (W < 4611686018427387904 → 9223372036854775808 < z ∧ z < 18446744073709551616) ∧ (4611686018427387904 < W → 0 < z ∧ z < 9223372036854775808) := by
 obtain ⟨p1, p2, p3, p4⟩ := abs_parts t0 t1
 have e := fsub_ev (a := t % 9223372036854775808) (b := b) (by omega) (by omega) b0 b1 0
 have hcb : fcls b ≤ 1 := (fcls_fin (a := b)).2 hb
 rw [if_neg (by omega)] at e
 have hfl : (if b < 9223372036854775808 then b + 9223372036854775808 else b - 9223372036854775808) = fflip b := rfl
 rw [hfl] at e
 obtain ⟨q1, q2, q3⟩ := fflip_man b0 b1
 obtain ⟨q4, q5, q6⟩ := fflip_parts b0 b1
 have hct : fcls (t % 9223372036854775808) ≤ 1 := (fcls_fin (a := t % 9223372036854775808)).2 (by rw [p2]; exact ht)
 rw [addS_fin 0 hct (by rw [q3]; exact hcb), p1, p3, p4, q1, q2, q4, hbn] at e
 obtain ⟨r, hr⟩ : ∃ r, rsum false (fman t) (fxp t) (!false) (fman b) (fxp b) 0 = r := ⟨_, rfl⟩
 rw [hr] at e
 refine ⟨r.1, r.2, e, ?_⟩
 rw [← hr]
 obtain ⟨m1, m2, m3⟩ := mn_le (fxp t) (fxp b)
 obtain ⟨c, hc⟩ : ∃ c, mn (fxp t) (fxp b) = c := ⟨_, rfl⟩
 rw [hc] at m1 m2 m3
 have s1 := up2_split (p := fxp t) (c := c) m1
 have s2 := up2_split (p := fxp b) (c := c) m2
 have u0 := up2_pos c
 have u1 := up2_pos (-c)
 have u2 := up2_pos (-fxp t)
 have hb' : up2 (-fxp b) = 1 := up2_neg (by omega)
 rw [hb', Int.mul_one] at s2
 have v1 : up2 (fxp t - c) * fman t * up2 c = W * up2 (-c) := by
  have h : (up2 (fxp t - c) * fman t * up2 c) * up2 (-fxp t) = (W * up2 (-c)) * up2 (-fxp t) := by
   have a1 : (up2 (fxp t - c) * fman t * up2 c) * up2 (-fxp t) = fman t * (up2 (fxp t - c) * up2 c * up2 (-fxp t)) := by grind
   have a2 : fman t * (up2 (fxp t) * up2 (-c)) = (fman t * up2 (fxp t)) * up2 (-c) := by grind
   rw [a1, s1, a2, hW]
   grind
  exact Int.eq_of_mul_eq_mul_right (by omega) h
 have v2 : up2 (fxp b - c) * fman b * up2 c = 4611686018427387904 * up2 (-c) := by
  have a1 : up2 (fxp b - c) * fman b * up2 c = fman b * (up2 (fxp b - c) * up2 c) := by grind
  have a2 : fman b * (up2 (fxp b) * up2 (-c)) = (fman b * up2 (fxp b)) * up2 (-c) := by grind
  rw [a1, s2, a2, hbv]
 unfold rsum
 rw [hc, sv_ff, show (!false) = true from rfl, sv_tt]
 generalize up2 (fxp t - c) * fman t = X at *
 generalize up2 (fxp b - c) * fman b = Y at *
 have v3 : (X + -Y) * up2 c = (W - 4611686018427387904) * up2 (-c) := by
  have a1 : (X + -Y) * up2 c = X * up2 c - Y * up2 c := by grind
  rw [a1, v1, v2]
  grind
 obtain ⟨D, hD⟩ : ∃ D, X + -Y = D := ⟨_, rfl⟩
 rw [hD] at v3 ⊢
 have hbits : ∀ n : Int, 0 < n → n * up2 c ≥ up2 (-c) → -1021 ≤ bitsOf n + c := by
  intro n hn h
  have hp := bitsOf_pos hn
  by_cases hc0 : 0 ≤ c
  ·
   omega
  ·
   rw [up2_neg (a := c) (by omega), Int.mul_one] at h
   have h2 : (2 : Int) ^ (-c).toNat ≤ n := h
   have := bitsOf_ge h2
   omega
 rcases Int.lt_trichotomy W 4611686018427387904 with h | h | h
 ·
  have hneg : D < 0 := by
   by_cases hd : D < 0
   ·
    exact hd
   ·
    exfalso
    have a1 : 0 ≤ D * up2 c := Int.mul_nonneg (by omega) (by omega)
    have a2 : (W - 4611686018427387904) * up2 (-c) ≤ (-1) * up2 (-c) := Int.mul_le_mul_of_nonneg_right (by omega) (by omega)
    omega
  rw [if_neg (by omega), decide_eq_true hneg]
  have a2 : (W - 4611686018427387904) * up2 (-c) ≤ (-1) * up2 (-c) := Int.mul_le_mul_of_nonneg_right (by omega) (by omega)
  have a3 : (D.natAbs : Int) = -D := by omega
  have ht := rnd_top true (N := (D.natAbs : Int)) (x := c) 0 (by omega) (hbits _ (by omega) (by
   have : (D.natAbs : Int) * up2 c = -(D * up2 c) := by rw [a3]; grind
   omega))
  have hz : rzero true = 9223372036854775808 := rfl
  rw [hz] at ht
  exact ⟨fun e => by omega, fun _ => by omega, fun e => by omega⟩
 ·
  have hz : D = 0 := by
   have a1 : D * up2 c = 0 := by rw [v3, h]; simp
   rcases Int.mul_eq_zero.1 a1 with a | a
   ·
    exact a
   ·
    omega
  rw [if_pos hz]
  exact ⟨fun _ => rfl, fun e => by omega, fun e => by omega⟩
 ·
  have hpos : 0 < D := by
   by_cases hd : 0 < D
   ·
    exact hd
   ·
    exfalso
    have a1 : D * up2 c ≤ 0 * up2 c := Int.mul_le_mul_of_nonneg_right (by omega) (by omega)
    have a2 : 1 * up2 (-c) ≤ (W - 4611686018427387904) * up2 (-c) := Int.mul_le_mul_of_nonneg_right (by omega) (by omega)
    omega
  rw [if_neg (by omega), decide_eq_false (by omega)]
  have a2 : 1 * up2 (-c) ≤ (W - 4611686018427387904) * up2 (-c) := Int.mul_le_mul_of_nonneg_right (by omega) (by omega)
  have a3 : (D.natAbs : Int) = D := by omega
  have ht := rnd_top false (N := (D.natAbs : Int)) (x := c) 0 (by omega) (hbits _ (by omega) (by
   rw [a3]
   omega))
  have hz : rzero false = 0 := rfl
  rw [hz] at ht
  exact ⟨fun e => by omega, fun e => by omega, fun _ => by omega⟩
end Go.Proofs.YtjgdpjbkmcjbcaaDoor.PG
end
