/- What natdiv's inner functions compute: two words by one, a digit of a quotient. -/
import Derived.Test.YtkjhjlnjkohlbaaZRatioTells46
import Derived.Laws.Bits64
namespace Go.Proofs.Ytkjhjlnjkohlbaa.PR
open Go.RowKit Go.Proofs.YtkjhjlnjkohlbaaW.PrintWords Go.Proofs.YtkjhjlnjkohlbaaW.PrintLast Go.Proofs.YtkjhjlnjkohlbaaW.PrintMore Go.Proofs.Ytkjhjlnjkohlbaa.Num
set_option linter.unusedVariables false
set_option linter.unusedSimpArgs false
theorem or_zero {x : Int} (h0 : 0 ≤ x) (h1 : x < 18446744073709551616) : Go.bits .or .u64 x 0 = x := by
 have := or_high (s := 0) (x := x) (c := 0) h0 h1 (by omega) (by omega) (by decide) (by decide)
 omega
theorem and_low32 {x : Int} (h0 : 0 ≤ x) (h1 : x < 18446744073709551616) : Go.bits .and .u64 x 4294967295 = x % 4294967296 := by
 have e : (2 : Int) ^ 32 - 1 = 4294967295 := by decide
 rw [← e]
 exact bits_mask .u64 64 (by decide) wraps_u64 32 (by decide) x h0 h1
theorem lz_top {x : Int} (h1 : x < 18446744073709551616) (h : 18446744073709551616 ≤ 2 * x) : bits_LeadingZeros64.f x = some 0 := by
 unfold bits_LeadingZeros64.f
 rw [len64_some (by omega) h1]
 have hb : bitsOf x = 64 := by
  refine (bitsOf_eq ⟨by omega, by omega, by simpa using h1, .inr ?_⟩).symm
  have e : (2 : Int) ^ ((64 : Int).toNat - 1) = 9223372036854775808 := by decide
  rw [e]
  omega
 rw [hb]
 simp only [Option.bind_some]
 rw [w64 (by omega) (by omega)]
 rfl
theorem knuth_first {u y1 y0 : Int} (hy : 2147483648 ≤ y1) (h0 : 0 ≤ y0) (h1 : y0 < 4294967296) (hu0 : 0 ≤ u) (hu : u < y1 * 4294967296 + y0) : u / y1 ≤ 4294967297 := by
 have h2 : u < 4294967298 * y1 := by omega
 have := Int.ediv_lt_of_lt_mul (by omega) h2
 omega
theorem knuth_over {u y1 y0 c q r : Int} (hI : q * y1 + r = u) (h : q * y0 > 4294967296 * r + c) : u * 4294967296 + c < q * (y1 * 4294967296 + y0) := by
 have : q * (y1 * 4294967296 + y0) = (q * y1) * 4294967296 + q * y0 := by grind
 rw [this]
 omega
theorem knuth_under {u y1 y0 c q r : Int} (hI : q * y1 + r = u) (h : q * y0 ≤ 4294967296 * r + c) : q * (y1 * 4294967296 + y0) ≤ u * 4294967296 + c := by
 have : q * (y1 * 4294967296 + y0) = (q * y1) * 4294967296 + q * y0 := by grind
 rw [this]
 omega
theorem emod_le' {x y : Int} (hx : 0 ≤ x) (hy : 0 < y) : x % y ≤ x := by
 have h1 := Int.emod_add_mul_ediv x y
 have h2 := Int.mul_nonneg (Int.le_of_lt hy) (Int.ediv_nonneg hx (Int.le_of_lt hy))
 omega
theorem quot_lt {q x y : Int} (hy : 0 < y) (h : x < q * y) : x / y ≤ q - 1 := by
 have := Int.ediv_lt_of_lt_mul hy h
 omega
theorem quot_ge {q x y : Int} (hy : 0 < y) (h : q * y ≤ x) : q ≤ x / y := Int.le_ediv_of_mul_le hy h
theorem quot_high {u c y : Int} (hy : 0 < y) (hu0 : 0 ≤ u) (hu : u < y) (hc0 : 0 ≤ c) (hc : c < 4294967296) : (u * 4294967296 + c) / y < 4294967296 := by
 refine Int.ediv_lt_of_lt_mul hy ?_
 omega
theorem quot_nonneg {u c y : Int} (hy : 0 < y) (hu0 : 0 ≤ u) (hc0 : 0 ≤ c) : 0 ≤ (u * 4294967296 + c) / y := Int.ediv_nonneg (by omega) (by omega)
theorem knuth_j {u y1 y0 c q r : Int} {y : Int} (hy : y = y1 * 4294967296 + y0) (hy1 : 2147483648 ≤ y1) (hy1' : y1 < 4294967296) (hy0 : 0 ≤ y0) (hy0' : y0 < 4294967296) (hu0 : 0 ≤ u) (hu : u < y) (hc0 : 0 ≤ c) (hc : c < 4294967296)
  (hr0 : 0 ≤ r) (hr : r < 4294967296) (hI : Aside0 (q * y1 + r = u)) (hq : (u * 4294967296 + c) / y ≤ q) (hq' : q ≤ 4294967297) :
  (q ≥ 4294967296 ∨ IntKind.u64.wrap (q * y0) > IntKind.u64.wrap (IntKind.u64.wrap (4294967296 * r) + c)) ∧ IntKind.u64.wrap (q - 1) = q - 1 ∧ IntKind.u64.wrap (r + y1) = r + y1 ∧ Aside0 ((q - 1) * y1 + (r + y1) = u) ∧ (u * 4294967296 + c) / y ≤ q - 1 ∧ (4294967296 ≤ r + y1 → q - 1 = (u * 4294967296 + c) / y) ∨
  ¬ q ≥ 4294967296 ∧ ¬ IntKind.u64.wrap (q * y0) > IntKind.u64.wrap (IntKind.u64.wrap (4294967296 * r) + c) ∧ q = (u * 4294967296 + c) / y := by
 have hyp : 0 < y := by omega
 have g0 := quot_nonneg hyp hu0 hc0
 have g1 := quot_high hyp hu0 hu hc0 hc
 have a1 : IntKind.u64.wrap (4294967296 * r) = 4294967296 * r := u64w (by omega) (by omega)
 have a2 : IntKind.u64.wrap (4294967296 * r + c) = 4294967296 * r + c := u64w (by omega) (by omega)
 rw [a1, a2]
 have key : (q ≥ 4294967296 ∨ q * y0 > 4294967296 * r + c) → (u * 4294967296 + c) / y ≤ q - 1 := by
  rintro (h | h)
  ·
   omega
  ·
   have := knuth_over hI.out h
   rw [← hy] at this
   exact quot_lt hyp this
 have done : (u * 4294967296 + c) / y ≤ q - 1 → 4294967296 ≤ r + y1 → q - 1 = (u * 4294967296 + c) / y := by
  intro hle h
  have e1 : (q - 1) * y1 + (r + y1) = u := by have := hI.out; grind
  have e2 : (q - 1) * y0 ≤ 4294967296 * (r + y1) + c := by
   have : (q - 1) * y0 ≤ 4294967296 * y0 := Int.mul_le_mul_of_nonneg_right (by omega) hy0
   omega
  have := knuth_under e1 e2
  rw [← hy] at this
  have := quot_ge hyp this
  omega
 have e1 : Aside0 ((q - 1) * y1 + (r + y1) = u) := ⟨by have := hI.out; grind⟩
 by_cases hb : q ≥ 4294967296
 ·
  have hle := key (.inl hb)
  exact .inl ⟨.inl hb, u64w (by omega) (by omega), u64w (by omega) (by omega), e1, hle, done hle⟩
 ·
  have hq0 : 0 ≤ q := by omega
  have hm0 : 0 ≤ q * y0 := Int.mul_nonneg hq0 hy0
  have hm : q * y0 < 18446744073709551616 := by
   have : q * y0 ≤ 4294967296 * y0 := Int.mul_le_mul_of_nonneg_right (by omega) hy0
   omega
  rw [u64w hm0 hm]
  by_cases ht : q * y0 > 4294967296 * r + c
  ·
   have hle := key (.inr ht)
   exact .inl ⟨.inr ht, u64w (by omega) (by omega), u64w (by omega) (by omega), e1, hle, done hle⟩
  ·
   refine .inr ⟨hb, ht, ?_⟩
   have := knuth_under hI.out (show q * y0 ≤ 4294967296 * r + c by omega)
   rw [← hy] at this
   have := quot_ge hyp this
   omega
theorem div64_l0 {y y1 y0 u c : Int} (s un0 : Int) (hy : y = y1 * 4294967296 + y0) (hy1 : 2147483648 ≤ y1) (hy1' : y1 < 4294967296) (hy0 : 0 ≤ y0) (hy0' : y0 < 4294967296) (hu0 : 0 ≤ u) (hu : u < y) (hc0 : 0 ≤ c) (hc : c < 4294967296) {X : Int × Int}
  (hX : Ev (fun k => bits_Div64.j2 k y s y1 y0 u c un0 ((u * 4294967296 + c) / y)) X) : ∀ (n : Nat) (q r : Int), (4294967296 - r).toNat ≤ n → 0 ≤ r → r < 4294967296 → Aside0 (q * y1 + r = u) → (u * 4294967296 + c) / y ≤ q → q ≤ 4294967297 →
   Ev (fun k => bits_Div64.l0 k y s y1 y0 u c un0 q r) X
 | 0, q, r, hn, hr0, hr, _, _, _ => by omega
 | n + 1, q, r, hn, hr0, hr, hI, hq, hq' => by
  rcases knuth_j hy hy1 hy1' hy0 hy0' hu0 hu hc0 hc hr0 hr hI hq hq' with ⟨ht, w1, w2, e1, e2, e3⟩ | ⟨h1, h2, h3⟩
  ·
   have hj : Ev (fun k => bits_Div64.j1 k y s y1 y0 u c un0 q r true) X := by
    by_cases hs : 4294967296 ≤ r + y1
    ·
     refine Ev.step (f := fun k => bits_Div64.j2 k y s y1 y0 u c un0 ((u * 4294967296 + c) / y)) (fun k => ?_) hX
     simp only [bits_Div64.j1]
     rw [if_pos trivial, w2, if_pos hs, w1, e3 hs]
    ·
     refine Ev.step (f := fun k => bits_Div64.l0 k y s y1 y0 u c un0 (q - 1) (r + y1)) (fun k => ?_) (div64_l0 s un0 hy hy1 hy1' hy0 hy0' hu0 hu hc0 hc hX n (q - 1) (r + y1) (by omega) (by omega) (by omega) e1 e2 (by omega))
     simp only [bits_Div64.j1]
     rw [if_pos trivial, w2, if_neg hs, w1]
   refine Ev.step (f := fun k => bits_Div64.j1 k y s y1 y0 u c un0 q r true) (fun k => ?_) hj
   simp only [bits_Div64.l0]
   by_cases hb : q ≥ 4294967296
   ·
    rw [if_pos hb]
   ·
    rw [if_neg hb, decide_eq_true (ht.resolve_left hb)]
  ·
   refine Ev.step (f := fun k => bits_Div64.j1 k y s y1 y0 u c un0 q r false) (fun k => ?_) (Ev.step (f := fun k => bits_Div64.j2 k y s y1 y0 u c un0 q) (fun k => ?_) (h3 ▸ hX))
   ·
    simp only [bits_Div64.l0]
    rw [if_neg h1, decide_eq_false h2]
   ·
    simp only [bits_Div64.j1]
    rw [if_neg (by decide)]
theorem div64_l1 {y y1 y0 u c : Int} (s q1 z : Int) (hy : y = y1 * 4294967296 + y0) (hy1 : 2147483648 ≤ y1) (hy1' : y1 < 4294967296) (hy0 : 0 ≤ y0) (hy0' : y0 < 4294967296) (hu0 : 0 ≤ u) (hu : u < y) (hc0 : 0 ≤ c) (hc : c < 4294967296) (hs : 0 ≤ s) : ∀ (n : Nat) (q r : Int), (4294967296 - r).toNat ≤ n → 0 ≤ r → r < 4294967296 → Aside0 (q * y1 + r = u) → (u * 4294967296 + c) / y ≤ q → q ≤ 4294967297 →
   ∃ x, Ev (fun k => bits_Div64.l1 k y s y1 y0 c q1 r z q) (IntKind.u64.wrap (IntKind.u64.wrap (q1 * 4294967296) + (u * 4294967296 + c) / y), x)
 | 0, q, r, hn, hr0, hr, _, _, _ => by omega
 | n + 1, q, r, hn, hr0, hr, hI, hq, hq' => by
  rcases knuth_j hy hy1 hy1' hy0 hy0' hu0 hu hc0 hc hr0 hr hI hq hq' with ⟨ht, w1, w2, e1, e2, e3⟩ | ⟨h1, h2, h3⟩
  ·
   have hj : ∃ x, Ev (fun k => bits_Div64.j4 k y s y1 y0 c q1 r z q true) (IntKind.u64.wrap (IntKind.u64.wrap (q1 * 4294967296) + (u * 4294967296 + c) / y), x) := by
    by_cases hs' : 4294967296 ≤ r + y1
    ·
     refine ⟨shr .u64 (IntKind.u64.wrap ((IntKind.u64.wrap ((IntKind.u64.wrap (z * 4294967296)) + c)) - (IntKind.u64.wrap ((q - 1) * y)))) s, Ev.step (f := fun _ => some (IntKind.u64.wrap (IntKind.u64.wrap (q1 * 4294967296) + (u * 4294967296 + c) / y), shr .u64 (IntKind.u64.wrap ((IntKind.u64.wrap ((IntKind.u64.wrap (z * 4294967296)) + c)) - (IntKind.u64.wrap ((q - 1) * y)))) s)) (fun k => ?_) (Ev.now _)⟩
     simp only [bits_Div64.j4]
     rw [if_pos trivial, w2, if_pos hs', if_pos hs, w1, ← e3 hs']
    ·
     obtain ⟨x, hx⟩ := div64_l1 s q1 z hy hy1 hy1' hy0 hy0' hu0 hu hc0 hc hs n (q - 1) (r + y1) (by omega) (by omega) (by omega) e1 e2 (by omega)
     refine ⟨x, Ev.step (f := fun k => bits_Div64.l1 k y s y1 y0 c q1 (r + y1) z (q - 1)) (fun k => ?_) hx⟩
     simp only [bits_Div64.j4]
     rw [if_pos trivial, w2, if_neg hs', w1]
   obtain ⟨x, hj⟩ := hj
   refine ⟨x, Ev.step (f := fun k => bits_Div64.j4 k y s y1 y0 c q1 r z q true) (fun k => ?_) hj⟩
   simp only [bits_Div64.l1]
   by_cases hb : q ≥ 4294967296
   ·
    rw [if_pos hb]
   ·
    rw [if_neg hb, decide_eq_true (ht.resolve_left hb)]
  ·
   refine ⟨shr .u64 (IntKind.u64.wrap ((IntKind.u64.wrap ((IntKind.u64.wrap (z * 4294967296)) + c)) - (IntKind.u64.wrap (q * y)))) s, Ev.step (f := fun k => bits_Div64.j4 k y s y1 y0 c q1 r z q false) (fun k => ?_) (Ev.step (f := fun k => some (_, _)) (fun k => ?_) (Ev.now _))⟩
   ·
    simp only [bits_Div64.l1]
    rw [if_neg h1, decide_eq_false h2]
   ·
    simp only [bits_Div64.j4]
    rw [if_neg (by decide), if_pos hs, ← h3]
theorem div64_ev {x0 x1 y : Int} (hx0 : 0 ≤ x0) (hxy : x0 < y) (h10 : 0 ≤ x1) (h11 : x1 < 18446744073709551616) (hy : y < 18446744073709551616) (htop : 18446744073709551616 ≤ 2 * y) : ∃ x, Ev (fun k => bits_Div64.f k x0 x1 y) ((x0 * 18446744073709551616 + x1) / y, x) := by
 unfold bits_Div64.f
 by_cases hz : x0 = 0
 ·
  subst hz
  refine ⟨Int.tmod x1 y, Ev.congr (fun k => if_neg (by omega)) (Ev.congr (fun k => if_neg (by omega)) (Ev.congr (fun k => if_pos rfl) ?_))⟩
  have h0 : 0 ≤ x1 / y := Int.ediv_nonneg h10 (by omega)
  have h1 : x1 / y ≤ x1 := Int.ediv_le_self _ h10
  rw [Int.tdiv_eq_ediv_of_nonneg h10, u64w h0 (by omega), Int.zero_mul, Int.zero_add]
  exact Ev.now _
 ·
  have s0 : shl .u64 y 0 = y := by
   have := shl_u64 (x := y) (s := 0) (by decide)
   simp only [Int.pow_zero, Int.mul_one] at this
   rw [show ((0 : Nat) : Int) = 0 from rfl] at this
   rw [this]; omega
  have s1 : shl .u64 x0 0 = x0 := by
   have := shl_u64 (x := x0) (s := 0) (by decide)
   simp only [Int.pow_zero, Int.mul_one] at this
   rw [show ((0 : Nat) : Int) = 0 from rfl] at this
   rw [this]; omega
  have s2 : shl .u64 x1 0 = x1 := by
   have := shl_u64 (x := x1) (s := 0) (by decide)
   simp only [Int.pow_zero, Int.mul_one] at this
   rw [show ((0 : Nat) : Int) = 0 from rfl] at this
   rw [this]; omega
  have s3 : shr .u64 x1 64 = 0 := by
   have := shr_u64 (x := x1) (s := 64) (by decide)
   rw [show ((64 : Nat) : Int) = 64 from rfl] at this
   rw [this, show (2 : Int) ^ 64 = 18446744073709551616 by decide]
   omega
  have w0 : IntKind.u64.wrap 0 = 0 := by decide
  have w64' : IntKind.u64.wrap (64 - 0) = 64 := by decide
  have e0 : IntKind.u64.wrap (Int.tdiv x0 (y / 4294967296)) = x0 / (y / 4294967296) := by
   rw [Int.tdiv_eq_ediv_of_nonneg hx0]
   exact u64w (Int.ediv_nonneg hx0 (by omega)) (by have := Int.ediv_le_self (y / 4294967296) hx0; omega)
  have d0 := Int.emod_add_mul_ediv x0 (y / 4294967296)
  have d1 := Int.emod_lt_of_pos x0 (show 0 < y / 4294967296 by omega)
  have d2 := Int.emod_nonneg x0 (show y / 4294967296 ≠ 0 by omega)
  have hI : Aside0 (x0 / (y / 4294967296) * (y / 4294967296) + x0 % (y / 4294967296) = x0) := ⟨by grind⟩
  have e1 : IntKind.u64.wrap (x0 - IntKind.u64.wrap (x0 / (y / 4294967296) * (y / 4294967296))) = x0 % (y / 4294967296) := by
   have a1 : x0 / (y / 4294967296) * (y / 4294967296) = x0 - x0 % (y / 4294967296) := by have := hI.out; omega
   have a2 := emod_le' hx0 (show 0 < y / 4294967296 by omega)
   rw [a1, u64w (x := x0 - x0 % (y / 4294967296)) (by omega) (by omega), u64w (by omega) (by omega)]
   omega
  have hk := knuth_first (u := x0) (y1 := y / 4294967296) (y0 := y % 4294967296) (by omega) (by omega) (by omega) hx0 (by omega)
  have hq0 : (x0 * 4294967296 + x1 / 4294967296) / y ≤ x0 / (y / 4294967296) := by
   have a0 : x0 * 4294967296 + x1 / 4294967296 < (x0 / (y / 4294967296) + 1) * y := by
    have a1 : x0 + 1 ≤ (x0 / (y / 4294967296) + 1) * (y / 4294967296) := by
     have := hI.out
     grind
    have a2 : (x0 / (y / 4294967296) + 1) * (y / 4294967296 * 4294967296) ≤ (x0 / (y / 4294967296) + 1) * y := Int.mul_le_mul_of_nonneg_left (by omega) (by have := Int.ediv_nonneg hx0 (show 0 ≤ y / 4294967296 by omega); omega)
    have a3 : (x0 / (y / 4294967296) + 1) * (y / 4294967296 * 4294967296) = (x0 / (y / 4294967296) + 1) * (y / 4294967296) * 4294967296 := by grind
    omega
   have := quot_lt (show 0 < y by omega) a0
   omega
  obtain ⟨q1, hq1⟩ : ∃ q1, (x0 * 4294967296 + x1 / 4294967296) / y = q1 := ⟨_, rfl⟩
  have g0 := quot_nonneg (u := x0) (c := x1 / 4294967296) (y := y) (by omega) hx0 (by omega)
  have g1 := quot_high (u := x0) (c := x1 / 4294967296) (y := y) (by omega) hx0 hxy (by omega) (by omega)
  have f1 := Int.emod_lt_of_pos (x0 * 4294967296 + x1 / 4294967296) (show 0 < y by omega)
  have f2 := Int.emod_nonneg (x0 * 4294967296 + x1 / 4294967296) (show y ≠ 0 by omega)
  have f3 := Int.emod_add_mul_ediv (x0 * 4294967296 + x1 / 4294967296) y
  rw [hq1] at f3 g0 g1
  obtain ⟨v, hv⟩ : ∃ v, (x0 * 4294967296 + x1 / 4294967296) % y = v := ⟨_, rfl⟩
  rw [hv] at f1 f2 f3
  have ev' : IntKind.u64.wrap (IntKind.u64.wrap (IntKind.u64.wrap (x0 * 4294967296) + x1 / 4294967296) - IntKind.u64.wrap (q1 * y)) = v := by
   have : q1 * y = y * q1 := Int.mul_comm ..
   rw [this]
   simp only [IntKind.wrap_u64]
   omega
  have e2 : IntKind.u64.wrap (Int.tdiv v (y / 4294967296)) = v / (y / 4294967296) := by
   rw [Int.tdiv_eq_ediv_of_nonneg f2]
   exact u64w (Int.ediv_nonneg f2 (by omega)) (by have := Int.ediv_le_self (y / 4294967296) f2; omega)
  have d3 := Int.emod_add_mul_ediv v (y / 4294967296)
  have d4 := Int.emod_lt_of_pos v (show 0 < y / 4294967296 by omega)
  have d5 := Int.emod_nonneg v (show y / 4294967296 ≠ 0 by omega)
  have hI2 : Aside0 (v / (y / 4294967296) * (y / 4294967296) + v % (y / 4294967296) = v) := ⟨by grind⟩
  have e3 : IntKind.u64.wrap (v - IntKind.u64.wrap (v / (y / 4294967296) * (y / 4294967296))) = v % (y / 4294967296) := by
   have a1 : v / (y / 4294967296) * (y / 4294967296) = v - v % (y / 4294967296) := by have := hI2.out; omega
   have a2 := emod_le' f2 (show 0 < y / 4294967296 by omega)
   rw [a1, u64w (x := v - v % (y / 4294967296)) (by omega) (by omega), u64w (by omega) (by omega)]
   omega
  have hk2 := knuth_first (u := v) (y1 := y / 4294967296) (y0 := y % 4294967296) (by omega) (by omega) (by omega) f2 (by omega)
  have hq2 : (v * 4294967296 + x1 % 4294967296) / y ≤ v / (y / 4294967296) := by
   have a0 : v * 4294967296 + x1 % 4294967296 < (v / (y / 4294967296) + 1) * y := by
    have a1 : v + 1 ≤ (v / (y / 4294967296) + 1) * (y / 4294967296) := by
     have := hI2.out
     grind
    have a2 : (v / (y / 4294967296) + 1) * (y / 4294967296 * 4294967296) ≤ (v / (y / 4294967296) + 1) * y := Int.mul_le_mul_of_nonneg_left (by omega) (by have := Int.ediv_nonneg f2 (show 0 ≤ y / 4294967296 by omega); omega)
    have a3 : (v / (y / 4294967296) + 1) * (y / 4294967296 * 4294967296) = (v / (y / 4294967296) + 1) * (y / 4294967296) * 4294967296 := by grind
    omega
   have := quot_lt (show 0 < y by omega) a0
   omega
  obtain ⟨x, hx⟩ := div64_l1 (y := y) (y1 := y / 4294967296) (y0 := y % 4294967296) (u := v) (c := x1 % 4294967296) 0 q1 v (by omega) (by omega) (by omega) (by omega) (by omega) f2 f1 (by omega) (by omega) (Int.le_refl _) _ (v / (y / 4294967296)) (v % (y / 4294967296)) (Nat.le_refl _) d5 (by omega) hI2 hq2 hk2
  refine ⟨x, ?_⟩
  have hfin : IntKind.u64.wrap (IntKind.u64.wrap (q1 * 4294967296) + (v * 4294967296 + x1 % 4294967296) / y) = (x0 * 18446744073709551616 + x1) / y := by
   have h0 := quot_nonneg (u := v) (c := x1 % 4294967296) (y := y) (by omega) f2 (by omega)
   have h1 := quot_high (u := v) (c := x1 % 4294967296) (y := y) (by omega) f2 f1 (by omega) (by omega)
   rw [u64w (x := q1 * 4294967296) (by omega) (by omega), u64w (by omega) (by omega)]
   have e : x0 * 18446744073709551616 + x1 = (v * 4294967296 + x1 % 4294967296) + (q1 * 4294967296) * y := by
    have : (q1 * 4294967296) * y = 4294967296 * (y * q1) := by grind
    omega
   rw [e, Int.add_mul_ediv_right _ _ (by omega)]
   omega
  rw [hfin] at hx
  have hj2 : Ev (fun k => bits_Div64.j2 k y 0 (y / 4294967296) (y % 4294967296) x0 (x1 / 4294967296) (x1 % 4294967296) ((x0 * 4294967296 + x1 / 4294967296) / y)) ((x0 * 18446744073709551616 + x1) / y, x) := by
   refine Ev.step (f := fun k => bits_Div64.l1 k y 0 (y / 4294967296) (y % 4294967296) (x1 % 4294967296) q1 (v % (y / 4294967296)) v (v / (y / 4294967296))) (fun k => ?_) hx
   simp only [bits_Div64.j2]
   rw [if_neg (by omega), hq1, ev', e2, e3]
  have hl := div64_l0 (y := y) (y1 := y / 4294967296) (y0 := y % 4294967296) (u := x0) (c := x1 / 4294967296) 0 (x1 % 4294967296) (by omega) (by omega) (by omega) (by omega) (by omega) hx0 hxy (by omega) (by omega) hj2 _ (x0 / (y / 4294967296)) (x0 % (y / 4294967296)) (Nat.le_refl _) d2 (by omega) hI hq0 hk
  refine Ev.congr (fun k => ?_) hl
  rw [if_neg (by omega), if_neg (by omega), if_neg hz, lz_top hy htop]
  simp only [Option.bind_some]
  rw [w0, w64', s0, s1, s2, s3, or_zero hx0 (by omega), and_low32 (by omega) hy, and_low32 h10 h11, e0, e1, if_pos (by decide), if_pos (by decide), if_neg (by omega)]
end Go.Proofs.Ytkjhjlnjkohlbaa.PR
