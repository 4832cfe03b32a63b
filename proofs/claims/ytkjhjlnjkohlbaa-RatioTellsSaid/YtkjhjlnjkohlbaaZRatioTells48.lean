/- What natdiv's shifts compute: times a power of two, and by it. -/
import Derived.Test.YtkjhjlnjkohlbaaZRatioTells46
import Derived.Lib.EndianBits
namespace Go.Proofs.Ytkjhjlnjkohlbaa.PR
open Go.RowKit Go.Proofs.YtkjhjlnjkohlbaaW.PrintWords Go.Proofs.YtkjhjlnjkohlbaaW.PrintLast Go.Proofs.YtkjhjlnjkohlbaaW.PrintMore Go.Proofs.Ytkjhjlnjkohlbaa.Num
set_option linter.unusedVariables false
set_option linter.unusedSimpArgs false
theorem up_step {x c : Int} {s : Nat} (hs : s < 64) (hx : 0 ≤ x) (hx' : x < 18446744073709551616) (hc : 0 ≤ c) (hc' : c < 2 ^ s) :
  ∃ d q : Int, Go.bits .or .u64 (shl .u64 x (s : Int)) c = d ∧ shr .u64 (x / 2) (IntKind.u64.wrap (63 - (s : Int))) = q ∧ 0 ≤ d ∧ d < 18446744073709551616 ∧ 0 ≤ q ∧ q < 2 ^ s ∧ d + 18446744073709551616 * q = x * 2 ^ s + c := by
 have hP := two_pow_pos s
 have hQ := two_pow_pos (64 - s)
 have hB := two64 (s := s) (by omega)
 have m := mod_shift hP hQ hB hx
 have m0 := Int.emod_nonneg x (show (2 : Int) ^ (64 - s) ≠ 0 by omega)
 have m1 := Int.emod_lt_of_pos x hQ
 have e := Int.emod_add_mul_ediv x (2 ^ (64 - s))
 have q0 : 0 ≤ x / 2 ^ (64 - s) := Int.ediv_nonneg hx (by omega)
 rw [shl_u64 (by omega), back63 hs, shr_u64 (by omega), div_two x s hs, m]
 have hle : (2 : Int) ^ s * (x % 2 ^ (64 - s)) ≤ 2 ^ s * (2 ^ (64 - s) - 1) := Int.mul_le_mul_of_nonneg_left (by omega) (by omega)
 have hle2 : (2 : Int) ^ s * (2 ^ (64 - s) - 1) = 18446744073709551616 - 2 ^ s := by rw [Int.mul_sub, hB, Int.mul_one]
 have h0 : 0 ≤ (2 : Int) ^ s * (x % 2 ^ (64 - s)) := Int.mul_nonneg (by omega) m0
 have hq : x / 2 ^ (64 - s) < 2 ^ s := Int.ediv_lt_of_lt_mul hQ (by rw [hB]; exact hx')
 have hd : Go.bits .or .u64 (2 ^ s * (x % 2 ^ (64 - s))) c = 2 ^ s * (x % 2 ^ (64 - s)) + c := or_high h0 (by omega) (Int.mul_emod_right _ _) hc hc' (by omega)
 refine ⟨_, _, hd, rfl, by omega, by omega, q0, hq, ?_⟩
 rw [← hB]
 generalize (2 : Int) ^ s = P at *
 generalize (2 : Int) ^ (64 - s) = Q at *
 have : P * (x % Q + Q * (x / Q)) = P * x := by rw [e]
 grind
theorem shl_loop (l : List Int) (hd : Dig 18446744073709551616 l) (q s : Nat) (hs : s < 64) (hl : q + l.length < 17592186044416) : ∀ (d i : Nat) (out : List Int) (c : Int), l.length = i + d → out.length = q + i → Dig 18446744073709551616 out → 0 ≤ c → Aside0 (c < 2 ^ s) →
  Aside0 (V 18446744073709551616 out + 18446744073709551616 ^ (q + i) * c = 18446744073709551616 ^ q * (2 ^ s * V 18446744073709551616 (l.take i))) → Ev (fun k => natdiv_shl.l0 k out (s : Int) c l (l.length : Int) (i : Int)) (dg 18446744073709551616 (18446744073709551616 ^ q * (2 ^ s * V 18446744073709551616 l)))
 | 0, i, out, c, hi, ho, hD, h0, h1, hI => by
  have c1 : c < 18446744073709551616 := by
   have := h1.out
   have := two_pow_mono (show s ≤ 64 by omega)
   have e64 : (2 : Int) ^ 64 = 18446744073709551616 := by decide
   omega
  have hv : V 18446744073709551616 (out ++ [c]) = 18446744073709551616 ^ q * (2 ^ s * V 18446744073709551616 l) := by
   have hI := hI.out
   rw [V_take_all _ l (by omega)] at hI
   rw [V_append, ho, ← hI]
   simp [V]
  have hn := norm_ev (out ++ [c]) (by simp; omega) (hD.append (Dig.cons h0 c1 (Dig.nil _)))
  rw [hv] at hn
  refine Ev.step (f := fun k => (nat_Norm.f k (out ++ [c])).bind fun t => some t) (fun k => ?_) (Ev.bind hn (Ev.now _))
  simp only [natdiv_shl.l0]
  rw [if_neg (by omega), if_pos (by omega)]
 | d + 1, i, out, c, hi, ho, hD, h0, h1, hI => by
  have gx := hd.getD B_pos i
  have ew : Aside0 (wrap64 ((i : Int) + 1) = ((i + 1 : Nat) : Int)) := ⟨by rw [w64 (by omega) (by omega)]; omega⟩
  have b63 : Aside0 (0 ≤ IntKind.u64.wrap (63 - (s : Int))) := ⟨by rw [back63 hs]; omega⟩
  obtain ⟨y, z, e1, e2, y0, y1, z0, z1, hs2⟩ := up_step hs gx.1 gx.2 h0 h1.out
  have E1 := Aside0.mk e1
  have E2 := Aside0.mk e2
  have S2 := Aside0.mk hs2
  have Z1 := Aside0.mk z1
  clear e1 e2 hs2 z1
  refine Ev.step (f := fun k => natdiv_shl.l0 k (out ++ [y]) (s : Int) z l (l.length : Int) ((i + 1 : Nat) : Int)) (fun k => ?_)
   (shl_loop l hd q s hs hl d (i + 1) _ _ (by omega) (by simp; omega) (hD.append (Dig.cons y0 y1 (Dig.nil _))) z0 Z1 ⟨?_⟩)
  ·
   simp only [natdiv_shl.l0]
   rw [if_pos (by omega), if_pos (by omega), if_pos (by omega), if_pos (by omega), if_pos (by omega), if_pos b63.out, rd_nat, E1.out, E2.out, ew.out]
  ·
   have hI := hI.out
   have hs2 := S2.out
   rw [V_append, V_take_succ, ho, show q + (i + 1) = q + i + 1 by omega, Int.pow_succ, Int.pow_add]
   rw [Int.pow_add] at hI
   simp only [V]
   generalize (18446744073709551616 : Int) ^ q = Bq at *
   generalize (18446744073709551616 : Int) ^ i = Bi at *
   generalize (2 : Int) ^ s = P at *
   have : Bq * Bi * (y + 18446744073709551616 * z) = Bq * Bi * (l.getD i 0 * P + c) := by rw [hs2]
   grind
theorem pow_n (n : Nat) : (2 : Int) ^ n = 18446744073709551616 ^ (n / 64) * 2 ^ (n % 64) := by
 have e : (18446744073709551616 : Int) = 2 ^ 64 := by decide
 rw [e, ← Int.pow_mul, ← Int.pow_add]
 congr 1
 omega
theorem split_n {n : Nat} (h : n < 4611686018427387904) : wrap64 (Int.tdiv (n : Int) 64) = ((n / 64 : Nat) : Int) ∧ IntKind.u64.wrap (Int.tmod (n : Int) 64) = ((n % 64 : Nat) : Int) := by
 rw [Int.tdiv_eq_ediv_of_nonneg (by omega), Int.tmod_eq_emod_of_nonneg (by omega), w64 (by omega) (by omega), u64w (by omega) (by omega)]
 exact ⟨by omega, by omega⟩
theorem shl_ev (l : List Int) (hd : Dig 18446744073709551616 l) (n : Nat) (hl : n / 64 + l.length < 17592186044416) (hn : n < 4611686018427387904) : Ev (fun k => natdiv_shl.f k l (n : Int)) (dg 18446744073709551616 (2 ^ n * V 18446744073709551616 l)) := by
 obtain ⟨e1, e2⟩ := split_n hn
 unfold natdiv_shl.f
 rw [e1, e2]
 have e3 : wrap64 (wrap64 (((n / 64 : Nat) : Int) + (l.length : Int)) + 1) = ((n / 64 + l.length + 1 : Nat) : Int) := by
  rw [w64 (x := ((n / 64 : Nat) : Int) + (l.length : Int)) (by omega) (by omega), w64 (by omega) (by omega)]
  omega
 rw [e3]
 refine Ev.congr (fun k => (if_pos (by omega)).trans ((if_pos (by omega)).trans (if_pos (by omega)))) ?_
 rw [pow_n, Int.mul_assoc, Int.toNat_natCast]
 exact shl_loop l hd (n / 64) (n % 64) (by omega) hl l.length 0 _ 0 (by omega) (by simp) (Dig.replicate B_pos _) (by omega) ⟨two_pow_pos _⟩ ⟨by rw [V_replicate]; simp [V]⟩
theorem down_step {x z : Int} {s : Nat} (hs : s < 64) (hx : 0 ≤ x) (hx' : x < 18446744073709551616) (hz : 0 ≤ z) (hz' : z < 18446744073709551616) :
  ∃ d : Int, Go.bits .or .u64 (shr .u64 x (s : Int)) (shl .u64 (IntKind.u64.wrap (z * 2)) (IntKind.u64.wrap (63 - (s : Int)))) = d ∧ (z = 0 → shr .u64 x (s : Int) = d) ∧ 0 ≤ shr .u64 x (s : Int) ∧ shr .u64 x (s : Int) < 18446744073709551616 ∧ 0 ≤ d ∧ d < 18446744073709551616 ∧
   2 ^ s * d + x % 2 ^ s = x + 18446744073709551616 * (z % 2 ^ s) := by
 have hP := two_pow_pos s
 have hQ := two_pow_pos (64 - s)
 have hB := two64 (s := s) (by omega)
 have hB' : (2 : Int) ^ (64 - s) * 2 ^ s = 18446744073709551616 := by rw [Int.mul_comm]; exact hB
 have m := mod_shift hQ hP hB' hz
 have m0 := Int.emod_nonneg z (show (2 : Int) ^ s ≠ 0 by omega)
 have m1 := Int.emod_lt_of_pos z hP
 have e := Int.emod_add_mul_ediv x (2 ^ s)
 have q0 : 0 ≤ x / 2 ^ s := Int.ediv_nonneg hx (by omega)
 have q1 : x / 2 ^ s < 2 ^ (64 - s) := Int.ediv_lt_of_lt_mul hP (by rw [hB']; exact hx')
 have qB : x / 2 ^ s ≤ x := Int.ediv_le_self _ hx
 have w : shl .u64 (IntKind.u64.wrap (z * 2)) (IntKind.u64.wrap (63 - (s : Int))) = 2 ^ (64 - s) * (z % 2 ^ s) := by
  rw [back63 hs, shl_u64 (by omega), IntKind.wrap_u64]
  have ee : (z * 2) % 18446744073709551616 * 2 ^ (63 - s) % 18446744073709551616 = z * 2 * 2 ^ (63 - s) % 18446744073709551616 := by
   rw [Int.mul_emod, Int.emod_emod_of_dvd _ (Int.dvd_refl _), ← Int.mul_emod]
  have e2 : (2 : Int) ^ (64 - s) = 2 * 2 ^ (63 - s) := by
   rw [show 64 - s = 63 - s + 1 by omega, Int.pow_succ, Int.mul_comm]
  have e3 : z * 2 * 2 ^ (63 - s) = z * 2 ^ (64 - s) := by rw [e2, Int.mul_assoc]
  rw [ee, e3, m]
 rw [w, shr_u64 (by omega)]
 have hle : (2 : Int) ^ (64 - s) * (z % 2 ^ s) ≤ 2 ^ (64 - s) * (2 ^ s - 1) := Int.mul_le_mul_of_nonneg_left (by omega) (by omega)
 have hle2 : (2 : Int) ^ (64 - s) * (2 ^ s - 1) = 18446744073709551616 - 2 ^ (64 - s) := by rw [Int.mul_sub, hB', Int.mul_one]
 have h0 : 0 ≤ (2 : Int) ^ (64 - s) * (z % 2 ^ s) := Int.mul_nonneg (by omega) m0
 have hd : Go.bits .or .u64 (x / 2 ^ s) (2 ^ (64 - s) * (z % 2 ^ s)) = x / 2 ^ s + 2 ^ (64 - s) * (z % 2 ^ s) := or_low (s := 64 - s) h0 (by omega) (Int.mul_emod_right _ _) q0 q1 (by omega)
 refine ⟨_, hd, ?_, q0, by omega, by omega, by omega, ?_⟩
 ·
  rintro rfl
  simp
 ·
  rw [← hB]
  generalize (2 : Int) ^ s = P at *
  generalize (2 : Int) ^ (64 - s) = Q at *
  generalize z % P = r at *
  generalize x / P = u at *
  generalize x % P = v at *
  grind
theorem shr_loop (l : List Int) (hd : Dig 18446744073709551616 l) (s : Nat) (hs : s < 64) (hl : l.length ≤ 17592186044416) : ∀ (d i : Nat) (out : List Int), l.length = i + d → out.length = l.length → Dig 18446744073709551616 out → (∀ j, i ≤ j → out.getD j 0 = l.getD j 0) →
  Aside0 (2 ^ s * V 18446744073709551616 (out.take i) + l.getD 0 0 % 2 ^ s = V 18446744073709551616 (l.take i) + 18446744073709551616 ^ i * (l.getD i 0 % 2 ^ s)) → Ev (fun k => natdiv_shr.l0 k out (s : Int) (l.length : Int) (i : Int)) (dg 18446744073709551616 (V 18446744073709551616 l / 2 ^ s))
 | 0, i, out, hi, ho, hD, hr, hI => by
  have hv : V 18446744073709551616 out = V 18446744073709551616 l / 2 ^ s := by
   have hI := hI.out
   rw [V_take_all _ l (by omega), V_take_all _ out (by omega), gpast (l := l) (n := i) (by omega), Int.zero_emod, Int.mul_zero, Int.add_zero] at hI
   have hP := two_pow_pos s
   have m0 := Int.emod_nonneg (l.getD 0 0) (show (2 : Int) ^ s ≠ 0 by omega)
   have m1 := Int.emod_lt_of_pos (l.getD 0 0) hP
   rw [← hI, Int.add_comm, Int.add_mul_ediv_left _ _ (by omega), Int.ediv_eq_zero_of_lt m0 m1, Int.zero_add]
  have hn := norm_ev out (by omega) hD
  rw [hv] at hn
  refine Ev.step (f := fun k => (nat_Norm.f k out).bind fun t => some t) (fun k => ?_) (Ev.bind hn (Ev.now _))
  simp only [natdiv_shr.l0]
  rw [if_neg (by omega)]
 | d + 1, i, out, hi, ho, hD, hr, hI => by
  have gx := hd.getD B_pos i
  have gz := hd.getD B_pos (i + 1)
  have hlt : i < out.length := by omega
  have ew : Aside0 (wrap64 ((i : Int) + 1) = ((i + 1 : Nat) : Int)) := ⟨by rw [w64 (by omega) (by omega)]; omega⟩
  have b63 : Aside0 (0 ≤ IntKind.u64.wrap (63 - (s : Int))) := ⟨by rw [back63 hs]; omega⟩
  obtain ⟨y, e1, e2, x0, x1, y0, y1, hs2⟩ := down_step hs gx.1 gx.2 gz.1 gz.2
  have E1 := Aside0.mk e1
  have E2 := Aside0.mk e2
  have S2 := Aside0.mk hs2
  have X0 := Aside0.mk x0
  have X1 := Aside0.mk x1
  clear e1 e2 hs2 x0 x1
  have R0 : rd out (i : Int) = l.getD i 0 := by rw [rd_nat]; exact hr i (Nat.le_refl _)
  have next : Ev (fun k => natdiv_shr.l0 k (out.set i y) (s : Int) (l.length : Int) ((i + 1 : Nat) : Int)) (dg 18446744073709551616 (V 18446744073709551616 l / 2 ^ s)) := by
   refine shr_loop l hd s hs hl d (i + 1) _ (by omega) (by simpa using ho) (hD.set _ y0 y1) (fun j hj => ?_) ⟨?_⟩
   ·
    rw [getD_set _ _ _ _ hlt, if_neg (by omega)]
    exact hr j (by omega)
   ·
    have hI := hI.out
    have hs2 := S2.out
    rw [V_take_set_succ _ _ _ _ hlt, V_take_succ, Int.pow_succ]
    clear hr
    generalize (2 : Int) ^ s = P at *
    generalize (18446744073709551616 : Int) ^ i = Bi at *
    generalize l.getD 0 0 % P = r0 at *
    generalize l.getD (i + 1) 0 % P = rz at *
    generalize l.getD i 0 % P = rx at *
    generalize l.getD i 0 = x at *
    have : Bi * (P * y + rx) = Bi * (x + 18446744073709551616 * rz) := by rw [hs2]
    grind
  by_cases hlast : i + 1 < out.length
  ·
   refine Ev.step (f := fun k => natdiv_shr.l0 k (out.set i y) (s : Int) (l.length : Int) ((i + 1 : Nat) : Int)) (fun k => ?_) next
   simp only [natdiv_shr.l0]
   rw [if_pos (by omega), if_pos (by omega), if_pos (by omega), if_pos (by omega), Option.bind_some, ew.out, if_pos (by omega), if_pos (by omega), if_pos b63.out, Int.toNat_natCast, rd_nat (out.set i _) i, rd_nat (out.set i _) (i + 1),
    getD_set _ _ _ _ hlt, getD_set _ _ _ _ hlt, if_pos rfl, if_neg (by omega), hr (i + 1) (by omega), R0, E1.out, List.set_set]
  ·
   refine Ev.step (f := fun k => natdiv_shr.l0 k (out.set i y) (s : Int) (l.length : Int) ((i + 1 : Nat) : Int)) (fun k => ?_) next
   simp only [natdiv_shr.l0]
   rw [if_pos (by omega), if_pos (by omega), if_pos (by omega), if_pos (by omega), Option.bind_some, ew.out, if_neg (by omega), Int.toNat_natCast, R0, E2.out (gpast (by omega))]
theorem shr_ev (l : List Int) (hd : Dig 18446744073709551616 l) (n : Nat) (hl : l.length < 17592186044416) (hn : n < 4611686018427387904) : Ev (fun k => natdiv_shr.f k l (n : Int)) (dg 18446744073709551616 (V 18446744073709551616 l / 2 ^ n)) := by
 obtain ⟨e1, e2⟩ := split_n hn
 unfold natdiv_shr.f
 rw [e1, e2]
 have hP := two_pow_pos (n % 64)
 have hB := pow_pos' B_pos (n / 64)
 by_cases h : l.length ≤ n / 64
 ·
  refine Ev.congr (fun k => if_pos (by omega)) ?_
  have hv : V 18446744073709551616 l / 2 ^ n = 0 := by
   have h0 := V_nonneg B_pos hd
   have h1 := V_lt B_pos hd
   have h2 := pow_le (B := 18446744073709551616) B_pos h
   have h3 : (18446744073709551616 : Int) ^ (n / 64) * 1 ≤ 18446744073709551616 ^ (n / 64) * 2 ^ (n % 64) := Int.mul_le_mul_of_nonneg_left (show (1 : Int) ≤ 2 ^ (n % 64) by omega) (show (0 : Int) ≤ 18446744073709551616 ^ (n / 64) by omega)
   rw [pow_n]
   exact Int.ediv_eq_zero_of_lt h0 (by omega)
  rw [hv]
  exact Ev.now _
 ·
  refine Ev.congr (fun k => (if_neg (by omega)).trans ((if_pos (by omega)).trans (if_pos (by omega)))) ?_
  rw [Int.toNat_natCast]
  have hc : slices_Clone_uint64_uint64.f (l.drop (n / 64)) = some (l.drop (n / 64)) := by
   unfold slices_Clone_uint64_uint64.f
   exact if_pos (by simp; omega)
  rw [hc]
  have hv : V 18446744073709551616 l / 2 ^ n = V 18446744073709551616 (l.drop (n / 64)) / 2 ^ (n % 64) := by
   rw [pow_n, ← ediv_two (by omega), V_split 18446744073709551616 l (n := n / 64) (by omega), Int.add_mul_ediv_left _ _ (by omega)]
   have t0 := V_nonneg B_pos (hd.take (n / 64))
   have t1 := V_lt B_pos (hd.take (n / 64))
   rw [List.length_take, Nat.min_eq_left (by omega)] at t1
   rw [Int.ediv_eq_zero_of_lt t0 t1, Int.zero_add]
  rw [hv]
  simp only [Option.bind_some]
  exact shr_loop (l.drop (n / 64)) (hd.drop _) (n % 64) (by omega) (by simp; omega) (l.drop (n / 64)).length 0 _ (by omega) rfl (hd.drop _) (fun j _ => rfl) ⟨by simp [V]⟩
theorem pow64_le (n : Nat) : (2 : Int) ^ n ≤ 18446744073709551616 ^ (n / 64 + 1) := by
 rw [pow_n, Int.pow_succ]
 have h := two_pow_mono (show n % 64 ≤ 64 by omega)
 have e64 : (2 : Int) ^ 64 = 18446744073709551616 := by decide
 exact Int.mul_le_mul_of_nonneg_left (by omega) (Int.le_of_lt (pow_pos' B_pos _))
theorem Nm.shl {a v n} (h : Nm a v n) (k : Nat) (hl : k / 64 + n < 17592186044415) (hk : k < 4611686018427387904) : Ev (fun i => natdiv_shl.f i a (k : Int)) (Num.dg 18446744073709551616 (2 ^ k * v)) ∧ Nm (Num.dg 18446744073709551616 (2 ^ k * v)) (2 ^ k * v) (k / 64 + 1 + n) := by
 have h1 := h.len
 have e := shl_ev a h.dig k (by omega) hk
 rw [h.val] at e
 have n1 := h.nonneg
 have hP := two_pow_pos k
 refine ⟨e, Nm.dg (Int.mul_nonneg (by omega) n1) ?_⟩
 rw [Int.pow_add]
 have l1 := h.lt
 calc (2 : Int) ^ k * v ≤ 18446744073709551616 ^ (k / 64 + 1) * v := Int.mul_le_mul_of_nonneg_right (pow64_le k) n1
  _ < 18446744073709551616 ^ (k / 64 + 1) * 18446744073709551616 ^ n := Int.mul_lt_mul_of_pos_left l1 (pow_pos' B_pos _)
theorem Nm.shr {a v n} (h : Nm a v n) (k : Nat) (hl : n < 17592186044416) (hk : k < 4611686018427387904) : Ev (fun i => natdiv_shr.f i a (k : Int)) (Num.dg 18446744073709551616 (v / 2 ^ k)) ∧ Nm (Num.dg 18446744073709551616 (v / 2 ^ k)) (v / 2 ^ k) n := by
 have h1 := h.len
 have e := shr_ev a h.dig k (by omega) hk
 rw [h.val] at e
 have n1 := h.nonneg
 exact ⟨e, h.dg_le (Int.ediv_nonneg n1 (Int.le_of_lt (two_pow_pos k))) (Int.ediv_le_self _ n1)⟩
end Go.Proofs.Ytkjhjlnjkohlbaa.PR
