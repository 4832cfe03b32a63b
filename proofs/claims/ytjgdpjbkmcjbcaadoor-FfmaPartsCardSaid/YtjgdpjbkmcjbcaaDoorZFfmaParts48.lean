/- Parts of a proof. -/
import Derived.Test.YtjgdpjbkmcjbcaaDoorZFfmaParts47
import Derived.Lib.EndianBits
import Derived.Lib.TrailingZeros
section
namespace Go.Proofs.YtjgdpjbkmcjbcaaDoor.PG
open Go.RowKit Go.Proofs.YtjgdpjbkmcjbcaaDoorW.PrintWords Go.Proofs.YtjgdpjbkmcjbcaaDoorW.PrintLast Go.Proofs.YtjgdpjbkmcjbcaaDoorW.PrintMore Go.Proofs.YtjgdpjbkmcjbcaaDoor.Num
set_option linter.unusedVariables false
set_option linter.unusedSimpArgs false
theorem up_step {x c : Int} {s : Nat} (hs : s < 64) (hx : 0 ≤ x) (hx' : x < 18446744073709551616) (hc : 0 ≤ c) (hc' : c < 2 ^ s) :
  ∃ d q : Int, Go.bits .or .u64 (shl .u64 x (s : Int)) c = d ∧ shr .u64 (x / 2) (IntKind.u64.wrap (63 - (s : Int))) = q ∧ 0 ≤ d ∧ d < 18446744073709551616 ∧ 0 ≤ q ∧ q < 2 ^ s ∧ d + 18446744073709551616 * q = x * 2 ^ s + c := by
 have hP := two_pow_pos s
 have hQ := two_pow_pos (64 - s)
 have hB := two64 (s := s) (by omega)
 have m := mod_shift hP hQ hB hx
 have m0 := Int.emod_nonneg x (show (2 : Int) ^ (64 - s) ≠ 0 by omega)
 have m1 := Int.emod_lt_of_pos x hQ
 have e := Int.emod_add_mul_ediv x (2 ^ (64 - s))
 have q0 : 0 ≤ x / 2 ^ (64 - s) := Int.ediv_nonneg hx (by omega)
 rw [shl_u64 (by omega), back63 hs, shr_u64 (by omega), div_two x s hs, m]
 have hle : (2 : Int) ^ s * (x % 2 ^ (64 - s)) ≤ 2 ^ s * (2 ^ (64 - s) - 1) := Int.mul_le_mul_of_nonneg_left (by omega) (by omega)
 have hle2 : (2 : Int) ^ s * (2 ^ (64 - s) - 1) = 18446744073709551616 - 2 ^ s := by rw [Int.mul_sub, hB, Int.mul_one]
 have h0 : 0 ≤ (2 : Int) ^ s * (x % 2 ^ (64 - s)) := Int.mul_nonneg (by omega) m0
 have hq : x / 2 ^ (64 - s) < 2 ^ s := Int.ediv_lt_of_lt_mul hQ (by rw [hB]; exact hx')
 have hd : Go.bits .or .u64 (2 ^ s * (x % 2 ^ (64 - s))) c = 2 ^ s * (x % 2 ^ (64 - s)) + c := or_high h0 (by omega) (Int.mul_emod_right _ _) hc hc' (by omega)
 refine ⟨_, _, hd, rfl, by omega, by omega, q0, hq, ?_⟩
 rw [← hB]
 generalize (2 : Int) ^ s = P at *
 generalize (2 : Int) ^ (64 - s) = Q at *
 have : P * (x % Q + Q * (x / Q)) = P * x := by rw [e]
 grind
theorem shl_loop (l : List Int) (hd : Dig 18446744073709551616 l) (q s : Nat) (hs : s < 64) (hl : q + l.length < 17592186044416) : ∀ (d i : Nat) (out : List Int) (c : Int), l.length = i + d → out.length = q + i → Dig 18446744073709551616 out → 0 ≤ c → Aside0 (c < 2 ^ s) →
  Aside0 (V 18446744073709551616 out + 18446744073709551616 ^ (q + i) * c = 18446744073709551616 ^ q * (2 ^ s * V 18446744073709551616 (l.take i))) → Ev (fun k => natdiv_shl.l0 k out (s : Int) c l (l.length : Int) (i : Int)) (dg 18446744073709551616 (18446744073709551616 ^ q * (2 ^ s * V 18446744073709551616 l)))
 | 0, i, out, c, hi, ho, hD, h0, h1, hI => by
  have c1 : c < 18446744073709551616 := by
   have := h1.out
   have := two_pow_mono (show s ≤ 64 by omega)
   have e64 : (2 : Int) ^ 64 = 18446744073709551616 := by decide
   omega
  have hv : V 18446744073709551616 (out ++ [c]) = 18446744073709551616 ^ q * (2 ^ s * V 18446744073709551616 l) := by
   have hI := hI.out
   rw [V_take_all _ l (by omega)] at hI
   rw [V_append, ho, ← hI]
   simp [V]
  have hn := norm_ev (out ++ [c]) (by simp; omega) (hD.append (Dig.cons h0 c1 (Dig.nil _)))
  rw [hv] at hn
  refine Ev.step (f := fun k => (nat_Norm.f k (out ++ [c])).bind fun t => some t) (fun k => ?_) (Ev.bind hn (Ev.now _))
  simp only [natdiv_shl.l0]
  rw [if_neg (by omega), if_pos (by omega)]
 | d + 1, i, out, c, hi, ho, hD, h0, h1, hI => by
  have gx := hd.getD B_pos i
  have ew : Aside0 (wrap64 ((i : Int) + 1) = ((i + 1 : Nat) : Int)) := ⟨by rw [w64 (by omega) (by omega)]; omega⟩
  have b63 : Aside0 (0 ≤ IntKind.u64.wrap (63 - (s : Int))) := ⟨by rw [back63 hs]; omega⟩
  obtain ⟨y, z, e1, e2, y0, y1, z0, z1, hs2⟩ := up_step hs gx.1 gx.2 h0 h1.out
  have E1 := Aside0.mk e1
  have E2 := Aside0.mk e2
  have S2 := Aside0.mk hs2
  have Z1 := Aside0.mk z1
  clear e1 e2 hs2 z1
  refine Ev.step (f := fun k => natdiv_shl.l0 k (out ++ [y]) (s : Int) z l (l.length : Int) ((i + 1 : Nat) : Int)) (fun k => ?_)
   (shl_loop l hd q s hs hl d (i + 1) _ _ (by omega) (by simp; omega) (hD.append (Dig.cons y0 y1 (Dig.nil _))) z0 Z1 ⟨?_⟩)
  ·
   simp only [natdiv_shl.l0]
   rw [if_pos (by omega), if_pos (by omega), if_pos (by omega), if_pos (by omega), if_pos (by omega), if_pos b63.out, rd_nat, E1.out, E2.out, ew.out]
  ·
   have hI := hI.out
   have hs2 := S2.out
   rw [V_append, V_take_succ, ho, show q + (i + 1) = q + i + 1 by omega, Int.pow_succ, Int.pow_add]
   rw [Int.pow_add] at hI
   simp only [V]
   generalize (18446744073709551616 : Int) ^ q = Bq at *
   generalize (18446744073709551616 : Int) ^ i = Bi at *
   generalize (2 : Int) ^ s = P at *
   have : Bq * Bi * (y + 18446744073709551616 * z) = Bq * Bi * (l.getD i 0 * P + c) := by rw [hs2]
   grind
theorem pow_n (n : Nat) : (2 : Int) ^ n = 18446744073709551616 ^ (n / 64) * 2 ^ (n % 64) := by
 have e : (18446744073709551616 : Int) = 2 ^ 64 := by decide
 rw [e, ← Int.pow_mul, ← Int.pow_add]
 congr 1
 omega
theorem split_n {n : Nat} (h : n < 4611686018427387904) : wrap64 (Int.tdiv (n : Int) 64) = ((n / 64 : Nat) : Int) ∧ IntKind.u64.wrap (Int.tmod (n : Int) 64) = ((n % 64 : Nat) : Int) := by
 rw [Int.tdiv_eq_ediv_of_nonneg (by omega), Int.tmod_eq_emod_of_nonneg (by omega), w64 (by omega) (by omega), u64w (by omega) (by omega)]
 exact ⟨by omega, by omega⟩
theorem shl_ev (l : List Int) (hd : Dig 18446744073709551616 l) (n : Nat) (hl : n / 64 + l.length < 17592186044416) (hn : n < 4611686018427387904) : Ev (fun k => natdiv_shl.f k l (n : Int)) (dg 18446744073709551616 (2 ^ n * V 18446744073709551616 l)) := by
 obtain ⟨e1, e2⟩ := split_n hn
 unfold natdiv_shl.f
 rw [e1, e2]
 have e3 : wrap64 (wrap64 (((n / 64 : Nat) : Int) + (l.length : Int)) + 1) = ((n / 64 + l.length + 1 : Nat) : Int) := by
  rw [w64 (x := ((n / 64 : Nat) : Int) + (l.length : Int)) (by omega) (by omega), w64 (by omega) (by omega)]
  omega
 rw [e3]
 refine Ev.congr (fun k => (if_pos (by omega)).trans ((if_pos (by omega)).trans (if_pos (by omega)))) ?_
 rw [pow_n, Int.mul_assoc, Int.toNat_natCast]
 exact shl_loop l hd (n / 64) (n % 64) (by omega) hl l.length 0 _ 0 (by omega) (by simp) (Dig.replicate B_pos _) (by omega) ⟨two_pow_pos _⟩ ⟨by rw [V_replicate]; simp [V]⟩
theorem down_step {x z : Int} {s : Nat} (hs : s < 64) (hx : 0 ≤ x) (hx' : x < 18446744073709551616) (hz : 0 ≤ z) (hz' : z < 18446744073709551616) :
  ∃ d : Int, Go.bits .or .u64 (shr .u64 x (s : Int)) (shl .u64 (IntKind.u64.wrap (z * 2)) (IntKind.u64.wrap (63 - (s : Int)))) = d ∧ (z = 0 → shr .u64 x (s : Int) = d) ∧ 0 ≤ shr .u64 x (s : Int) ∧ shr .u64 x (s : Int) < 18446744073709551616 ∧ 0 ≤ d ∧ d < 18446744073709551616 ∧
   2 ^ s * d + x % 2 ^ s = x + 18446744073709551616 * (z % 2 ^ s) := by
 have hP := two_pow_pos s
 have hQ := two_pow_pos (64 - s)
 have hB := two64 (s := s) (by omega)
 have hB' : (2 : Int) ^ (64 - s) * 2 ^ s = 18446744073709551616 := by rw [Int.mul_comm]; exact hB
 have m := mod_shift hQ hP hB' hz
 have m0 := Int.emod_nonneg z (show (2 : Int) ^ s ≠ 0 by omega)
 have m1 := Int.emod_lt_of_pos z hP
 have e := Int.emod_add_mul_ediv x (2 ^ s)
 have q0 : 0 ≤ x / 2 ^ s := Int.ediv_nonneg hx (by omega)
 have q1 : x / 2 ^ s < 2 ^ (64 - s) := Int.ediv_lt_of_lt_mul hP (by rw [hB']; exact hx')
 have qB : x / 2 ^ s ≤ x := Int.ediv_le_self _ hx
 have w : shl .u64 (IntKind.u64.wrap (z * 2)) (IntKind.u64.wrap (63 - (s : Int))) = 2 ^ (64 - s) * (z % 2 ^ s) := by
  rw [back63 hs, shl_u64 (by omega), IntKind.wrap_u64]
  have ee : (z * 2) % 18446744073709551616 * 2 ^ (63 - s) % 18446744073709551616 = z * 2 * 2 ^ (63 - s) % 18446744073709551616 := by
   rw [Int.mul_emod, Int.emod_emod_of_dvd _ (Int.dvd_refl _), ← Int.mul_emod]
  have e2 : (2 : Int) ^ (64 - s) = 2 * 2 ^ (63 - s) := by
   rw [show 64 - s = 63 - s + 1 by omega, Int.pow_succ, Int.mul_comm]
  have e3 : z * 2 * 2 ^ (63 - s) = z * 2 ^ (64 - s) := by rw [e2, Int.mul_assoc]
  rw [ee, e3, m]
 rw [w, shr_u64 (by omega)]
 have hle : (2 : Int) ^ (64 - s) * (z % 2 ^ s) ≤ 2 ^ (64 - s) * (2 ^ s - 1) := Int.mul_le_mul_of_nonneg_left (by omega) (by omega)
 have hle2 : (2 : Int) ^ (64 - s) * (2 ^ s - 1) = 18446744073709551616 - 2 ^ (64 - s) := by rw [Int.mul_sub, hB', Int.mul_one]
 have h0 : 0 ≤ (2 : Int) ^ (64 - s) * (z % 2 ^ s) := Int.mul_nonneg (by omega) m0
 have hd : Go.bits .or .u64 (x / 2 ^ s) (2 ^ (64 - s) * (z % 2 ^ s)) = x / 2 ^ s + 2 ^ (64 - s) * (z % 2 ^ s) := or_low (s := 64 - s) h0 (by omega) (Int.mul_emod_right _ _) q0 q1 (by omega)
 refine ⟨_, hd, ?_, q0, by omega, by omega, by omega, ?_⟩
 ·
  rintro rfl
  simp
 ·
  rw [← hB]
  generalize (2 : Int) ^ s = P at *
  generalize (2 : Int) ^ (64 - s) = Q at *
  generalize z % P = r at *
  generalize x / P = u at *
  generalize x % P = v at *
  grind
theorem shr_loop (l : List Int) (hd : Dig 18446744073709551616 l) (s : Nat) (hs : s < 64) (hl : l.length ≤ 17592186044416) : ∀ (d i : Nat) (out : List Int), l.length = i + d → out.length = l.length → Dig 18446744073709551616 out → (∀ j, i ≤ j → out.getD j 0 = l.getD j 0) →
  Aside0 (2 ^ s * V 18446744073709551616 (out.take i) + l.getD 0 0 % 2 ^ s = V 18446744073709551616 (l.take i) + 18446744073709551616 ^ i * (l.getD i 0 % 2 ^ s)) → Ev (fun k => natdiv_shr.l0 k out (s : Int) (l.length : Int) (i : Int)) (dg 18446744073709551616 (V 18446744073709551616 l / 2 ^ s))
 | 0, i, out, hi, ho, hD, hr, hI => by
  have hv : V 18446744073709551616 out = V 18446744073709551616 l / 2 ^ s := by
   have hI := hI.out
   rw [V_take_all _ l (by omega), V_take_all _ out (by omega), gpast (l := l) (n := i) (by omega), Int.zero_emod, Int.mul_zero, Int.add_zero] at hI
   have hP := two_pow_pos s
   have m0 := Int.emod_nonneg (l.getD 0 0) (show (2 : Int) ^ s ≠ 0 by omega)
   have m1 := Int.emod_lt_of_pos (l.getD 0 0) hP
   rw [← hI, Int.add_comm, Int.add_mul_ediv_left _ _ (by omega), Int.ediv_eq_zero_of_lt m0 m1, Int.zero_add]
  have hn := norm_ev out (by omega) hD
  rw [hv] at hn
  refine Ev.step (f := fun k => (nat_Norm.f k out).bind fun t => some t) (fun k => ?_) (Ev.bind hn (Ev.now _))
  simp only [natdiv_shr.l0]
  rw [if_neg (by omega)]
 | d + 1, i, out, hi, ho, hD, hr, hI => by
  have gx := hd.getD B_pos i
  have gz := hd.getD B_pos (i + 1)
  have hlt : i < out.length := by omega
  have ew : Aside0 (wrap64 ((i : Int) + 1) = ((i + 1 : Nat) : Int)) := ⟨by rw [w64 (by omega) (by omega)]; omega⟩
  have b63 : Aside0 (0 ≤ IntKind.u64.wrap (63 - (s : Int))) := ⟨by rw [back63 hs]; omega⟩
  obtain ⟨y, e1, e2, x0, x1, y0, y1, hs2⟩ := down_step hs gx.1 gx.2 gz.1 gz.2
  have E1 := Aside0.mk e1
  have E2 := Aside0.mk e2
  have S2 := Aside0.mk hs2
  have X0 := Aside0.mk x0
  have X1 := Aside0.mk x1
  clear e1 e2 hs2 x0 x1
  have R0 : rd out (i : Int) = l.getD i 0 := by rw [rd_nat]; exact hr i (Nat.le_refl _)
  have next : Ev (fun k => natdiv_shr.l0 k (out.set i y) (s : Int) (l.length : Int) ((i + 1 : Nat) : Int)) (dg 18446744073709551616 (V 18446744073709551616 l / 2 ^ s)) := by
   refine shr_loop l hd s hs hl d (i + 1) _ (by omega) (by simpa using ho) (hD.set _ y0 y1) (fun j hj => ?_) ⟨?_⟩
   ·
    rw [getD_set _ _ _ _ hlt, if_neg (by omega)]
    exact hr j (by omega)
   ·
    have hI := hI.out
    have hs2 := S2.out
    rw [V_take_set_succ _ _ _ _ hlt, V_take_succ, Int.pow_succ]
    clear hr
    generalize (2 : Int) ^ s = P at *
    generalize (18446744073709551616 : Int) ^ i = Bi at *
    generalize l.getD 0 0 % P = r0 at *
    generalize l.getD (i + 1) 0 % P = rz at *
    generalize l.getD i 0 % P = rx at *
    generalize l.getD i 0 = x at *
    have : Bi * (P * y + rx) = Bi * (x + 18446744073709551616 * rz) := by rw [hs2]
    grind
  by_cases hlast : i + 1 < out.length
  ·
   refine Ev.step (f := fun k => natdiv_shr.l0 k (out.set i y) (s : Int) (l.length : Int) ((i + 1 : Nat) : Int)) (fun k => ?_) next
   simp only [natdiv_shr.l0]
   rw [if_pos (by omega), if_pos (by omega), if_pos (by omega), if_pos (by omega), Option.bind_some, ew.out, if_pos (by omega), if_pos (by omega), if_pos b63.out, Int.toNat_natCast, rd_nat (out.set i _) i, rd_nat (out.set i _) (i + 1),
    getD_set _ _ _ _ hlt, getD_set _ _ _ _ hlt, if_pos rfl, if_neg (by omega), hr (i + 1) (by omega), R0, E1.out, List.set_set]
  ·
   refine Ev.step (f := fun k => natdiv_shr.l0 k (out.set i y) (s : Int) (l.length : Int) ((i + 1 : Nat) : Int)) (fun k => ?_) next
   simp only [natdiv_shr.l0]
   rw [if_pos (by omega), if_pos (by omega), if_pos (by omega), if_pos (by omega), Option.bind_some, ew.out, if_neg (by omega), Int.toNat_natCast, R0, E2.out (gpast (by omega))]
theorem shr_ev (l : List Int) (hd : Dig 18446744073709551616 l) (n : Nat) (hl : l.length < 17592186044416) (hn : n < 4611686018427387904) : Ev (fun k => natdiv_shr.f k l (n : Int)) (dg 18446744073709551616 (V 18446744073709551616 l / 2 ^ n)) := by
 obtain ⟨e1, e2⟩ := split_n hn
 unfold natdiv_shr.f
 rw [e1, e2]
 have hP := two_pow_pos (n % 64)
 have hB := pow_pos' B_pos (n / 64)
 by_cases h : l.length ≤ n / 64
 ·
  refine Ev.congr (fun k => if_pos (by omega)) ?_
  have hv : V 18446744073709551616 l / 2 ^ n = 0 := by
   have h0 := V_nonneg B_pos hd
   have h1 := V_lt B_pos hd
   have h2 := pow_le (B := 18446744073709551616) B_pos h
   have h3 : (18446744073709551616 : Int) ^ (n / 64) * 1 ≤ 18446744073709551616 ^ (n / 64) * 2 ^ (n % 64) := Int.mul_le_mul_of_nonneg_left (show (1 : Int) ≤ 2 ^ (n % 64) by omega) (show (0 : Int) ≤ 18446744073709551616 ^ (n / 64) by omega)
   rw [pow_n]
   exact Int.ediv_eq_zero_of_lt h0 (by omega)
  rw [hv]
  exact Ev.now _
 ·
  refine Ev.congr (fun k => (if_neg (by omega)).trans ((if_pos (by omega)).trans (if_pos (by omega)))) ?_
  rw [Int.toNat_natCast]
  have hc : slices_Clone_uint64_uint64.f (l.drop (n / 64)) = some (l.drop (n / 64)) := by
   unfold slices_Clone_uint64_uint64.f
   exact if_pos (by simp; omega)
  rw [hc]
  have hv : V 18446744073709551616 l / 2 ^ n = V 18446744073709551616 (l.drop (n / 64)) / 2 ^ (n % 64) := by
   rw [pow_n, ← ediv_two (by omega), V_split 18446744073709551616 l (n := n / 64) (by omega), Int.add_mul_ediv_left _ _ (by omega)]
   have t0 := V_nonneg B_pos (hd.take (n / 64))
   have t1 := V_lt B_pos (hd.take (n / 64))
   rw [List.length_take, Nat.min_eq_left (by omega)] at t1
   rw [Int.ediv_eq_zero_of_lt t0 t1, Int.zero_add]
  rw [hv]
  simp only [Option.bind_some]
  exact shr_loop (l.drop (n / 64)) (hd.drop _) (n % 64) (by omega) (by simp; omega) (l.drop (n / 64)).length 0 _ (by omega) rfl (hd.drop _) (fun j _ => rfl) ⟨by simp [V]⟩
theorem pow64_le (n : Nat) : (2 : Int) ^ n ≤ 18446744073709551616 ^ (n / 64 + 1) := by
 rw [pow_n, Int.pow_succ]
 have h := two_pow_mono (show n % 64 ≤ 64 by omega)
 have e64 : (2 : Int) ^ 64 = 18446744073709551616 := by decide
 exact Int.mul_le_mul_of_nonneg_left (by omega) (Int.le_of_lt (pow_pos' B_pos _))
theorem Nm.shl {a v n} (h : Nm a v n) (k : Nat) (hl : k / 64 + n < 17592186044415) (hk : k < 4611686018427387904) : Ev (fun i => natdiv_shl.f i a (k : Int)) (Num.dg 18446744073709551616 (2 ^ k * v)) ∧ Nm (Num.dg 18446744073709551616 (2 ^ k * v)) (2 ^ k * v) (k / 64 + 1 + n) := by
 have h1 := h.len
 have e := shl_ev a h.dig k (by omega) hk
 rw [h.val] at e
 have n1 := h.nonneg
 have hP := two_pow_pos k
 refine ⟨e, Nm.dg (Int.mul_nonneg (by omega) n1) ?_⟩
 rw [Int.pow_add]
 have l1 := h.lt
 calc (2 : Int) ^ k * v ≤ 18446744073709551616 ^ (k / 64 + 1) * v := Int.mul_le_mul_of_nonneg_right (pow64_le k) n1
  _ < 18446744073709551616 ^ (k / 64 + 1) * 18446744073709551616 ^ n := Int.mul_lt_mul_of_pos_left l1 (pow_pos' B_pos _)
theorem Nm.shr {a v n} (h : Nm a v n) (k : Nat) (hl : n < 17592186044416) (hk : k < 4611686018427387904) : Ev (fun i => natdiv_shr.f i a (k : Int)) (Num.dg 18446744073709551616 (v / 2 ^ k)) ∧ Nm (Num.dg 18446744073709551616 (v / 2 ^ k)) (v / 2 ^ k) n := by
 have h1 := h.len
 have e := shr_ev a h.dig k (by omega) hk
 rw [h.val] at e
 have n1 := h.nonneg
 exact ⟨e, h.dg_le (Int.ediv_nonneg n1 (Int.le_of_lt (two_pow_pos k))) (Int.ediv_le_self _ n1)⟩
theorem odd_ok {n : Int} (h0 : 0 ≤ n) (h1 : n ≤ 65536) : natdiv_odd.f n = some false := by
 unfold natdiv_odd.f
 rw [if_neg (by omega), decide_eq_false (by omega)]
theorem Nm.Shl {a v n} (h : Nm a v n) (k : Nat) (hl : k / 64 + n < 17592186044415) (hk : k ≤ 65536) : Ev (fun i => natdiv_Shl.f i a (k : Int)) (Num.dg 18446744073709551616 (2 ^ k * v), 0) ∧ Nm (Num.dg 18446744073709551616 (2 ^ k * v)) (2 ^ k * v) (k / 64 + 1 + n) := by
 obtain ⟨e, m⟩ := h.shl k (by omega) (by omega)
 refine ⟨?_, m⟩
 unfold natdiv_Shl.f
 have ho : Ev (fun _ => natdiv_odd.f (k : Int)) false := by
  rw [odd_ok (by omega) (by omega)]
  exact Ev.now _
 exact Ev.bind ho (Ev.congr (fun i => if_neg Bool.false_ne_true) (Ev.bind e (Ev.now _)))
theorem Nm.Shr {a v n} (h : Nm a v n) (k : Nat) (hl : n < 17592186044416) (hk : k ≤ 65536) : Ev (fun i => natdiv_Shr.f i a (k : Int)) (Num.dg 18446744073709551616 (v / 2 ^ k), 0) ∧ Nm (Num.dg 18446744073709551616 (v / 2 ^ k)) (v / 2 ^ k) n := by
 obtain ⟨e, m⟩ := h.shr k (by omega) (by omega)
 refine ⟨?_, m⟩
 unfold natdiv_Shr.f
 have ho : Ev (fun _ => natdiv_odd.f (k : Int)) false := by
  rw [odd_ok (by omega) (by omega)]
  exact Ev.now _
 exact Ev.bind ho (Ev.congr (fun i => if_neg Bool.false_ne_true) (Ev.bind e (Ev.now _)))
end Go.Proofs.YtjgdpjbkmcjbcaaDoor.PG
end
section
namespace Go.Proofs.YtjgdpjbkmcjbcaaDoor.PG
open Go.RowKit Go.Proofs.YtjgdpjbkmcjbcaaDoorW.PrintWords Go.Proofs.YtjgdpjbkmcjbcaaDoorW.PrintLast Go.Proofs.YtjgdpjbkmcjbcaaDoor.Num
set_option linter.unusedVariables false
set_option linter.unusedSimpArgs false
def wz (z : Int) : Bool × List Int := (decide (z < 0), dg 18446744073709551616 (z.natAbs : Int))
structure Wh (s : Bool) (a : List Int) (z : Int) (n : Nat) : Prop where
 nm : Nm a (z.natAbs : Int) n
 val : z = sv s (z.natAbs : Int)
theorem Wh.of {s a v n} (h : Nm a v n) : Wh s a (sv s v) n := by
 have h0 := h.nonneg
 have e : (((sv s v).natAbs : Nat) : Int) = v := by unfold sv; split <;> omega
 exact ⟨by rw [e]; exact h, by rw [e]⟩
theorem Wh.made {z : Int} {n : Nat} (h : (z.natAbs : Int) < 18446744073709551616 ^ n) : Wh (wz z).1 (wz z).2 z n := by
 refine ⟨Nm.dg (by omega) h, ?_⟩
 unfold sv wz
 simp only [decide_eq_true_eq]
 split <;> omega
theorem Wh.lt {s a z n} (h : Wh s a z n) : (z.natAbs : Int) < 18446744073709551616 ^ n := h.nm.lt
theorem Wh.mono {s a z n m} (h : Wh s a z n) (hm : n ≤ m) : Wh s a z m := ⟨h.nm.mono hm, h.val⟩
theorem wmade_ev {s : Bool} {l : List Int} {v : Int} {n : Nat} (h : Nm l v n) (hn : n ≤ 17592186044416) : Ev (fun k => whole_made.f k s l) (wz (sv s v)) := by
 have h0 := h.nonneg
 unfold whole_made.f
 refine Ev.bind (h.norm hn).1 ?_
 have e : (((sv s v).natAbs : Nat) : Int) = v := by unfold sv; split <;> omega
 have hz := dg_nil (B := 18446744073709551616) one_lt_B h0
 cases s
 ·
  have : wz (sv false v) = (false, dg 18446744073709551616 v) := by
   unfold wz
   rw [e]
   congr 1
   exact decide_eq_false (by simp [sv]; omega)
  rw [this]
  exact Ev.congr (fun k => if_neg (by decide)) (Ev.now _)
 ·
  have : wz (sv true v) = (decide (((dg 18446744073709551616 v).length : Int) > 0), dg 18446744073709551616 v) := by
   unfold wz
   rw [e]
   congr 1
   refine decide_eq_decide.2 ?_
   have : sv true v = -v := rfl
   rw [this]
   constructor
   ·
    intro h1
    have : dg 18446744073709551616 v ≠ [] := fun h2 => by have := hz.1 h2; omega
    have := List.length_pos_iff.2 this
    omega
   ·
    intro h1
    have : v ≠ 0 := fun h2 => by have h3 := hz.2 h2; rw [h3] at h1; simp at h1
    omega
  rw [this]
  exact Ev.congr (fun k => if_pos rfl) (Ev.now _)
theorem Wh.add {s a x n t b y m} (p : Nat) (h : Wh s a x n) (g : Wh t b y m) (hn : n ≤ p) (hm : m ≤ p) (hp : p < 17592186044416) : Ev (fun k => whole_Add.f k s a t b) (wz (x + y)) ∧ Wh (wz (x + y)).1 (wz (x + y)).2 (x + y) (p + 1) := by
 have l1 := (h.mono hn).lt
 have l2 := (g.mono hm).lt
 refine ⟨?_, Wh.made (by rw [Int.pow_succ]; omega)⟩
 have hx := h.val
 have hy := g.val
 unfold whole_Add.f
 by_cases e : s = t
 ·
  subst e
  refine Ev.congr (fun k => if_pos (by simp)) ?_
  obtain ⟨e1, n1⟩ := h.nm.add p g.nm hn hm (by omega)
  have ez : sv s ((x.natAbs : Int) + (y.natAbs : Int)) = x + y := by
   clear e1 n1 l1 l2
   revert hx hy
   unfold sv
   cases s <;> intro hx hy <;> simp only [Bool.false_eq_true, ↓reduceIte] at hx hy ⊢ <;> omega
  have e2 := wmade_ev (s := s) n1 (by omega)
  rw [ez] at e2
  exact Ev.bind e1 (Ev.bind e2 (Ev.now _))
 ·
  refine Ev.congr (fun k => if_neg (by simpa using e)) ?_
  obtain ⟨e1, n1⟩ := h.nm.sub p g.nm hn hm (by omega)
  refine Ev.bind (h.nm.cmp g.nm (by omega) (by omega)) ?_
  have key : ∀ (c : Bool) (fs : Bool), sv fs ((((x.natAbs : Int) - (y.natAbs : Int)).natAbs : Nat) : Int) = x + y → Ev (fun k => whole_made.f k fs (dg 18446744073709551616 (((x.natAbs : Int) - (y.natAbs : Int)).natAbs : Int))) (wz (x + y)) := by
   intro c fs hf
   have e2 := wmade_ev (s := fs) n1 (by omega)
   rwa [hf] at e2
  by_cases hlt : (x.natAbs : Int) < (y.natAbs : Int)
  ·
   have ec : decide (sgn ((x.natAbs : Int) - (y.natAbs : Int)) < 0) = true := decide_eq_true (sgn_neg_iff.2 (by omega))
   rw [ec]
   refine Ev.bind (a := (t, b)) (by unfold api_Whole.f; exact Ev.congr (fun k => if_pos rfl) (Ev.now _)) ?_
   refine Ev.bind e1 (Ev.bind (key true t ?_) (Ev.now _))
   clear key e1 n1 l1 l2 ec
   revert hx hy e
   unfold sv
   cases s <;> cases t <;> intro hx hy e <;> first | exact absurd rfl e | (simp only [Bool.false_eq_true, ↓reduceIte] at hx hy ⊢; omega)
  ·
   have ec : decide (sgn ((x.natAbs : Int) - (y.natAbs : Int)) < 0) = false := decide_eq_false (fun h' => hlt (by have := sgn_neg_iff.1 h'; omega))
   rw [ec]
   refine Ev.bind (a := (s, a)) (by unfold api_Whole.f; exact Ev.congr (fun k => if_neg (by decide)) (Ev.now _)) ?_
   refine Ev.bind e1 (Ev.bind (key true s ?_) (Ev.now _))
   clear key e1 n1 l1 l2 ec
   revert hx hy e
   unfold sv
   cases s <;> cases t <;> intro hx hy e <;> first | exact absurd rfl e | (simp only [Bool.false_eq_true, ↓reduceIte] at hx hy ⊢; omega)
theorem Wh.neg {s a x n} (h : Wh s a x n) (hn : n ≤ 17592186044416) : Ev (fun k => whole_Neg.f k s a) (wz (-x)) ∧ Wh (wz (-x)).1 (wz (-x)).2 (-x) n := by
 refine ⟨?_, Wh.made (by have := h.lt; rwa [Int.natAbs_neg])⟩
 unfold whole_Neg.f
 have e := wmade_ev (s := !s) h.nm hn
 have ez : sv (!s) (x.natAbs : Int) = -x := by
  have hx := h.val
  revert hx
  unfold sv
  cases s <;> simp <;> omega
 rw [ez] at e
 exact Ev.bind e (Ev.now _)
theorem Wh.mul {s a x n t b y m} (h : Wh s a x n) (g : Wh t b y m) (hp : n + m ≤ 17592186044416) : Ev (fun k => whole_Mul.f k s a t b) (wz (x * y)) ∧ Wh (wz (x * y)).1 (wz (x * y)).2 (x * y) (n + m) := by
 obtain ⟨e1, n1⟩ := h.nm.mul g.nm (by omega)
 have ea : (((x * y).natAbs : Nat) : Int) = (x.natAbs : Int) * (y.natAbs : Int) := by rw [Int.natAbs_mul]; simp
 refine ⟨?_, Wh.made (by rw [ea]; exact n1.lt)⟩
 unfold whole_Mul.f
 have e2 := wmade_ev (s := s != t) n1 hp
 have ez : sv (s != t) ((x.natAbs : Int) * (y.natAbs : Int)) = x * y := by
  have hx := h.val
  have hy := g.val
  generalize (x.natAbs : Int) = v at hx
  generalize (y.natAbs : Int) = w at hy
  subst hx
  subst hy
  unfold sv
  cases s <;> cases t <;> simp [Int.mul_neg, Int.neg_mul]
 rw [ez] at e2
 exact Ev.bind e1 (Ev.bind e2 (Ev.now _))
theorem Wh.sign {s a x n} (h : Wh s a x n) (hn : n ≤ 35184372088832) : Ev (fun k => whole_Sign.f k s a) (sgn x) := by
 unfold whole_Sign.f
 refine Ev.bind (h.nm.bits hn) ?_
 have hb := bitsOf_zero_iff (v := (x.natAbs : Int)) (by omega)
 have hx := h.val
 by_cases h0 : x = 0
 ·
  refine Ev.congr (fun k => if_pos (hb.2 (by omega))) ?_
  subst h0
  exact Ev.now _
 ·
  refine Ev.congr (fun k => if_neg (fun h' => by have := hb.1 h'; omega)) ?_
  cases s
  ·
   refine Ev.congr (fun k => if_neg (by decide)) ?_
   have : sgn x = 1 := by unfold sgn; unfold sv at hx; rw [if_neg (by decide)] at hx; rw [if_neg (by omega), if_neg h0]
   rw [this]
   exact Ev.now _
  ·
   refine Ev.congr (fun k => if_pos rfl) ?_
   have : sgn x = -1 := by unfold sgn; unfold sv at hx; rw [if_pos rfl] at hx; rw [if_pos (by omega)]
   rw [this]
   exact Ev.now _
end Go.Proofs.YtjgdpjbkmcjbcaaDoor.PG
end
section
namespace Go.Proofs.YtjgdpjbkmcjbcaaDoor.PG
open Go.RowKit Go.Proofs.YtjgdpjbkmcjbcaaDoorW.PrintWords Go.Proofs.YtjgdpjbkmcjbcaaDoorW.PrintLast Go.Proofs.YtjgdpjbkmcjbcaaDoorW.PrintMore Go.Proofs.YtjgdpjbkmcjbcaaDoor.Num
set_option linter.unusedVariables false
set_option linter.unusedSimpArgs false
def Odd2 (v : Int) (t : Nat) (m : Int) : Prop := v = 2 ^ t * (2 * m + 1)
theorem Odd2.uniq {v : Int} {t s : Nat} {m n : Int} (h : Odd2 v t m) (g : Odd2 v s n) : t = s ∧ m = n := by
 unfold Odd2 at h g
 have key : ∀ (a b : Nat) (x y : Int), a ≤ b → (2 : Int) ^ a * (2 * x + 1) = 2 ^ b * (2 * y + 1) → a = b ∧ x = y := by
  intro a b x y hab e
  obtain ⟨d, rfl⟩ : ∃ d, b = a + d := ⟨b - a, by omega⟩
  have hp := two_pow_pos a
  rw [Int.pow_add, Int.mul_assoc] at e
  have e2 := Int.eq_of_mul_eq_mul_left (by omega) e
  cases d with
  | zero =>
   rw [Int.pow_zero, Int.one_mul] at e2
   exact ⟨rfl, by omega⟩
  | succ d =>
   exfalso
   rw [Int.pow_succ] at e2
   generalize (2 : Int) ^ d = P at e2
   have : P * 2 * (2 * y + 1) = 2 * (P * (2 * y + 1)) := by grind
   omega
 rcases Nat.le_total t s with hts | hts
 ·
  exact key t s m n hts (by rw [← h, ← g])
 ·
  have := key s t n m hts (by rw [← h, ← g])
  exact ⟨this.1.symm, this.2.symm⟩
theorem tz_some {x : Int} (h0 : 0 < x) (h1 : x < 18446744073709551616) : ∃ (c : Nat) (m : Int), bits_TrailingZeros64.f x = some (c : Int) ∧ c < 64 ∧ 0 ≤ m ∧ Odd2 x c m := by
 obtain ⟨n, rfl⟩ := Int.eq_ofNat_of_zero_le (Int.le_of_lt h0)
 obtain ⟨m, hm, hc⟩ := Lib.ctzFrom_spec 64 n (by omega) (by omega)
 refine ⟨Lib.ctzFrom 64 n, m, ?_, hc, by omega, ?_⟩
 ·
  unfold bits_TrailingZeros64.f
  rw [if_pos ⟨by omega, by omega⟩, Int.toNat_natCast]
  unfold Lib.ctz
  rw [if_neg (by omega)]
 ·
  unfold Odd2
  have : ((n : Nat) : Int) = ((2 ^ Lib.ctzFrom 64 n * (2 * m + 1) : Nat) : Int) := congrArg _ hm
  rw [this]
  push_cast
  rfl
theorem low_zeros {l : List Int} {i : Nat} (hi : i ≤ l.length) (h : ∀ j, j < i → l.getD j 0 = 0) : V 18446744073709551616 l = 18446744073709551616 ^ i * V 18446744073709551616 (l.drop i) := by
 have a := V_split 18446744073709551616 l hi
 have b : V 18446744073709551616 (l.take i) = 0 := V_zeros 18446744073709551616 _ (fun j => by
  rw [getD_take]
  split
  ·
   exact h j (by omega)
  ·
   rfl)
 rw [a, b]
 omega
theorem odd_high {x Y : Int} {c : Nat} {m : Int} (hc : c < 64) (h : Odd2 x c m) (i : Nat) : Odd2 (18446744073709551616 ^ i * (x + 18446744073709551616 * Y)) (64 * i + c) (m + 2 ^ (63 - c) * Y) := by
 unfold Odd2 at h ⊢
 have e1 : (18446744073709551616 : Int) = 2 ^ 64 := by decide
 have e2 : (18446744073709551616 : Int) ^ i = 2 ^ (64 * i) := by rw [e1, ← Int.pow_mul]
 have e3 : (18446744073709551616 : Int) = 2 ^ c * (2 ^ (63 - c) * 2) := by
  rw [← Int.mul_assoc, ← Int.pow_add, ← Int.pow_succ, show (c + (63 - c)).succ = 64 by omega]
  rfl
 have e4 : 18446744073709551616 * Y = 2 ^ c * (2 ^ (63 - c) * 2) * Y := by rw [← e3]
 rw [e2, e4, h, Int.pow_add]
 grind
theorem zeros_loop (l : List Int) (hd : Dig 18446744073709551616 l) (hl : l.length ≤ 17592186044416) : ∀ (d i : Nat), l.length = i + d → (∀ j, j < i → l.getD j 0 = 0) →
  ∃ n : Nat, Ev (fun k => natdiv_Zeros.l0 k l (l.length : Int) (i : Int)) (n : Int) ∧ ((V 18446744073709551616 l = 0 ∧ n = 0) ∨ ∃ m, 0 ≤ m ∧ Odd2 (V 18446744073709551616 l) n m ∧ n < 64 * l.length)
 | 0, i, hi, hz => by
  refine ⟨0, Ev.step (f := fun _ => some 0) (fun k => ?_) (Ev.now _), .inl ⟨?_, rfl⟩⟩
  ·
   rw [natdiv_Zeros.l0, if_neg (by omega)]
  ·
   rw [low_zeros (i := i) (by omega) hz, V_drop_all _ _ (by omega)]
   omega
 | d + 1, i, hi, hz => by
  have hx := hd.getD B_pos i
  by_cases h0 : l.getD i 0 = 0
  ·
   obtain ⟨n, e, h⟩ := zeros_loop l hd hl d (i + 1) (by omega) (fun j hj => by
    by_cases e : j = i
    ·
     rw [e]; exact h0
    ·
     exact hz j (by omega))
   refine ⟨n, Ev.step (f := fun k => natdiv_Zeros.l0 k l (l.length : Int) ((i + 1 : Nat) : Int)) (fun k => ?_) e, h⟩
   rw [natdiv_Zeros.l0, rd_nat, if_pos (by omega), if_pos (by omega), if_pos (by omega), if_pos h0, w64 (by omega) (by omega)]
   rfl
  ·
   obtain ⟨c, m, hf, hc, hm, ho⟩ := tz_some (x := l.getD i 0) (by omega) hx.2
   have hv := low_zeros (l := l) (i := i) (by omega) hz
   rw [V_drop_succ 18446744073709551616 l i (by omega)] at hv
   have hodd := odd_high (Y := V 18446744073709551616 (l.drop (i + 1))) hc ho i
   rw [← hv] at hodd
   have hY := V_nonneg B_pos (hd.drop (i + 1))
   refine ⟨64 * i + c, Ev.step (f := fun _ => some ((64 * i + c : Nat) : Int)) (fun k => ?_) (Ev.now _), .inr ⟨_, ?_, hodd, by omega⟩⟩
   ·
    rw [natdiv_Zeros.l0, rd_nat, if_pos (by omega), if_pos (by omega), if_pos (by omega), if_neg h0, hf]
    simp only [Option.bind_some]
    rw [w64 (x := 64 * (i : Int)) (by omega) (by omega), w64 (by omega) (by omega)]
    congr 1
   ·
    have := Int.mul_nonneg (Int.le_of_lt (two_pow_pos (63 - c))) hY
    omega
theorem Nm.zeros {a v n} (h : Nm a v n) (hn : n ≤ 17592186044416) : ∃ t : Nat, Ev (fun k => natdiv_Zeros.f k a) (t : Int) ∧ ((v = 0 ∧ t = 0) ∨ ∃ m, 0 ≤ m ∧ Odd2 v t m ∧ t < 64 * n) := by
 have hl := h.len
 obtain ⟨t, e, ht⟩ := zeros_loop a h.dig (by omega) a.length 0 (by omega) (fun j hj => by omega)
 rw [h.val] at ht
 refine ⟨t, Ev.congr (fun k => rfl) e, ht.imp id ?_⟩
 rintro ⟨m, h0, h1, h2⟩
 exact ⟨m, h0, h1, by omega⟩
end Go.Proofs.YtjgdpjbkmcjbcaaDoor.PG
end
section
namespace Go.Proofs.YtjgdpjbkmcjbcaaDoor.PG
open Go.RowKit Go.Proofs.YtjgdpjbkmcjbcaaDoorW.PrintWords Go.Proofs.YtjgdpjbkmcjbcaaDoorW.PrintLast Go.Proofs.YtjgdpjbkmcjbcaaDoorW.PrintMore Go.Proofs.YtjgdpjbkmcjbcaaDoor.Num
set_option linter.unusedVariables false
set_option linter.unusedSimpArgs false
def dmay (l : List Int) (e : Int) : Prop := -16384 ≤ e ∧ e ≤ 16384 ∧ l.length ≤ 1024
instance (l : List Int) (e : Int) : Decidable (dmay l e) := by unfold dmay; exact inferInstance
theorem check_ok {s : Bool} {l : List Int} {e : Int} (h : dmay l e) : dyadic_Check.f s l e = some 0 := by
 obtain ⟨h0, h1, h2⟩ := h
 unfold dyadic_Check.f
 rw [if_neg (by omega), if_neg (by omega), if_neg (by omega)]
theorem check_no {s : Bool} {l : List Int} {e : Int} (h : ¬ dmay l e) : dyadic_Check.f s l e = some 9 := by
 unfold dmay at h
 unfold dyadic_Check.f
 by_cases h0 : e < -16384
 ·
  rw [if_pos h0]
 ·
  rw [if_neg h0]
  by_cases h1 : e > 16384
  ·
   rw [if_pos h1]
  ·
   rw [if_neg h1, if_pos (by omega)]
def dtold (s : Bool) (l : List Int) (e : Int) : Bool × List Int × Int × Int := if dmay l e then (s, l, e, 0) else (false, [], 0, 4)
theorem dtold_loop {v : Int} {n : Nat} (hn : n ≤ 10000000) (x1 x6 : Int) (s : Bool) (og : List Int) : ∀ (f left : Nat) (a : List Int) (d : Nat), left ≤ f → left < 1000000000 → Nm a (v / 2 ^ d) n →
  Ev (fun k => dyadic_told.l0 k x1 x6 a (left : Int) s og) (dtold s (dg 18446744073709551616 (v / 2 ^ (d + left))) (wrap64 (x1 + x6)))
 | f, 0, a, d, hf, hl, ha => by
  obtain ⟨e1, n1⟩ := ha.norm (by omega)
  refine Ev.step (f := _) (fun k => by rw [dyadic_told.l0, if_neg (by omega)]) (Ev.bind e1 ?_)
  rw [Nat.add_zero]
  unfold dtold
  by_cases hm : dmay (dg 18446744073709551616 (v / 2 ^ d)) (wrap64 (x1 + x6))
  ·
   rw [if_pos hm]
   exact Ev.bind (g := fun _ => dyadic_Check.f s (dg 18446744073709551616 (v / 2 ^ d)) (wrap64 (x1 + x6))) (Ev.congr (fun _ => check_ok hm) (Ev.now _)) (Ev.congr (fun k => if_pos rfl) (Ev.now _))
  ·
   rw [if_neg hm]
   exact Ev.bind (g := fun _ => dyadic_Check.f s (dg 18446744073709551616 (v / 2 ^ d)) (wrap64 (x1 + x6))) (Ev.congr (fun _ => check_no hm) (Ev.now _)) (Ev.congr (fun k => if_neg (by decide)) (Ev.now _))
 | 0, left + 1, a, d, hf, hl, ha => by omega
 | f + 1, left + 1, a, d, hf, hl, ha => by
  obtain ⟨c, hc, hc1, hc2⟩ : ∃ c : Nat, mn ((left + 1 : Nat) : Int) 65536 = (c : Int) ∧ 0 < c ∧ c ≤ 65536 := ⟨(mn ((left + 1 : Nat) : Int) 65536).toNat, by unfold mn; split <;> omega⟩
  have hcl : c ≤ left + 1 := by unfold mn at hc; split at hc <;> omega
  obtain ⟨e1, n1⟩ := ha.Shr c (by omega) hc2
  have ed : v / 2 ^ d / 2 ^ c = v / 2 ^ (d + c) := by rw [ediv_two (two_pow_pos d), ← Int.pow_add]
  rw [ed] at e1 n1
  by_cases hlast : left + 1 ≤ 65536
  ·
   have hcc : c = left + 1 := by unfold mn at hc; split at hc <;> omega
   have hrec := dtold_loop hn x1 x6 s og f 0 _ (d + c) (by omega) (by omega) n1
   rw [Nat.add_zero, hcc] at hrec
   have hneg : Ev (fun k => dyadic_told.l0 k x1 x6 (dg 18446744073709551616 (v / 2 ^ (d + (left + 1)))) (wrap64 (((left + 1 : Nat) : Int) - 65536)) s og) (dtold s (dg 18446744073709551616 (v / 2 ^ (d + (left + 1)))) (wrap64 (x1 + x6))) := by
    rw [hcc] at n1
    obtain ⟨e2, n2⟩ := n1.norm (by omega)
    refine Ev.step (f := _) (fun k => by rw [dyadic_told.l0, if_neg (by rw [w64 (by omega) (by omega)]; omega)]) (Ev.bind e2 ?_)
    unfold dtold
    by_cases hm : dmay (dg 18446744073709551616 (v / 2 ^ (d + (left + 1)))) (wrap64 (x1 + x6))
    ·
     rw [if_pos hm]
     exact Ev.bind (g := fun _ => dyadic_Check.f s (dg 18446744073709551616 (v / 2 ^ (d + (left + 1)))) (wrap64 (x1 + x6))) (Ev.congr (fun _ => check_ok hm) (Ev.now _)) (Ev.congr (fun k => if_pos rfl) (Ev.now _))
    ·
     rw [if_neg hm]
     exact Ev.bind (g := fun _ => dyadic_Check.f s (dg 18446744073709551616 (v / 2 ^ (d + (left + 1)))) (wrap64 (x1 + x6))) (Ev.congr (fun _ => check_no hm) (Ev.now _)) (Ev.congr (fun k => if_neg (by decide)) (Ev.now _))
   refine Ev.step (f := _) (fun k => by rw [dyadic_told.l0, if_pos (by omega), hc]) (Ev.bind e1 ?_)
   rw [hcc]
   exact hneg
  ·
   have hcc : c = 65536 := by unfold mn at hc; split at hc <;> omega
   obtain ⟨r, hr⟩ : ∃ r, left + 1 = r + 65536 := ⟨left + 1 - 65536, by omega⟩
   have hrec := dtold_loop hn x1 x6 s og f r _ (d + c) (by omega) (by omega) n1
   rw [show d + c + r = d + (left + 1) by omega] at hrec
   refine Ev.step (f := _) (fun k => by rw [dyadic_told.l0, if_pos (by omega), hc]) (Ev.bind e1 ?_)
   rw [w64 (x := ((left + 1 : Nat) : Int) - 65536) (by omega) (by omega), show ((left + 1 : Nat) : Int) - 65536 = (r : Int) by omega]
   exact hrec
theorem dtold0_ev {s : Bool} {l : List Int} {n : Nat} (h : Nm l 0 n) (hn : n ≤ 10000000) (exp : Int) : Ev (fun k => dyadic_told.f k s l exp) (false, [], 0, 0) := by
 have hw : Wh s l (sv s 0) n := Wh.of h
 have e := hw.sign (by omega)
 have hz : sgn (sv s 0) = 0 := by cases s <;> rfl
 rw [hz] at e
 unfold dyadic_told.f
 exact Ev.bind e (Ev.congr (fun k => if_pos rfl) (Ev.now _))
theorem odd2_pos {v m : Int} {t : Nat} (h : Odd2 v t m) (hm : 0 ≤ m) : 0 < v := by
 unfold Odd2 at h
 rw [h]
 exact Int.mul_pos (two_pow_pos t) (by omega)
theorem odd2_div {v m : Int} {t : Nat} (h : Odd2 v t m) : v / 2 ^ t = 2 * m + 1 := by
 unfold Odd2 at h
 rw [h]
 exact Int.mul_ediv_cancel_left _ (by have := two_pow_pos t; omega)
theorem dtold_ev {s : Bool} {l : List Int} {v m : Int} {t n : Nat} (h : Nm l v n) (hn : n ≤ 10000000) (ho : Odd2 v t m) (hm : 0 ≤ m) (exp : Int) : Ev (fun k => dyadic_told.f k s l exp) (dtold s (dg 18446744073709551616 (2 * m + 1)) (wrap64 (exp + t))) := by
 have hv := odd2_pos ho hm
 have hw : Wh s l (sv s v) n := Wh.of h
 have e := hw.sign (by omega)
 have hz : sgn (sv s v) ≠ 0 := by
  unfold sgn sv
  split <;> split <;> (try split) <;> omega
 obtain ⟨t', e2, ht⟩ := h.zeros (by omega)
 have ht' : t' = t ∧ t' < 64 * n := by
  rcases ht with ⟨h0, _⟩ | ⟨m', _, h1, h2⟩
  ·
   omega
  ·
   exact ⟨(h1.uniq ho).1, h2⟩
 obtain ⟨rfl, hb⟩ := ht'
 have hl := dtold_loop (v := v) hn exp (t' : Int) s l t' t' l 0 (Nat.le_refl _) (by omega) (by rw [Int.pow_zero, Int.ediv_one]; exact h)
 rw [Nat.zero_add, odd2_div ho] at hl
 unfold dyadic_told.f
 exact Ev.bind e (Ev.congr (fun k => if_neg hz) (Ev.bind e2 hl))
end Go.Proofs.YtjgdpjbkmcjbcaaDoor.PG
end
