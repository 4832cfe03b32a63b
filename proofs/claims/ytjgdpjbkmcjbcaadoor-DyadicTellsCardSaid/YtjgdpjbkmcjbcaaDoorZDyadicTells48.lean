/- Parts of a proof. -/
import Derived.Lib.EndianBits
import Derived.Test.YtjgdpjbkmcjbcaaDoorZDyadicTells47
section
namespace Go.Proofs.YtjgdpjbkmcjbcaaDoor.PG
open Go.RowKit Go.Proofs.YtjgdpjbkmcjbcaaDoorW.PrintWords Go.Proofs.YtjgdpjbkmcjbcaaDoorW.PrintLast Go.Proofs.YtjgdpjbkmcjbcaaDoorW.PrintMore Go.Proofs.YtjgdpjbkmcjbcaaDoor.Num
set_option linter.unusedVariables false
set_option linter.unusedSimpArgs false
theorem ediv_two {x y z : Int} (hy : 0 < y) : x / y / z = x / (y * z) := by rw [Int.ediv_ediv, if_neg (by omega), Int.sub_zero]
theorem gpast {l : List Int} {n : Nat} (h : l.length ≤ n) : l.getD n 0 = 0 := by rw [List.getD_eq_getElem?_getD, List.getElem?_eq_none h]; rfl
theorem two64 {s : Nat} (hs : s ≤ 64) : (2 : Int) ^ s * 2 ^ (64 - s) = 18446744073709551616 := by
 rw [← Int.pow_add, show s + (64 - s) = 64 by omega]
 decide
theorem mod_shift {P Q x : Int} (hP : 0 < P) (hQ : 0 < Q) (h : P * Q = 18446744073709551616) (h0 : 0 ≤ x) : x * P % 18446744073709551616 = P * (x % Q) := by
 have e := Int.emod_add_mul_ediv x Q
 have m0 := Int.emod_nonneg x (show Q ≠ 0 by omega)
 have m1 := Int.emod_lt_of_pos x hQ
 have e1 : x * P = P * (x % Q) + 18446744073709551616 * (x / Q) := by
  rw [← h]
  have : P * (x % Q + Q * (x / Q)) = P * x := by rw [e]
  grind
 rw [e1, Int.add_mul_emod_self_left, Int.emod_eq_of_lt (Int.mul_nonneg (by omega) m0)]
 have : P * (x % Q) ≤ P * (Q - 1) := Int.mul_le_mul_of_nonneg_left (by omega) (by omega)
 have e2 : P * (Q - 1) = 18446744073709551616 - P := by rw [Int.mul_sub, h, Int.mul_one]
 omega
theorem div_two (x : Int) (s : Nat) (hs : s < 64) : x / 2 / 2 ^ (63 - s) = x / 2 ^ (64 - s) := by
 have e : (2 : Int) ^ (64 - s) = 2 * 2 ^ (63 - s) := by
  rw [show 64 - s = 63 - s + 1 by omega, Int.pow_succ, Int.mul_comm]
 rw [e, ediv_two (by decide)]
theorem shl_u64 {x : Int} {s : Nat} (h : s ≤ 64) : shl .u64 x (s : Int) = x * 2 ^ s % 18446744073709551616 := by
 unfold shl
 rw [show IntKind.u64.bits = 64 from rfl, Int.toNat_natCast, Nat.min_eq_left h, IntKind.wrap_u64]
theorem shr_u64 {x : Int} {s : Nat} (h : s ≤ 64) : shr .u64 x (s : Int) = x / 2 ^ s := by
 unfold shr
 rw [show IntKind.u64.bits = 64 from rfl, Int.toNat_natCast, Nat.min_eq_left h]
theorem back63 {s : Nat} (h : s < 64) : IntKind.u64.wrap (63 - (s : Int)) = ((63 - s : Nat) : Int) := by rw [u64w (by omega) (by omega)]; omega
theorem or_high {s : Nat} {x c : Int} (hx0 : 0 ≤ x) (hx : x < 18446744073709551616) (hm : x % 2 ^ s = 0) (hc0 : 0 ≤ c) (hc : c < 2 ^ s) (hc1 : c < 18446744073709551616) : Go.bits .or .u64 x c = x + c :=
 bits_join .u64 64 (by decide) wraps_u64 s x c hx0 hm hx hc0 hc hc1
theorem or_low {s : Nat} {x c : Int} (hx0 : 0 ≤ x) (hx : x < 18446744073709551616) (hm : x % 2 ^ s = 0) (hc0 : 0 ≤ c) (hc : c < 2 ^ s) (hc1 : c < 18446744073709551616) : Go.bits .or .u64 c x = c + x :=
 bits_join_low .u64 64 (by decide) wraps_u64 s c x hc0 hc hc1 hx0 hm hx
end Go.Proofs.YtjgdpjbkmcjbcaaDoor.PG
end
section
namespace Go.Proofs.YtjgdpjbkmcjbcaaDoor.PG
open Go.RowKit Go.Proofs.YtjgdpjbkmcjbcaaDoorW.PrintWords Go.Proofs.YtjgdpjbkmcjbcaaDoorW.PrintLast Go.Proofs.YtjgdpjbkmcjbcaaDoorW.PrintMore Go.Proofs.YtjgdpjbkmcjbcaaDoor.Num
set_option linter.unusedVariables false
set_option linter.unusedSimpArgs false
theorem pow16 (n : Nat) : (2 : Int) ^ n = 65536 ^ (n / 16) * 2 ^ (n % 16) := by
 have e : (65536 : Int) = 2 ^ 16 := by decide
 rw [e, ← Int.pow_mul, ← Int.pow_add]
 congr 1
 omega
theorem pow2_lt16 {m : Nat} (h : m ≤ 15) : (2 : Int) ^ m ≤ 32768 := by
 have := two_pow_mono h
 have e : (2 : Int) ^ 15 = 32768 := by decide
 omega
theorem Nd.one {x : Int} (h0 : 0 < x) (h1 : x < 65536) : Nd [x] x 1 := ⟨⟨Dig.cons (by omega) h1 (Dig.nil _), .inr (by simp; omega)⟩, by simp [V], by simp⟩
theorem Nd.pow_lt {a v m} (h : Nd a v m) (n : Nat) : 2 ^ n * v < 65536 ^ (n / 16 + 1 + m) := by
 rw [Int.pow_add, pow16]
 have h1 := h.lt
 have h0 := h.nonneg
 have hp := pow_pos' D_pos (n / 16)
 have e1 := pow2_lt16 (m := n % 16) (by omega)
 have e2 : (65536 : Int) ^ (n / 16) * 2 ^ (n % 16) ≤ 65536 ^ (n / 16 + 1) := by
  rw [Int.pow_succ]
  exact Int.mul_le_mul_of_nonneg_left (by omega) (by omega)
 calc (65536 : Int) ^ (n / 16) * 2 ^ (n % 16) * v ≤ 65536 ^ (n / 16 + 1) * v := Int.mul_le_mul_of_nonneg_right e2 h0
  _ < 65536 ^ (n / 16 + 1) * 65536 ^ m := Int.mul_lt_mul_of_pos_left h1 (pow_pos' D_pos _)
theorem rshl_loop {a : List Int} {v : Int} {m : Nat} (h : Nd a v m) (n : Nat) (hm : n / 16 + m + 2 < 17592186044416) (hn : n < 4611686018427387904) : ∀ (d i : Nat), n % 16 = i + d →
  Ev (fun k => vernierref01_Shl.l0 k a (n : Int) (List.replicate (n / 16) 0) (2 ^ i) (i : Int)) (dg 65536 (2 ^ n * v))
 | 0, i, hi => by
  have p0 := two_pow_pos i
  have p1 := pow2_lt16 (m := i) (by omega)
  obtain ⟨e1, n1⟩ := h.mul (Nd.one (x := 2 ^ i) p0 (by omega)) (by omega)
  have hl := n1.len
  refine Ev.step (f := fun k => (vernierref01_Mul.f k a [2 ^ i]).bind fun t => if (List.replicate (n / 16) (0 : Int)).length + t.length < 17592186044416 then (vernierref01_cut.f k (List.replicate (n / 16) 0 ++ t)).bind fun t' => some t' else none) (fun k => ?_) ?_
  ·
   simp only [vernierref01_Shl.l0]
   rw [tmod_nn (by omega), if_neg (by omega)]
  refine Ev.bind e1 ?_
  refine Ev.congr (fun k => if_pos (by rw [List.length_replicate]; omega)) ?_
  have hd : Dig 65536 (List.replicate (n / 16) 0 ++ dg 65536 (v * 2 ^ i)) := (Dig.replicate D_pos _).append n1.nrm.1
  have e2 := rcut_ev' _ (by rw [List.length_append, List.length_replicate]; omega) hd
  have ev : V 65536 (List.replicate (n / 16) 0 ++ dg 65536 (v * 2 ^ i)) = 2 ^ n * v := by
   rw [V_append, V_replicate, List.length_replicate, n1.val, pow16 n, show n % 16 = i by omega]
   grind
  rw [ev] at e2
  exact e2
 | d + 1, i, hi => by
  have p1 := pow2_lt16 (m := i) (by omega)
  have p0 := two_pow_pos i
  refine Ev.step (f := fun k => vernierref01_Shl.l0 k a (n : Int) (List.replicate (n / 16) 0) (2 ^ (i + 1)) ((i + 1 : Nat) : Int)) (fun k => ?_) (rshl_loop h n hm hn d (i + 1) (by omega))
  simp only [vernierref01_Shl.l0]
  rw [tmod_nn (by omega), if_pos (by omega), w64 (x := 2 * 2 ^ i) (by omega) (by omega), w64 (by omega) (by omega), Int.pow_succ, Int.mul_comm]
  rfl
theorem Nd.shl {a v m} (h : Nd a v m) (n : Nat) (hm : n / 16 + m + 2 < 17592186044416) (hn : n < 4611686018427387904) : Ev (fun k => vernierref01_Shl.f k a (n : Int)) (Num.dg 65536 (2 ^ n * v)) ∧ Nd (Num.dg 65536 (2 ^ n * v)) (2 ^ n * v) (n / 16 + 1 + m) := by
 refine ⟨?_, Nd.dg (Int.mul_nonneg (Int.le_of_lt (two_pow_pos n)) h.nonneg) (h.pow_lt n)⟩
 have ew : wrap64 (Int.tdiv (n : Int) 16) = ((n / 16 : Nat) : Int) := by rw [tdiv_nn (by omega), w64 (by omega) (by omega)]; omega
 unfold vernierref01_Shl.f
 rw [ew, Int.toNat_natCast]
 refine Ev.congr (fun k => (if_pos (by omega)).trans (if_pos (by omega))) ?_
 have := rshl_loop h n hm hn (n % 16) 0 (by omega)
 exact this
theorem rshr_down {l : List Int} (hl : Dig 65536 l) (p : Int) (hp : 0 < p) (hp' : p ≤ 32768) (hlen : l.length ≤ 4398046511103) : ∀ (j : Nat) (out : List Int) (R : Int), j ≤ l.length → out.length = l.length → Dig 65536 out → 0 ≤ R → R < p → Aside0 (V 65536 (out.drop j) * p + R = V 65536 (l.drop j)) →
  Ev (fun k => vernierref01_Shr.l1 k l p out R ((j : Int) - 1)) (dg 65536 (V 65536 l / p))
 | 0, out, R, hj, ho, dO, h0, h1, hI => by
  have hI' := hI.out
  rw [List.drop_zero, List.drop_zero] at hI'
  have e : V 65536 l / p = V 65536 out := by
   have c : (V 65536 out + 1) * p = V 65536 out * p + p := by grind
   have a := Int.ediv_lt_of_lt_mul hp (show V 65536 l < (V 65536 out + 1) * p by omega)
   have b := Int.le_ediv_of_mul_le hp (show V 65536 out * p ≤ V 65536 l by omega)
   omega
  rw [e]
  refine Ev.step (f := fun k => (vernierref01_cut.f k out).bind fun t => some t) (fun k => ?_) (rcut_ev' out (by omega) dO)
  simp only [vernierref01_Shr.l1]
  rw [if_neg (by omega)]
 | j + 1, out, R, hj, ho, dO, h0, h1, hI => by
  have hx := hl.getD D_pos j
  have hR : R * 65536 ≤ 32767 * 65536 := by omega
  have q0 : 0 ≤ (R * 65536 + l.getD j 0) / p := Int.ediv_nonneg (by omega) (Int.le_of_lt hp)
  have q1 : (R * 65536 + l.getD j 0) / p < 65536 := Int.ediv_lt_of_lt_mul hp (by omega)
  have m0 := Int.emod_nonneg (R * 65536 + l.getD j 0) (show p ≠ 0 by omega)
  have m1 := Int.emod_lt_of_pos (R * 65536 + l.getD j 0) hp
  have hrec := rshr_down hl p hp hp' hlen j (out.set j ((R * 65536 + l.getD j 0) / p)) ((R * 65536 + l.getD j 0) % p) (by omega) (by simpa using ho) (dO.set j q0 q1) m0 m1 ⟨by
   have a1 := V_drop_succ 65536 (out.set j ((R * 65536 + l.getD j 0) / p)) j (by rw [List.length_set]; omega)
   rw [V_drop_set_le 65536 _ out j (j + 1) (Nat.lt_succ_self j), getD_set out j j _ (by omega), if_pos rfl] at a1
   have a2 := V_drop_succ 65536 l j (by omega)
   have a3 := Int.emod_add_mul_ediv (R * 65536 + l.getD j 0) p
   rw [a1, a2, ← hI.out]
   generalize (R * 65536 + l.getD j 0) / p = D at *
   generalize (R * 65536 + l.getD j 0) % p = M at *
   have b1 : (D + 65536 * V 65536 (out.drop (j + 1))) * p = p * D + 65536 * (V 65536 (out.drop (j + 1)) * p) := by grind
   omega⟩
  refine Ev.step (f := fun k => vernierref01_Shr.l1 k l p (out.set j ((R * 65536 + l.getD j 0) / p)) ((R * 65536 + l.getD j 0) % p) ((j : Int) - 1)) (fun k => ?_) hrec
  have e1 : ((j + 1 : Nat) : Int) - 1 = (j : Int) := by omega
  have e2 : wrap64 (R * 65536) = R * 65536 := w64 (by omega) (by omega)
  have e3 : wrap64 (R * 65536 + l.getD j 0) = R * 65536 + l.getD j 0 := w64 (by omega) (by omega)
  have e4 : wrap64 (Int.tdiv (R * 65536 + l.getD j 0) p) = (R * 65536 + l.getD j 0) / p := by rw [tdiv_nn (by omega)]; exact w64 (by omega) (by omega)
  have e5 : Int.tmod (R * 65536 + l.getD j 0) p = (R * 65536 + l.getD j 0) % p := tmod_nn (by omega)
  have e6 : wrap64 ((j : Int) - 1) = (j : Int) - 1 := w64 (by omega) (by omega)
  simp only [vernierref01_Shr.l1]
  rw [e1, rd_nat, e2, e3, e4, e5, e6, if_pos (by omega), if_pos (by omega), if_pos (by omega), if_neg (by omega), if_pos (by omega), Int.toNat_natCast]
theorem rshr_loop {a : List Int} {v : Int} {m : Nat} (h : Nd a v m) (n : Nat) (hn : n / 16 < a.length) (hm : m ≤ 4398046511103) : ∀ (d i : Nat), n % 16 = i + d →
  Ev (fun k => vernierref01_Shr.l0 k a (n : Int) (2 ^ i) (i : Int)) (dg 65536 (v / 2 ^ n))
 | 0, i, hi => by
  have hl := h.len
  have p0 := two_pow_pos i
  have p1 := pow2_lt16 (m := i) (by omega)
  have ew : wrap64 (Int.tdiv (n : Int) 16) = ((n / 16 : Nat) : Int) := by rw [tdiv_nn (by omega), w64 (by omega) (by omega)]; omega
  have hdl : (a.drop (n / 16)).length = a.length - n / 16 := List.length_drop ..
  have hV : V 65536 (a.drop (n / 16)) / 2 ^ i = v / 2 ^ n := by
   have a1 := V_split 65536 a (n := n / 16) (by omega)
   have a2 := V_lt D_pos (h.nrm.1.take (n / 16))
   have a3 := V_nonneg D_pos (h.nrm.1.take (n / 16))
   rw [List.length_take, Nat.min_eq_left (by omega)] at a2
   rw [pow16 n, show n % 16 = i by omega, ← ediv_two (pow_pos' D_pos _), ← h.val, a1, Int.add_mul_ediv_left _ _ (by have := pow_pos' D_pos (n / 16); omega), Int.ediv_eq_zero_of_lt a3 a2, Int.zero_add]
  have hd := h.nrm.1.drop (n / 16)
  have hdown := rshr_down hd (2 ^ i) p0 p1 (by omega) (a.drop (n / 16)).length (List.replicate (a.drop (n / 16)).length 0) 0 (Nat.le_refl _) (by simp) (Dig.replicate D_pos _) (Int.le_refl _) p0 ⟨by
   have l0 : (a.drop (n / 16)).length ≤ (a.drop (n / 16)).length := Nat.le_refl _
   rw [V_drop_all _ _ l0, V_drop_all _ _ (by simp)]; omega⟩
  rw [hV] at hdown
  refine Ev.step (f := fun k => vernierref01_Shr.l1 k (a.drop (n / 16)) (2 ^ i) (List.replicate (a.drop (n / 16)).length 0) 0 (((a.drop (n / 16)).length : Int) - 1)) (fun k => ?_) hdown
  have e6 : wrap64 (((a.drop (n / 16)).length : Int) - 1) = ((a.drop (n / 16)).length : Int) - 1 := w64 (by omega) (by omega)
  unfold vernierref01_Shr.l0
  rw [tmod_nn (by omega), if_neg (by omega), ew, if_pos (by omega), if_pos (by omega), Int.toNat_natCast, Int.toNat_natCast, if_pos (by omega), if_pos (by omega), e6]
 | d + 1, i, hi => by
  have p1 := pow2_lt16 (m := i) (by omega)
  have p0 := two_pow_pos i
  refine Ev.step (f := fun k => vernierref01_Shr.l0 k a (n : Int) (2 ^ (i + 1)) ((i + 1 : Nat) : Int)) (fun k => ?_) (rshr_loop h n hn hm d (i + 1) (by omega))
  rw [vernierref01_Shr.l0, tmod_nn (by omega), if_pos (by omega), w64 (x := 2 * 2 ^ i) (by omega) (by omega), w64 (x := (i : Int) + 1) (by omega) (by omega), Int.pow_succ, Int.mul_comm]
  rfl
theorem Nd.shr {a v m} (h : Nd a v m) (n : Nat) (hm : m ≤ 4398046511103) (hn : n < 4611686018427387904) : Ev (fun k => vernierref01_Shr.f k a (n : Int)) (Num.dg 65536 (v / 2 ^ n)) ∧ Nd (Num.dg 65536 (v / 2 ^ n)) (v / 2 ^ n) m := by
 refine ⟨?_, h.dg_le (Int.ediv_nonneg h.nonneg (Int.le_of_lt (two_pow_pos n))) (Int.ediv_le_self _ h.nonneg)⟩
 have hl := h.len
 have ew : wrap64 (Int.tdiv (n : Int) 16) = ((n / 16 : Nat) : Int) := by rw [tdiv_nn (by omega), w64 (by omega) (by omega)]; omega
 unfold vernierref01_Shr.f
 rw [ew]
 by_cases hc : n / 16 < a.length
 ·
  refine Ev.congr (fun k => if_neg (by omega)) ?_
  have := rshr_loop h n hc hm (n % 16) 0 (by omega)
  exact this
 ·
  refine Ev.congr (fun k => if_pos (by omega)) ?_
  have hlt : v < 2 ^ n := by
   have a1 := V_lt D_pos h.nrm.1
   rw [h.val] at a1
   have a2 := pow_le D_pos (show a.length ≤ n / 16 by omega)
   have a3 : (65536 : Int) ^ (n / 16) ≤ 2 ^ n := by
    rw [pow16 n]
    have : (65536 : Int) ^ (n / 16) * 1 ≤ 65536 ^ (n / 16) * 2 ^ (n % 16) := Int.mul_le_mul_of_nonneg_left (by have := two_pow_pos (n % 16); omega) (Int.le_of_lt (pow_pos' D_pos _))
    omega
   omega
  rw [Int.ediv_eq_zero_of_lt h.nonneg hlt]
  exact Ev.now _
end Go.Proofs.YtjgdpjbkmcjbcaaDoor.PG
end
