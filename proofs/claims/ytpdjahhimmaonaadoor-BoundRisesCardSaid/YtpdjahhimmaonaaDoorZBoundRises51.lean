/- Parts of a proof. -/
import Derived.Test.YtpdjahhimmaonaaDoorZBoundRises50
section
namespace Go.Proofs.YtpdjahhimmaonaaDoor.PD
open Go.RowKit Go.Proofs.YtpdjahhimmaonaaDoorW.PrintWords Go.Proofs.YtpdjahhimmaonaaDoorW.PrintLast Go.Proofs.YtpdjahhimmaonaaDoorW.PrintMore Go.Proofs.YtpdjahhimmaonaaDoor.Num Go.Proofs.YtpdjahhimmaonaaDoor.Flt
set_option linter.unusedVariables false
set_option linter.unusedSimpArgs false
def sE : Nat → Nat
 | 0 => 1
 | k + 1 => sE k * 9007199254740993 + (k + 3) * 9007199254740992 ^ (k + 1) + 9007199254740992 ^ k
def sG : Nat → Nat
 | 0 => 1
 | k + 1 => (sG k + 9007199254740992 ^ k) * 9007199254740993
def big : Nat := 2 ^ 3600
def chk (k : Nat) : Bool := decide (sE k < big) && decide (sG k < big) && decide (0 < sE k) && decide (0 < sG k) && decide ((k + 1) * (k + 1) * 9007199254740992 ^ k < 2 * sE k) && decide (sE k * (2 ^ 127 + 1) < 2 * (k + 1) * (k + 1) * 9007199254740992 ^ k * 2 ^ 127) && decide (sE k * 9007199254740992 * (2 ^ 127 + 1) ≤ sE (k + 1) * 2 ^ 127) && decide (sG k * 9007199254740992 * (2 ^ 127 + 1) ≤ sG (k + 1) * 2 ^ 127) && decide (9007199254740992 ^ (k + 1) < big)
theorem chk_all : ∀ k, k < 66 → chk k = true := by decide +kernel
theorem chk_facts {k : Nat} (hk : k < 66) : sE k < big ∧ sG k < big ∧ 0 < sE k ∧ 0 < sG k ∧ (k + 1) * (k + 1) * 9007199254740992 ^ k < 2 * sE k ∧ sE k * (2 ^ 127 + 1) < 2 * (k + 1) * (k + 1) * 9007199254740992 ^ k * 2 ^ 127 ∧ sE k * 9007199254740992 * (2 ^ 127 + 1) ≤ sE (k + 1) * 2 ^ 127 ∧ sG k * 9007199254740992 * (2 ^ 127 + 1) ≤ sG (k + 1) * 2 ^ 127 ∧ 9007199254740992 ^ (k + 1) < big := by
 have h := chk_all k hk
 unfold chk at h
 simp only [Bool.and_eq_true, decide_eq_true_eq] at h
 obtain ⟨⟨⟨⟨⟨⟨⟨⟨h1, h2⟩, h3⟩, h4⟩, h5⟩, h6⟩, h7⟩, h8⟩, h9⟩ := h
 exact ⟨h1, h2, h3, h4, h5, h6, h7, h8, h9⟩
theorem cast_two_pow (n : Nat) : ((2 ^ n : Nat) : Int) = 2 ^ n := by rw [Int.natCast_pow]; rfl
theorem big_int : (big : Int) = 2 ^ 3600 := by unfold big; exact cast_two_pow 3600
def U (k : Nat) : Int := 9007199254740992 ^ k
theorem U_pos (k : Nat) : 0 < U k := Int.pow_pos (by decide)
theorem U_succ (k : Nat) : U (k + 1) = U k * 9007199254740992 := by unfold U; rw [Int.pow_succ]
theorem U_nat (k : Nat) : U k = ((9007199254740992 ^ k : Nat) : Int) := by unfold U; rw [Int.natCast_pow]; rfl
theorem big_lt {z : Int} {n : Nat} (h0 : 0 ≤ z) (h : z < 2 ^ n) (hn : n ≤ 6400) : (z.natAbs : Int) < 18446744073709551616 ^ 100 := by
 have h1 : (2 : Int) ^ n ≤ 2 ^ 6400 := two_pow_mono hn
 have h2 : (18446744073709551616 : Int) ^ 100 = 2 ^ 6400 := by rw [show (18446744073709551616 : Int) = 2 ^ 64 by decide, ← Int.pow_mul]
 rw [h2]
 generalize (2 : Int) ^ 6400 = Q at *
 generalize (2 : Int) ^ n = R at *
 omega
theorem p4000 {z : Int} (h0 : 0 ≤ z) (h : z < 1000000000000000000 * (big : Int)) : (z.natAbs : Int) < 18446744073709551616 ^ 100 := by
 refine big_lt (n := 3700) h0 ?_ (by omega)
 have e : (2 : Int) ^ 3700 = 2 ^ 100 * 2 ^ 3600 := by rw [← Int.pow_add]
 have e2 : (1000000000000000000 : Int) < 2 ^ 100 := by decide
 have e3 := two_pow_pos 3600
 rw [big_int] at h
 rw [e]
 generalize (2 : Int) ^ 3600 = Q at *
 exact Int.lt_of_lt_of_le h (Int.mul_le_mul_of_nonneg_right (Int.le_of_lt e2) (Int.le_of_lt e3))
theorem vl_low (z : Int) (x : Int) (h : -100000 ≤ x) : vl z x = vl (z * 9007199254740992) (x - 53) := by
 have := vl_shift z x 53 (by omega)
 rw [show (2 : Int) ^ 53 = 9007199254740992 by decide] at this
 exact this.symm
theorem vl_lowk (z x : Int) : ∀ k : Nat, k ≤ 1000 → -40000 ≤ x → vl z x = vl (z * U k) (x - 53 * k)
 | 0, _, _ => by unfold U; rw [Int.pow_zero, Int.mul_one]; congr 1; omega
 | k + 1, hk, h => by
  rw [vl_lowk z x k (by omega) h, vl_low _ _ (by omega), U_succ, Int.mul_assoc]
  congr 1
  omega
theorem rgE {k : Nat} (hk : k < 66) : Rg (sE k : Int) (-53 * (k + 1 : Nat)) := by
 have h := (chk_facts hk).1
 exact ⟨p4000 (by omega) (by omega), by omega, by omega⟩
theorem rgG {k : Nat} (hk : k < 66) : Rg (sG k : Int) (-1075 - 53 * (k : Nat)) := by
 have h := (chk_facts hk).2.1
 exact ⟨p4000 (by omega) (by omega), by omega, by omega⟩
theorem rg_more {E G P u X : Int} {k : Nat} (hk : k < 65) (hE : 0 < E) (hE' : E < (big : Int)) (hG : 0 < G) (hG' : G < (big : Int)) (hP : 0 < P) (hP' : P < (big : Int)) (hu : 0 < u) (hu' : u ≤ P) (hX : 0 ≤ X) (hX' : X ≤ 65 * P) :
  Rg (X + P + E) (-53 * (k + 1 : Nat)) ∧ Rg (X + P + E + P) (-53 * (k + 1 : Nat)) ∧ Rg (X + P + E + P + u) (-53 * (k + 1 : Nat)) ∧ Rg ((X + P + E + P + u) * 1) (-53 * (k + 1 : Nat) + -53) ∧ Rg (E + u) (-53 * (k + 1 : Nat)) ∧ Rg (G + u) (-1075 - 53 * (k : Nat)) ∧ Rg ((G + u) * 1) (-1075 - 53 * (k : Nat) + -53) := by
 rw [Int.mul_one, Int.mul_one]
 refine ⟨⟨p4000 ?_ ?_, ?_, ?_⟩, ⟨p4000 ?_ ?_, ?_, ?_⟩, ⟨p4000 ?_ ?_, ?_, ?_⟩, ⟨p4000 ?_ ?_, ?_, ?_⟩, ⟨p4000 ?_ ?_, ?_, ?_⟩, ⟨p4000 ?_ ?_, ?_, ?_⟩, ⟨p4000 ?_ ?_, ?_, ?_⟩⟩ <;> (generalize (big : Int) = B at *; omega)
theorem eqE {E u P X E' k : Int} (e0 : P = u * 9007199254740992) (x3 : (k + 3) * P = X + 3 * P) (eE : E' = E * 9007199254740993 + (k + 3) * P + u) : (E + u) * 9007199254740992 + (X + P + E + P + u) = E' := by
 rw [eE, x3]
 omega
theorem eqG {G u G' : Int} (eG : G' = (G + u) * 9007199254740993) : (G + u) * 9007199254740992 + (G + u) = G' := by omega
theorem vl_j (k : Nat) (hk : k < 65) : vl ((k + 1 : Nat) : Int) 0 = vl ((k : Int) * U (k + 1) + U (k + 1)) (-53 * (k + 1 : Nat)) := by
 have h := vl_lowk ((k + 1 : Nat) : Int) 0 (k + 1) (by omega) (by omega)
 rw [show (0 : Int) - 53 * ((k + 1 : Nat) : Int) = -53 * (k + 1 : Nat) by omega, show ((k + 1 : Nat) : Int) * U (k + 1) = (k : Int) * U (k + 1) + U (k + 1) by rw [show ((k + 1 : Nat) : Int) = (k : Int) + 1 by omega]; grind] at h
 exact h
theorem vl_1 (k : Nat) (hk : k < 65) : vl 1 0 = vl (U (k + 1)) (-53 * (k + 1 : Nat)) := by
 have h := vl_lowk 1 0 (k + 1) (by omega) (by omega)
 rw [show (0 : Int) - 53 * ((k + 1 : Nat) : Int) = -53 * (k + 1 : Nat) by omega, Int.one_mul] at h
 exact h
theorem vl_u (k : Nat) (hk : k < 65) : vl 1 (-53) = vl (U k) (-53 * (k + 1 : Nat)) := by
 have h := vl_lowk 1 (-53) k (by omega) (by omega)
 rw [show (-53 : Int) - 53 * (k : Int) = -53 * (k + 1 : Nat) by omega, Int.one_mul] at h
 exact h
theorem vl_h (k : Nat) (hk : k < 65) : vl 1 (-1075) = vl (U k) (-1075 - 53 * (k : Nat)) := by
 have h := vl_lowk 1 (-1075) k (by omega) (by omega)
 rw [Int.one_mul] at h
 exact h
theorem vl_E (z : Int) (k : Nat) (hk : k < 65) : vl z (-53 * (k + 1 : Nat)) = vl (z * 9007199254740992) (-53 * (k + 1 + 1 : Nat)) := by
 have h := vl_low z (-53 * (k + 1 : Nat)) (by omega)
 rw [show -53 * ((k + 1 : Nat) : Int) - 53 = -53 * (k + 1 + 1 : Nat) by omega] at h
 exact h
theorem vl_G (z : Int) (k : Nat) (hk : k < 65) : vl z (-1075 - 53 * (k : Nat)) = vl (z * 9007199254740992) (-1075 - 53 * (k + 1 : Nat)) := by
 have h := vl_low z (-1075 - 53 * (k : Nat)) (by omega)
 rw [show -1075 - 53 * (k : Int) - 53 = -1075 - 53 * (k + 1 : Nat) by omega] at h
 exact h
theorem off_at {z0 x0 : Int} {l : List S66} {z x : Int} (g : Rg z x) (g' : Rg (z * 1) (x + -53)) (h : Ev (fun i => bound_num_plus.f i (dt z0 x0).1 (dt z0 x0).2.1 (dt z0 x0).2.2.1 l) (((dt z x).1, (dt z x).2.1, (dt z x).2.2.1))) : Ev (fun i => bound_off.f i (dt z0 x0).1 (dt z0 x0).2.1 (dt z0 x0).2.2.1 l) (((dt (z * 1) (x + -53)).1, (dt (z * 1) (x + -53)).2.1, (dt (z * 1) (x + -53)).2.2.1)) := by
 obtain ⟨ou, ru⟩ := of_at (n := 1) (x := -53) (by omega) (by omega) (by omega) (by omega)
 unfold bound_off.f
 exact Ev.bind h (Ev.bind ou (Ev.bind (times1_at g ru g') (Ev.now _)))
theorem more_chain {n : Int} {s0 s1 s2 s3 s4 s5 s6 s7 s8 s9 : Bool} {l0 l1 l2 l3 l4 l5 l6 l7 l8 l9 : List Int} {e0 e1 e2 e3 e4 e5 e6 e7 e8 e9 : Int}
  (hf : Ev (fun i => bound_first.f i) (s2, l2, e2, s3, l3, e3)) (hj : Ev (fun i => bound_of.f i n 0) (s0, l0, e0)) (h1 : Ev (fun i => bound_of.f i 1 0) (s1, l1, e1))
  (b1 : Ev (fun i => bound_off.f i s0 l0 e0 [(⟨⟨s4, l4, e4⟩⟩ : S66), ⟨⟨s1, l1, e1⟩⟩, ⟨⟨s2, l2, e2⟩⟩]) (s8, l8, e8))
  (b3 : Ev (fun i => bound_num_plus.f i s4 l4 e4 [(⟨⟨s2, l2, e2⟩⟩ : S66), ⟨⟨s8, l8, e8⟩⟩]) (s6, l6, e6))
  (b4 : Ev (fun i => bound_off.f i s5 l5 e5 [(⟨⟨s3, l3, e3⟩⟩ : S66)]) (s9, l9, e9))
  (b6 : Ev (fun i => bound_num_plus.f i s5 l5 e5 [(⟨⟨s3, l3, e3⟩⟩ : S66), ⟨⟨s9, l9, e9⟩⟩]) (s7, l7, e7)) : Ev (fun i => bound_pair_more.f i s4 l4 e4 s5 l5 e5 n) (s6, l6, e6, s7, l7, e7) := by
 unfold bound_pair_more.f
 exact Ev.bind hf (Ev.bind hj (Ev.bind h1 (Ev.bind b1 (Ev.bind b3 (Ev.bind b4 (Ev.bind b6 (Ev.now _)))))))
theorem more_at {k : Nat} (hk : k < 65) : Ev (fun i => bound_pair_more.f i (dt (sE k) (-53 * (k + 1 : Nat))).1 (dt (sE k) (-53 * (k + 1 : Nat))).2.1 (dt (sE k) (-53 * (k + 1 : Nat))).2.2.1 (dt (sG k) (-1075 - 53 * (k : Nat))).1 (dt (sG k) (-1075 - 53 * (k : Nat))).2.1 (dt (sG k) (-1075 - 53 * (k : Nat))).2.2.1 ((k + 1 : Nat) : Int))
  ((dt (sE (k + 1)) (-53 * (k + 1 + 1 : Nat))).1, (dt (sE (k + 1)) (-53 * (k + 1 + 1 : Nat))).2.1, (dt (sE (k + 1)) (-53 * (k + 1 + 1 : Nat))).2.2.1, (dt (sG (k + 1)) (-1075 - 53 * (k + 1 : Nat))).1, (dt (sG (k + 1)) (-1075 - 53 * (k + 1 : Nat))).2.1, (dt (sG (k + 1)) (-1075 - 53 * (k + 1 : Nat))).2.2.1) := by
 have gE := rgE (k := k) (by omega)
 have gG := rgG (k := k) (by omega)
 have gE' := rgE (k := k + 1) (by omega)
 have gG' := rgG (k := k + 1) (by omega)
 obtain ⟨c1, c2, c3, c4, _, _, _, _, c9⟩ := chk_facts (k := k) (by omega)
 have e0 : U (k + 1) = U k * 9007199254740992 := U_succ k
 have eE : (sE (k + 1) : Int) = sE k * 9007199254740993 + (k + 3) * U (k + 1) + U k := by rw [U_nat, U_nat, sE, Int.natCast_add, Int.natCast_add, Int.natCast_mul, Int.natCast_mul]; rfl
 have eG : (sG (k + 1) : Int) = (sG k + U k) * 9007199254740993 := by rw [U_nat, sG, Int.natCast_mul, Int.natCast_add]; rfl
 have u0 := U_pos k
 have u1 := U_pos (k + 1)
 have x3 : (k + 3 : Int) * U (k + 1) = k * U (k + 1) + 3 * U (k + 1) := Int.add_mul _ _ _
 have hX' : (k : Int) * U (k + 1) ≤ 65 * U (k + 1) := Int.mul_le_mul_of_nonneg_right (by omega) (Int.le_of_lt u1)
 have hX : 0 ≤ (k : Int) * U (k + 1) := Int.mul_nonneg (by omega) (Int.le_of_lt u1)
 have n3 : U (k + 1) < (big : Int) := by rw [U_nat]; exact Int.ofNat_lt.2 c9
 have uP : U k ≤ U (k + 1) := by omega
 obtain ⟨za, zb, zc, zc2, zd, zg, zg2⟩ := rg_more (k := k) hk (E := sE k) (G := sG k) (P := U (k + 1)) (u := U k) (X := (k : Int) * U (k + 1)) (Int.natCast_pos.2 c3) (Int.ofNat_lt.2 c1) (Int.natCast_pos.2 c4) (Int.ofNat_lt.2 c2) u1 n3 u0 uP hX hX'
 have hj := vl_j k hk
 have h1 := vl_1 k hk
 have hu := vl_u k hk
 have hh := vl_h k hk
 have hE := vl_E (sE k + U k) k hk
 have hG := vl_G (sG k + U k) k hk
 have qE := eqE e0 x3 eE
 have qG := eqG eG
 generalize (k : Int) * U (k + 1) = X at *
 clear e0 eE eG u0 u1 x3 hX hX' n3 uP c1 c2 c3 c4 c9
 generalize U (k + 1) = P at *
 generalize U k = u at *
 obtain ⟨oj, rj⟩ := of_at (n := (k + 1 : Nat)) (x := 0) (by omega) (by omega) (by omega) (by omega)
 obtain ⟨o1, r1⟩ := of_at (n := 1) (x := 0) (by omega) (by omega) (by omega) (by omega)
 obtain ⟨_, ru⟩ := of_at (n := 1) (x := -53) (by omega) (by omega) (by omega) (by omega)
 obtain ⟨_, rh⟩ := of_at (n := 1) (x := -1075) (by omega) (by omega) (by omega) (by omega)
 have b1 := off_at zc zc2 (plus3_at rj gE r1 ru za zb zc (by rw [vl_add, hj]) (by rw [vl_add (X + P + sE k), h1]) (by rw [vl_add (X + P + sE k + P), hu]))
 have b3 := plus2_at gE ru zc2 zd gE' (by rw [vl_add, hu]) (by
  rw [hE, Int.mul_one, show -53 * ((k + 1 : Nat) : Int) + -53 = -53 * (k + 1 + 1 : Nat) by omega, ← vl_add, qE])
 have b4 := off_at zg zg2 (plus1_at gG rh zg (by rw [vl_add, hh]))
 have b6 := plus2_at gG rh zg2 zg gG' (by rw [vl_add, hh]) (by
  rw [hG, Int.mul_one, show -1075 - 53 * (k : Int) + -53 = -1075 - 53 * (k + 1 : Nat) by omega, ← vl_add, qG])
 have q := more_chain first_at oj o1 b1 b3 b4 b6
 exact q
theorem dot_step {n j j1 : Int} {s t s' t' : Bool} {l m l' m' : List Int} {e f e' f' : Int} {r : Bool × List Int × Int × Bool × List Int × Int} (hj : j < n) (hw : wrap64 (j + 1) = j1) (hm : Ev (fun i => bound_pair_more.f i s l e t m f j) (s', l', e', t', m', f'))
  (h : Ev (fun i => bound_dot.l0 i n j1 s' l' e' t' m' f') r) : Ev (fun i => bound_dot.l0 i n j s l e t m f) r := by
 subst hw
 apply Ev.step
 ·
  intro i
  rw [bound_dot.l0, if_pos hj]
 exact Ev.bind hm h
theorem dot_end {n j : Int} {s t s' t' : Bool} {l m l' m' : List Int} {e f e' f' : Int} (hj : ¬ j < n) (hm : Ev (fun i => bound_pair_up.f i s l e t m f) (s', l', e', t', m', f')) : Ev (fun i => bound_dot.l0 i n j s l e t m f) (s', l', e', t', m', f') := by
 apply Ev.step
 ·
  intro i
  rw [bound_dot.l0, if_neg hj]
 exact Ev.bind hm (Ev.now _)
theorem dot_loop {n : Nat} (hn : n ≤ 65) {s' t' : Bool} {l' m' : List Int} {e' f' : Int} (hr : ∀ m : Nat, m + 1 = n → Ev (fun i => bound_pair_up.f i (dt (sE m) (-53 * (m + 1 : Nat))).1 (dt (sE m) (-53 * (m + 1 : Nat))).2.1 (dt (sE m) (-53 * (m + 1 : Nat))).2.2.1 (dt (sG m) (-1075 - 53 * (m : Nat))).1 (dt (sG m) (-1075 - 53 * (m : Nat))).2.1 (dt (sG m) (-1075 - 53 * (m : Nat))).2.2.1) (s', l', e', t', m', f')) :
  ∀ (d k : Nat), k + 1 + d = n → Ev (fun i => bound_dot.l0 i (n : Int) ((k + 1 : Nat) : Int) (dt (sE k) (-53 * (k + 1 : Nat))).1 (dt (sE k) (-53 * (k + 1 : Nat))).2.1 (dt (sE k) (-53 * (k + 1 : Nat))).2.2.1 (dt (sG k) (-1075 - 53 * (k : Nat))).1 (dt (sG k) (-1075 - 53 * (k : Nat))).2.1 (dt (sG k) (-1075 - 53 * (k : Nat))).2.2.1) (s', l', e', t', m', f') := by
 intro d
 induction d with
 | zero =>
  intro k hk
  have q := dot_end (n := (n : Int)) (j := ((k + 1 : Nat) : Int)) (by omega) (hr k (by omega))
  exact q
 | succ d ih =>
  intro k hk
  have hw : wrap64 (((k + 1 : Nat) : Int) + 1) = ((k + 1 + 1 : Nat) : Int) := (w64 (by omega) (by omega)).trans (by omega)
  have hi := ih (k + 1) (by omega)
  have hm := more_at (k := k) (by omega)
  have q := dot_step (n := (n : Int)) (by omega) hw hm hi
  exact q
theorem up_at {z x : Int} (h0 : 0 < z) (h : z < (big : Int)) (hx : -8000 ≤ x) (hx' : x ≤ 0) : ∃ Z X : Int, Ev (fun k => dyadic_Above.f k (dt z x).1 (dt z x).2.1 (dt z x).2.2.1 128) (dt Z X) ∧ Rg Z X ∧ vl z x ≤ vl Z X ∧ vl Z X * 2 ^ 127 < vl z x * (2 ^ 127 + 1) := by
 have g : Rg z x := ⟨p4000 (by omega) (by omega), hx, by omega⟩
 obtain ⟨y, e, t, hd, hw, e0, e1, hv⟩ := dt_ok (z := z) (x := x) g.lt (by omega) (by omega) (by omega)
 have hvl := dt_any_vl (show -200000 ≤ x by omega) hv
 have hB : z < 2 ^ 3600 := by rw [← big_int]; exact h
 rcases hv with hv | ⟨hy, _, hz, he, ht, _⟩
 ·
  omega
 have hp := two_pow_pos t
 have hy0 : 0 < y := by
  refine Int.lt_of_not_ge (fun hn => ?_)
  have := Int.mul_nonneg (show 0 ≤ -y by omega) (Int.le_of_lt hp)
  rw [Int.neg_mul] at this
  omega
 have ea : (y.natAbs : Int) = y := by omega
 have hN : Nm (wz y).2 y 100 := by have := hw.nm; rwa [ea] at this
 have es : (wz y).1 = false := decide_eq_false (by omega)
 have hl := hN.len
 obtain ⟨N, hA, hN1, hN2⟩ := above_ev hN (by omega) (show dmay (wz y).2 e from ⟨e0, e1, by omega⟩) hy0
 obtain ⟨f0, f1, f2, f3⟩ := upn_facts (v := y) N (by omega)
 rw [hd]
 dsimp only
 rw [es]
 have hyz : y ≤ z := by
  have := Int.mul_le_mul_of_nonneg_left (show (1 : Int) ≤ 2 ^ t by omega) (show 0 ≤ y by omega)
  omega
 have hNt : e + N ≤ 3600 := by
  rcases hN2 with h2 | h2
  ·
   have h3 : (2 : Int) ^ t ≤ z := by
    have := Int.mul_le_mul_of_nonneg_right (show (1 : Int) ≤ y by omega) (Int.le_of_lt hp)
    omega
   have : t < 3600 := Nat.lt_of_not_le (fun hh => absurd hB (Int.not_lt.2 (Int.le_trans (two_pow_mono hh) h3)))
   omega
  ·
   have h3 : (2 : Int) ^ (N + 127 + t) ≤ z := by
    rw [Int.pow_add, hz]
    exact Int.mul_le_mul_of_nonneg_right h2 (Int.le_of_lt hp)
   have : N + 127 + t < 3600 := Nat.lt_of_not_le (fun hh => absurd hB (Int.not_lt.2 (Int.le_trans (two_pow_mono hh) h3)))
   omega
 have hE : vl (upn y N) (e + N) = vl (upn y N * 2 ^ N) e := (vl_up _ _ _ (by omega)).symm
 have hpu := up2_pos (e + 200000)
 have key : upn y N * 2 ^ N * 2 ^ 127 < y * (2 ^ 127 + 1) := by
  have e2 : y * (2 ^ 127 + 1) = y * 2 ^ 127 + y := by grind
  rcases hN2 with h2 | h2
  ·
   subst h2
   have e3 : upn y 0 = y := by unfold upn; rw [Int.pow_zero, Int.emod_one, Int.ediv_one, if_neg (by decide)]
   rw [e3, Int.pow_zero, Int.mul_one]
   omega
  ·
   have e4 : (2 : Int) ^ (N + 127) = 2 ^ N * 2 ^ 127 := Int.pow_add _ _ _
   have e5 := Int.mul_lt_mul_of_pos_right f3 (two_pow_pos 127)
   have e6 : (y + 2 ^ N) * 2 ^ 127 = y * 2 ^ 127 + 2 ^ N * 2 ^ 127 := Int.add_mul _ _ _
   omega
 refine ⟨upn y N, e + N, hA, ⟨?_, by omega, by omega⟩, ?_, ?_⟩
 ·
  exact p4000 f0 (by omega)
 ·
  rw [hE, ← hvl]
  unfold vl
  exact Int.mul_le_mul_of_nonneg_right f2 (Int.le_of_lt hpu)
 ·
  rw [hE, ← hvl]
  unfold vl
  have := Int.mul_lt_mul_of_pos_right key hpu
  have e7 : upn y N * 2 ^ N * up2 (e + 200000) * 2 ^ 127 = upn y N * 2 ^ N * 2 ^ 127 * up2 (e + 200000) := by grind
  have e8 : y * up2 (e + 200000) * (2 ^ 127 + 1) = y * (2 ^ 127 + 1) * up2 (e + 200000) := by grind
  rw [e7, e8]
  exact this
theorem odd1_no {n : Nat} (h1 : 1 ≤ n) (h2 : n ≤ 64) : Ev (fun i => bound_odd.f i 1 [(n : Int)]) false := by
 show Ev (fun i => bound_odd.l0 i 1 [(n : Int)] 1 0) _
 have hw : wrap64 (0 + 1) = 1 := (w64 (by omega) (by omega)).trans (by omega)
 have hl : (([(n : Int)] : List Int).length : Int) = 1 := rfl
 have hr : rd [(n : Int)] 0 = n := rfl
 refine Ev.step (f := fun i => bound_odd.l0 i 1 [(n : Int)] 1 1) (fun i => ?_) ?_
 ·
  rw [bound_odd.l0, if_pos (by omega), if_pos (by omega), if_pos (by rw [hl]; omega), hr, if_neg (by omega), if_neg (by omega), hw]
 refine Ev.step (f := fun _ => some false) (fun i => ?_) (Ev.now _)
 rw [bound_odd.l0, if_neg (by omega)]
 rfl
theorem Dot_chain {n : Int} {s t s' t' : Bool} {l m l' m' : List Int} {e f e' f' : Int} (ho : Ev (fun i => bound_odd.f i 1 [n]) false) (hf : Ev (fun i => bound_first.f i) (s, l, e, t, m, f)) (hl : Ev (fun i => bound_dot.l0 i n 1 s l e t m f) (s', l', e', t', m', f')) : Ev (fun i => bound_Dot.f i n) (s', l', e', t', m', f', 0) := by
 unfold bound_Dot.f
 refine Ev.bind ho (Ev.congr (fun i => if_neg (by decide)) ?_)
 refine Ev.bind (a := (s', l', e', t', m', f')) ?_ ?_
 ·
  unfold bound_dot.f
  exact Ev.bind hf hl
 ·
  exact Ev.bind (g := fun _ => bound_pair_told.f s' l' e' t' m' f') (a := (s', l', e', t', m', f', 0)) (Ev.now _) (Ev.now _)
theorem up_chain {s t s1 t1 : Bool} {l m l1 m1 : List Int} {e f e1 f1 z w : Int} (a1 : Ev (fun k => dyadic_Above.f k s l e 128) (s1, l1, e1, z)) (b1 : Ev (fun k => dyadic_Above.f k t m f 128) (t1, m1, f1, w)) (hz : z = 0) (hw : w = 0) : Ev (fun i => bound_pair_up.f i s l e t m f) (s1, l1, e1, t1, m1, f1) := by
 subst hz hw
 unfold bound_pair_up.f
 exact Ev.bind a1 (Ev.bind (g := fun _ => bound_must.f s1 l1 e1 0) (a := (s1, l1, e1)) (Ev.now _) (Ev.bind b1 (Ev.bind (g := fun _ => bound_must.f t1 m1 f1 0) (a := (t1, m1, f1)) (Ev.now _) (Ev.now _))))
theorem Dot_at {k : Nat} (hk : k < 64) : ∃ Z X Y W : Int, Ev (fun i => bound_Dot.f i ((k + 1 : Nat) : Int)) ((dt Z X).1, (dt Z X).2.1, (dt Z X).2.2.1, (dt Y W).1, (dt Y W).2.1, (dt Y W).2.2.1, 0) ∧ Rg Z X ∧ Rg Y W ∧
  vl (sE k) (-53 * (k + 1 : Nat)) ≤ vl Z X ∧ vl Z X * 2 ^ 127 < vl (sE k) (-53 * (k + 1 : Nat)) * (2 ^ 127 + 1) ∧ vl (sG k) (-1075 - 53 * (k : Nat)) ≤ vl Y W ∧ vl Y W * 2 ^ 127 < vl (sG k) (-1075 - 53 * (k : Nat)) * (2 ^ 127 + 1) := by
 obtain ⟨c1, c2, c3, c4, _⟩ := chk_facts (k := k) (by omega)
 have n1 : (sE k : Int) < (big : Int) := Int.ofNat_lt.2 c1
 have n2 : (sG k : Int) < (big : Int) := Int.ofNat_lt.2 c2
 obtain ⟨Z, X, a1, a2, a3, a4⟩ := up_at (z := sE k) (x := -53 * (k + 1 : Nat)) (by omega) n1 (by omega) (by omega)
 obtain ⟨Y, W, b1, b2, b3, b4⟩ := up_at (z := sG k) (x := -1075 - 53 * (k : Nat)) (by omega) n2 (by omega) (by omega)
 refine ⟨Z, X, Y, W, ?_, a2, b2, a3, a4, b3, b4⟩
 have hup : Ev (fun i => bound_pair_up.f i (dt (sE k) (-53 * (k + 1 : Nat))).1 (dt (sE k) (-53 * (k + 1 : Nat))).2.1 (dt (sE k) (-53 * (k + 1 : Nat))).2.2.1 (dt (sG k) (-1075 - 53 * (k : Nat))).1 (dt (sG k) (-1075 - 53 * (k : Nat))).2.1 (dt (sG k) (-1075 - 53 * (k : Nat))).2.2.1) ((dt Z X).1, (dt Z X).2.1, (dt Z X).2.2.1, (dt Y W).1, (dt Y W).2.1, (dt Y W).2.2.1) := by
  have q := up_chain (s1 := (dt Z X).1) (l1 := (dt Z X).2.1) (e1 := (dt Z X).2.2.1) (z := (dt Z X).2.2.2) (t1 := (dt Y W).1) (m1 := (dt Y W).2.1) (f1 := (dt Y W).2.2.1) (w := (dt Y W).2.2.2) a1 b1 a2.ok b2.ok
  exact q
 have hl := dot_loop (n := k + 1) (by omega) (fun m hm => (show m = k by omega) ▸ hup) k 0 (by omega)
 have q := Dot_chain (n := ((k + 1 : Nat) : Int)) (odd1_no (n := k + 1) (by omega) (by omega)) first_at hl
 exact q
end Go.Proofs.YtpdjahhimmaonaaDoor.PD
end
section
namespace Go.Proofs.YtpdjahhimmaonaaDoor.Pure
open Go.RowKit Go.Proofs.YtpdjahhimmaonaaDoor.PD Go.Proofs.YtpdjahhimmaonaaDoorW.PrintWords Go.Proofs.YtpdjahhimmaonaaDoorW.PrintLast Go.Proofs.YtpdjahhimmaonaaDoorW.PrintMore Go.Proofs.YtpdjahhimmaonaaDoor.Num Go.Proofs.YtpdjahhimmaonaaDoor.Flt
set_option linter.unusedVariables false
theorem lof_at {n x : Int} (h0 : -100000 ≤ n) (h1 : n ≤ 100000) (hx : -8000 ≤ x) (hx' : x ≤ 9000) : Ev (fun k => vernierlaw34_of.f k n x) ((dt n x).1, (dt n x).2.1, (dt n x).2.2.1) ∧ Rg n x := by
 obtain ⟨_, g⟩ := of_at h0 h1 hx hx'
 refine ⟨?_, g⟩
 unfold vernierlaw34_of.f
 exact Ev.bind (dof_ev (by omega) (by omega) (by omega) (by omega)) (Ev.now _)
theorem dt_unit {x : Int} (hx : -8000 ≤ x) (hx' : x ≤ 0) : dt 1 x = (false, [1], x, 0) := by
 have o : Odd2 1 0 0 := by unfold Odd2; decide
 have e1 : t2 1 = 0 := t2_eq (Int.le_refl 0) o
 have e2 : od 1 = 1 := (od_eq (Int.le_refl 0) o).trans (by decide)
 unfold dt
 rw [if_neg (by decide), show ((1 : Int).natAbs : Int) = 1 by decide, e1, e2, show decide ((1 : Int) < 0) = false by decide, dg_one one_lt_B (v := 1) (by decide) (by decide), show x + ((0 : Nat) : Int) = x by omega, w64 (by omega) (by omega)]
 unfold dtold
 rw [if_pos]
 unfold dmay
 refine ⟨by omega, by omega, by decide⟩
theorem above_unit {x : Int} (hx : -8000 ≤ x) (hx' : x ≤ 0) : Ev (fun k => dyadic_Above.f k false [1] x 128) (false, [1], x, 0) := by
 obtain ⟨N, h, _, hN⟩ := above_ev (l := [1]) (v := 1) (e := x) (n := 1) (Nm.one (by decide) (by decide) (by decide)) (by omega) (by unfold dmay; exact ⟨by omega, by omega, by decide⟩) (by decide)
 have h0 : N = 0 := by
  rcases hN with h | h
  ·
   exact h
  ·
   have := two_pow_mono (m := 1) (n := N + 127) (by omega)
   omega
 subst h0
 have e : upn 1 0 = 1 := by unfold upn; rw [Int.pow_zero, Int.emod_one, Int.ediv_one, if_neg (by decide)]
 rw [e, show x + ((0 : Nat) : Int) = x by omega, dt_unit hx hx'] at h
 exact h
theorem alive34_ev : Ev (fun k => vernierlaw34_alive.f k) true := by
 have hf := first_at
 rw [dt_unit (x := -53) (by omega) (by omega), dt_unit (x := -1075) (by omega) (by omega)] at hf
 have hu := up_chain (above_unit (x := -53) (by omega) (by omega)) (above_unit (x := -1075) (by omega) (by omega)) rfl rfl
 have hl := dot_end (n := 1) (j := 1) (by omega) hu
 have hD := Dot_chain (n := 1) (odd1_no (n := 1) (by omega) (by omega)) hf hl
 unfold vernierlaw34_alive.f
 refine Ev.bind hD (Ev.congr (fun k => (if_pos rfl).trans ((if_pos rfl).trans ((if_pos rfl).trans ((if_pos (by decide)).trans (if_pos rfl))))) ?_)
 exact Ev.now _
theorem less_of {a b A B : Int} (h1 : A * 2 ^ 127 < a * (2 ^ 127 + 1)) (h2 : a * (2 ^ 127 + 1) ≤ b * 2 ^ 127) (h3 : b ≤ B) : A < B := by
 have : b * 2 ^ 127 ≤ B * 2 ^ 127 := Int.mul_le_mul_of_nonneg_right h3 (by decide)
 exact Int.lt_of_mul_lt_mul_right (a := 2 ^ 127) (by omega) (by decide)
theorem vl_mul_c (z x c : Int) : vl z x * c = vl (z * c) x := by unfold vl; grind
theorem vl_le {z y x : Int} (h : z ≤ y) : vl z x ≤ vl y x := Int.mul_le_mul_of_nonneg_right h (Int.le_of_lt (up2_pos _))
theorem vl_lt {z y x : Int} (h : z < y) : vl z x < vl y x := Int.mul_lt_mul_of_pos_right h (up2_pos _)
theorem sgn_lt {a b : Int} (h : a < b) : sgn (a - b) = -1 := by unfold sgn; rw [if_pos (by omega)]
theorem c7i {A B : Nat} (h : A * 9007199254740992 * (2 ^ 127 + 1) ≤ B * 2 ^ 127) : (A : Int) * 9007199254740992 * (2 ^ 127 + 1) ≤ (B : Int) * 2 ^ 127 := by omega
theorem c5i {S P E : Nat} (h : S * P < 2 * E) : (S : Int) * (P : Int) < (E : Int) * 2 := by
 have := Int.ofNat_lt.2 h
 rw [Int.natCast_mul, Int.natCast_mul] at this
 omega
theorem c6i {E S P : Nat} (h : E * (2 ^ 127 + 1) < S * P * 2 ^ 127) : (E : Int) * (2 ^ 127 + 1) < (S : Int) * (P : Int) * 2 ^ 127 := by
 have e : ((S * P : Nat) : Int) = (S : Int) * (P : Int) := Int.natCast_mul _ _
 rw [← e]
 generalize S * P = Q at *
 omega
theorem rises_chain {a n n1 sq ts : Int} {s1 t1 s2 t2 s3 s4 : Bool} {l1 m1 l2 m2 l3 l4 : List Int} {e1 f1 e2 f2 e3 e4 : Int} (hA : Ev (fun k => vernierlaw34_alive.f k) true) (en : wrap64 (1 + (Int.tmod (wrap64 a) 63)) = n) (en1 : wrap64 (n + 1) = n1)
  (em : wrap64 (n * n) = sq) (em2a : wrap64 (2 * n) = 2 * n) (em2 : wrap64 (2 * n * n) = ts)
  (d1 : Ev (fun k => bound_Dot.f k n) (s1, l1, e1, t1, m1, f1, 0)) (d2 : Ev (fun k => bound_Dot.f k n1) (s2, l2, e2, t2, m2, f2, 0)) (k1 : Ev (fun k => dyadic_Cmp.f k s1 l1 e1 s2 l2 e2) (-1, 0)) (k2 : Ev (fun k => dyadic_Cmp.f k t1 m1 f1 t2 m2 f2) (-1, 0))
  (o1 : Ev (fun k => vernierlaw34_of.f k sq (-54)) (s3, l3, e3)) (k3 : Ev (fun k => dyadic_Cmp.f k s3 l3 e3 s1 l1 e1) (-1, 0)) (o2 : Ev (fun k => vernierlaw34_of.f k ts (-53)) (s4, l4, e4)) (k4 : Ev (fun k => dyadic_Cmp.f k s1 l1 e1 s4 l4 e4) (-1, 0)) : Ev (fun k => vernierlaw34_BoundRises.f k a) true := by
 unfold vernierlaw34_BoundRises.f
 rw [en, en1, em, em2a, em2]
 refine Ev.bind hA (Ev.congr (fun k => if_pos rfl) (Ev.bind d1 (Ev.bind d2 (Ev.bind k1 (Ev.bind k2 (Ev.bind o1 (Ev.bind k3 (Ev.bind o2 (Ev.bind k4 ?_)))))))))
 exact Ev.congr (fun k => (if_pos rfl).trans ((if_pos rfl).trans ((if_pos (by decide)).trans ((if_pos (by decide)).trans (if_pos (by decide)))))) (Ev.now _)
theorem wraps {k : Nat} (hk : k < 63) : wrap64 (((k + 1 : Nat) : Int) * ((k + 1 : Nat) : Int)) = (((k + 1) * (k + 1) : Nat) : Int) ∧ wrap64 (2 * ((k + 1 : Nat) : Int)) = 2 * ((k + 1 : Nat) : Int) ∧ wrap64 (2 * ((k + 1 : Nat) : Int) * ((k + 1 : Nat) : Int)) = ((2 * (k + 1) * (k + 1) : Nat) : Int) ∧
  (Ev (fun i => vernierlaw34_of.f i (((k + 1) * (k + 1) : Nat) : Int) (-54)) ((dt (((k + 1) * (k + 1) : Nat) : Int) (-54)).1, (dt (((k + 1) * (k + 1) : Nat) : Int) (-54)).2.1, (dt (((k + 1) * (k + 1) : Nat) : Int) (-54)).2.2.1) ∧ Rg (((k + 1) * (k + 1) : Nat) : Int) (-54)) ∧
  (Ev (fun i => vernierlaw34_of.f i ((2 * (k + 1) * (k + 1) : Nat) : Int) (-53)) ((dt ((2 * (k + 1) * (k + 1) : Nat) : Int) (-53)).1, (dt ((2 * (k + 1) * (k + 1) : Nat) : Int) (-53)).2.1, (dt ((2 * (k + 1) * (k + 1) : Nat) : Int) (-53)).2.2.1) ∧ Rg ((2 * (k + 1) * (k + 1) : Nat) : Int) (-53)) := by
 have hsq : ((k + 1 : Nat) : Int) * ((k + 1 : Nat) : Int) = (((k + 1) * (k + 1) : Nat) : Int) := (Int.natCast_mul _ _).symm
 have hsq2 : 2 * ((k + 1 : Nat) : Int) * ((k + 1 : Nat) : Int) = ((2 * (k + 1) * (k + 1) : Nat) : Int) := by rw [Int.natCast_mul, Int.natCast_mul]; rfl
 have hb : (k + 1) * (k + 1) ≤ 63 * 63 := Nat.mul_le_mul (by omega) (by omega)
 have hb2 : 2 * (k + 1) * (k + 1) = 2 * ((k + 1) * (k + 1)) := Nat.mul_assoc _ _ _
 have h2 : wrap64 (2 * ((k + 1 : Nat) : Int)) = 2 * ((k + 1 : Nat) : Int) := w64 (by omega) (by omega)
 rw [hsq, hsq2, hb2]
 refine ⟨?_, h2, ?_, ?_, ?_⟩
 ·
  generalize (k + 1) * (k + 1) = Q at *
  exact w64 (by omega) (by omega)
 ·
  generalize (k + 1) * (k + 1) = Q at *
  exact w64 (by omega) (by omega)
 ·
  generalize (k + 1) * (k + 1) = Q at *
  exact lof_at (by omega) (by omega) (by omega) (by omega)
 ·
  generalize (k + 1) * (k + 1) = Q at *
  exact lof_at (by omega) (by omega) (by omega) (by omega)
theorem BoundRises (a0 : Int) (w0 : (Lit.int .u8 a0).wf = true) : ∃ k, vernierlaw34_BoundRises.f k a0 = some true := by
 refine Ev.rounds ?_
 have h0 : 0 ≤ a0 ∧ a0 ≤ 255 := by
  simp [Lit.wf, IntKind.min, IntKind.max, IntKind.signed, IntKind.bits] at w0
  omega
 have ew : wrap64 a0 = a0 := w64 (by omega) (by omega)
 have et : Int.tmod a0 63 = a0 % 63 := Int.tmod_eq_emod_of_nonneg h0.1
 obtain ⟨k, hk⟩ := Int.eq_ofNat_of_zero_le (show 0 ≤ a0 % 63 by omega)
 have hk2 : k < 63 := by omega
 have en : wrap64 (1 + (Int.tmod (wrap64 a0) 63)) = ((k + 1 : Nat) : Int) := by rw [ew, et, hk, w64 (by omega) (by omega)]; omega
 have en1 : wrap64 (((k + 1 : Nat) : Int) + 1) = ((k + 1 + 1 : Nat) : Int) := (w64 (by omega) (by omega)).trans (by omega)
 obtain ⟨Z1, X1, Y1, W1, d1, r1, r1', p1, p2, p3, p4⟩ := Dot_at (k := k) (by omega)
 obtain ⟨Z2, X2, Y2, W2, d2, r2, r2', q1, q2, q3, q4⟩ := Dot_at (k := k + 1) (by omega)
 obtain ⟨c1, c2, c3, c4, c5, c6, c7, c8, c9⟩ := chk_facts (k := k) (by omega)
 obtain ⟨em, em2a, em2, ⟨o1, ro1⟩, ⟨o2, ro2⟩⟩ := wraps hk2
 have hE : vl Z1 X1 < vl Z2 X2 := by
  refine less_of p2 ?_ q1
  rw [vl_E (sE k : Int) k (by omega), vl_mul_c, vl_mul_c]
  exact vl_le (c7i c7)
 have hG : vl Y1 W1 < vl Y2 W2 := by
  refine less_of p4 ?_ q3
  rw [vl_G (sG k : Int) k (by omega), vl_mul_c, vl_mul_c]
  exact vl_le (c7i c8)
 have hU := vl_lowk (((k + 1) * (k + 1) : Nat) : Int) (-54) k (by omega) (by omega)
 have hU2 := vl_lowk ((2 * (k + 1) * (k + 1) : Nat) : Int) (-53) k (by omega) (by omega)
 rw [show (-53 : Int) - 53 * (k : Int) = -53 * (k + 1 : Nat) by omega] at hU2
 have hL : vl (((k + 1) * (k + 1) : Nat) : Int) (-54) < vl Z1 X1 := by
  refine Int.lt_of_lt_of_le ?_ p1
  have hs := vl_shift (sE k) (-53 * (k + 1 : Nat)) 1 (by omega)
  rw [hU, ← hs, show -53 * ((k + 1 : Nat) : Int) - ((1 : Nat) : Int) = -54 - 53 * (k : Int) by omega]
  have h5 := c5i c5
  rw [← U_nat] at h5
  rw [Int.pow_one]
  exact vl_lt h5
 have hR : vl Z1 X1 < vl ((2 * (k + 1) * (k + 1) : Nat) : Int) (-53) := by
  refine Int.lt_of_mul_lt_mul_right (a := 2 ^ 127) (Int.lt_trans p2 ?_) (by decide)
  rw [hU2, vl_mul_c, vl_mul_c]
  have h6 := c6i c6
  rw [← U_nat] at h6
  exact vl_lt h6
 have k1 := cmp_at r1 r2
 have k2 := cmp_at r1' r2'
 have k3 := cmp_at ro1 r1
 have k4 := cmp_at r1 ro2
 rw [sgn_lt hE] at k1
 rw [sgn_lt hG] at k2
 rw [sgn_lt hL] at k3
 rw [sgn_lt hR] at k4
 have q := rises_chain alive34_ev en en1 em em2a em2 d1 d2 k1 k2 o1 k3 o2 k4
 exact q
end Go.Proofs.YtpdjahhimmaonaaDoor.Pure
end
