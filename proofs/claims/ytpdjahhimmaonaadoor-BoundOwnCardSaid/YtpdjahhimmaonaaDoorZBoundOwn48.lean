/- Parts of a proof. -/
import Derived.Test.YtpdjahhimmaonaaDoorZBoundOwn44
section
namespace Go.Proofs.YtpdjahhimmaonaaDoor.Num
set_option linter.unusedVariables false
set_option linter.unusedSimpArgs false
def V (B : Int) : List Int → Int
 | [] => 0
 | x :: l => x + B * V B l
def Dig (B : Int) (l : List Int) : Prop := ∀ x ∈ l, 0 ≤ x ∧ x < B
def Nrm (B : Int) (l : List Int) : Prop := Dig B l ∧ (l = [] ∨ l.getD (l.length - 1) 0 ≠ 0)
theorem V_cons (B x : Int) (l : List Int) : V B (x :: l) = x + B * V B l := rfl
theorem V_append (B : Int) (l m : List Int) : V B (l ++ m) = V B l + B ^ l.length * V B m := by
 induction l with
 | nil => simp [V]
 | cons x l ih =>
  simp only [List.cons_append, V, ih, List.length_cons]
  grind
theorem Dig.nil (B : Int) : Dig B [] := by intro x hx; cases hx
theorem Dig.cons {B x : Int} {l : List Int} (h0 : 0 ≤ x) (h1 : x < B) (h : Dig B l) : Dig B (x :: l) := by
 intro y hy
 rcases List.mem_cons.1 hy with rfl | hy
 ·
  exact ⟨h0, h1⟩
 ·
  exact h y hy
theorem Dig.tail {B x : Int} {l : List Int} (h : Dig B (x :: l)) : Dig B l := fun y hy => h y (List.mem_cons_of_mem _ hy)
theorem Dig.head {B x : Int} {l : List Int} (h : Dig B (x :: l)) : 0 ≤ x ∧ x < B := h x (List.mem_cons_self ..)
theorem Dig.append {B : Int} {l m : List Int} (h : Dig B l) (h' : Dig B m) : Dig B (l ++ m) := by
 intro y hy
 rcases List.mem_append.1 hy with hy | hy
 ·
  exact h y hy
 ·
  exact h' y hy
theorem Dig.take {B : Int} {l : List Int} (h : Dig B l) (n : Nat) : Dig B (l.take n) := fun y hy => h y (List.mem_of_mem_take hy)
theorem Dig.drop {B : Int} {l : List Int} (h : Dig B l) (n : Nat) : Dig B (l.drop n) := fun y hy => h y (List.mem_of_mem_drop hy)
theorem Dig.getD {B : Int} {l : List Int} (h : Dig B l) (hB : 0 < B) (n : Nat) : 0 ≤ l.getD n 0 ∧ l.getD n 0 < B := by
 by_cases hn : n < l.length
 ·
  rw [List.getD_eq_getElem?_getD, List.getElem?_eq_getElem hn]
  exact h _ (List.getElem_mem hn)
 ·
  rw [List.getD_eq_getElem?_getD, List.getElem?_eq_none (by omega)]
  exact ⟨by simp, by simpa using hB⟩
theorem Dig.set {B v : Int} {l : List Int} (h : Dig B l) (n : Nat) (h0 : 0 ≤ v) (h1 : v < B) : Dig B (l.set n v) := by
 intro y hy
 rcases List.mem_or_eq_of_mem_set hy with hy | rfl
 ·
  exact h y hy
 ·
  exact ⟨h0, h1⟩
theorem Dig.replicate {B : Int} (hB : 0 < B) (n : Nat) : Dig B (List.replicate n 0) := by
 intro y hy
 obtain rfl := List.eq_of_mem_replicate hy
 exact ⟨by omega, hB⟩
theorem V_replicate (B : Int) (n : Nat) : V B (List.replicate n 0) = 0 := by
 induction n with
 | zero => rfl
 | succ n ih => rw [List.replicate_succ, V_cons, ih]; simp
theorem V_nonneg {B : Int} (hB : 0 < B) {l : List Int} (h : Dig B l) : 0 ≤ V B l := by
 induction l with
 | nil => simp [V]
 | cons x l ih =>
  have h1 := ih h.tail
  have h2 := h.head
  have h3 := Int.mul_nonneg (Int.le_of_lt hB) h1
  rw [V_cons]; omega
theorem V_lt {B : Int} (hB : 0 < B) {l : List Int} (h : Dig B l) : V B l < B ^ l.length := by
 induction l with
 | nil => simp [V]
 | cons x l ih =>
  have h1 := ih h.tail
  have h2 := h.head
  rw [V_cons, List.length_cons, Int.pow_succ]
  have h3 : B * V B l ≤ B * (B ^ l.length - 1) := Int.mul_le_mul_of_nonneg_left (by omega) (by omega)
  grind
theorem pow_pos' {B : Int} (hB : 0 < B) (n : Nat) : 0 < B ^ n := Int.pow_pos hB
theorem V_last {B : Int} {l : List Int} (h : l ≠ []) : V B l = V B (l.take (l.length - 1)) + B ^ (l.length - 1) * l.getD (l.length - 1) 0 := by
 obtain ⟨m, x, rfl⟩ : ∃ m x, l = m ++ [x] := ⟨l.dropLast, l.getLast h, (List.dropLast_concat_getLast h).symm⟩
 rw [V_append]
 simp [V]
theorem V_ge {B : Int} (hB : 0 < B) {l : List Int} (h : Nrm B l) (hl : l ≠ []) : B ^ (l.length - 1) ≤ V B l := by
 have h1 := V_last (B := B) hl
 have h2 := V_nonneg hB (h.1.take (l.length - 1))
 have h3 : 1 ≤ l.getD (l.length - 1) 0 := by
  have h4 := (h.1.getD hB (l.length - 1)).1
  have h5 := h.2.resolve_left hl
  omega
 have h6 : B ^ (l.length - 1) * 1 ≤ B ^ (l.length - 1) * l.getD (l.length - 1) 0 := Int.mul_le_mul_of_nonneg_left h3 (Int.le_of_lt (pow_pos' hB _))
 omega
theorem pow_le {B : Int} (hB : 0 < B) {m n : Nat} (h : m ≤ n) : B ^ m ≤ B ^ n := by
 obtain ⟨k, rfl⟩ := Nat.exists_eq_add_of_le h
 rw [Int.pow_add]
 have h1 := pow_pos' hB m
 have h2 := pow_pos' hB k
 have h3 : B ^ m * 1 ≤ B ^ m * B ^ k := Int.mul_le_mul_of_nonneg_left (by omega) (by omega)
 omega
theorem dig_uniq {B : Int} (hB : 0 < B) : ∀ {l m : List Int}, Dig B l → Dig B m → l.length = m.length → V B l = V B m → l = m
 | [], [], _, _, _, _ => rfl
 | [], _ :: _, _, _, h, _ => by simp at h
 | _ :: _, [], _, _, h, _ => by simp at h
 | x :: l, y :: m, hl, hm, h, hv => by
  rw [V_cons, V_cons] at hv
  have hx := hl.head
  have hy := hm.head
  have e : x = y := by
   have h1 : (x + B * V B l) % B = x := by rw [Int.add_mul_emod_self_left]; exact Int.emod_eq_of_lt hx.1 hx.2
   have h2 : (y + B * V B m) % B = y := by rw [Int.add_mul_emod_self_left]; exact Int.emod_eq_of_lt hy.1 hy.2
   rw [← h1, ← h2, hv]
  subst e
  have h3 : B * V B l = B * V B m := by omega
  have h4 := Int.eq_of_mul_eq_mul_left (by omega) h3
  rw [dig_uniq hB hl.tail hm.tail (by simpa using h) h4]
theorem nrm_len {B : Int} (hB : 1 < B) {l m : List Int} (hl : Nrm B l) (hm : Dig B m) (h : V B l ≤ V B m) : l.length ≤ m.length := by
 by_cases e : l = []
 ·
  simp [e]
 ·
  have h1 := V_ge (by omega) hl e
  have h2 := V_lt (by omega) hm
  have h3 : 0 < l.length := List.length_pos_iff.2 e
  by_cases h4 : l.length ≤ m.length
  ·
   exact h4
  ·
   have h5 := pow_le (B := B) (by omega) (m := m.length) (n := l.length - 1) (by omega)
   omega
theorem nrm_uniq {B : Int} (hB : 1 < B) {l m : List Int} (hl : Nrm B l) (hm : Nrm B m) (h : V B l = V B m) : l = m :=
 dig_uniq (by omega) hl.1 hm.1 (Nat.le_antisymm (nrm_len hB hl hm.1 (by omega)) (nrm_len hB hm hl.1 (by omega))) h
theorem getD_take (l : List Int) (n i : Nat) : (l.take n).getD i 0 = if i < n then l.getD i 0 else 0 := by
 simp only [List.getD_eq_getElem?_getD, List.getElem?_take]
 split <;> simp
theorem V_take_succ (B : Int) (l : List Int) (i : Nat) : V B (l.take (i + 1)) = V B (l.take i) + B ^ i * l.getD i 0 := by
 by_cases h : i < l.length
 ·
  rw [List.take_succ_eq_append_getElem h, V_append]
  simp [V, Nat.min_eq_left (Nat.le_of_lt h), List.getD_eq_getElem?_getD, List.getElem?_eq_getElem h]
 ·
  rw [List.take_of_length_le (by omega), List.take_of_length_le (by omega), List.getD_eq_getElem?_getD, List.getElem?_eq_none (by omega)]
  simp
theorem V_take_all (B : Int) (l : List Int) {n : Nat} (h : l.length ≤ n) : V B (l.take n) = V B l := by rw [List.take_of_length_le h]
theorem V_split (B : Int) (l : List Int) {n : Nat} (h : n ≤ l.length) : V B l = V B (l.take n) + B ^ n * V B (l.drop n) := by
 conv => lhs; rw [← List.take_append_drop n l, V_append]
 rw [List.length_take, Nat.min_eq_left h]
theorem V_set (B : Int) (v : Int) : ∀ (l : List Int) (j : Nat), j < l.length → V B (l.set j v) = V B l + B ^ j * (v - l.getD j 0)
 | [], j, h => by simp at h
 | x :: l, 0, _ => by simp [V]; omega
 | x :: l, j + 1, h => by
  simp only [List.set_cons_succ, V_cons]
  rw [V_set B v l j (by simpa using h)]
  simp only [List.getD_cons_succ]
  grind
theorem getD_set (l : List Int) (j i : Nat) (v : Int) (h : j < l.length) : (l.set j v).getD i 0 = if i = j then v else l.getD i 0 := by
 simp only [List.getD_eq_getElem?_getD, List.getElem?_set]
 split
 ·
  rename_i e
  subst e
  simp
 ·
  rename_i e
  rw [if_neg (by omega)]
theorem V_take_set_lt (B v : Int) (l : List Int) (j n : Nat) (h : n ≤ j) : V B ((l.set j v).take n) = V B (l.take n) := by
 rw [List.take_set_of_le h]
theorem V_take_set_succ (B v : Int) (l : List Int) (j : Nat) (h : j < l.length) : V B ((l.set j v).take (j + 1)) = V B (l.take j) + B ^ j * v := by
 rw [V_take_succ, V_take_set_lt _ _ _ _ _ (Nat.le_refl _), getD_set _ _ _ _ h, if_pos rfl]
theorem nrm_take {B : Int} {l : List Int} (h : Dig B l) {n : Nat} (hn : n ≤ l.length) (h0 : n = 0 ∨ l.getD (n - 1) 0 ≠ 0) : Nrm B (l.take n) := by
 refine ⟨h.take n, ?_⟩
 rcases h0 with rfl | h0
 ·
  left; simp
 ·
  by_cases e : n = 0
  ·
   left; simp [e]
  ·
   right
   rw [List.length_take, Nat.min_eq_left hn, getD_take, if_pos (by omega)]
   exact h0
theorem lt_of_len {B : Int} (hB : 1 < B) {l m : List Int} (hl : Dig B l) (hm : Nrm B m) (h : l.length < m.length) : V B l < V B m := by
 by_cases e : V B m ≤ V B l
 ·
  have := nrm_len hB hm hl e; omega
 ·
  omega
theorem lt_of_digit {B : Int} (hB : 0 < B) {l m : List Int} (hl : Dig B l) (hm : Dig B m) (i : Nat) (hx : l.getD i 0 < m.getD i 0) : V B (l.take (i + 1)) < V B (m.take (i + 1)) := by
 rw [V_take_succ, V_take_succ]
 have h1 := V_lt hB (hl.take i)
 have h2 := V_nonneg hB (hm.take i)
 have h3 : B ^ (l.take i).length ≤ B ^ i := pow_le hB (by rw [List.length_take]; omega)
 have h4 : B ^ i * (l.getD i 0 + 1) ≤ B ^ i * m.getD i 0 := Int.mul_le_mul_of_nonneg_left (by omega) (Int.le_of_lt (pow_pos' hB i))
 rw [Int.mul_add] at h4
 omega
theorem V_drop_succ (B : Int) (l : List Int) (i : Nat) (h : i < l.length) : V B (l.drop i) = l.getD i 0 + B * V B (l.drop (i + 1)) := by
 rw [List.drop_eq_getElem_cons h, V_cons, List.getD_eq_getElem?_getD, List.getElem?_eq_getElem h]
 rfl
theorem V_drop_all (B : Int) (l : List Int) {n : Nat} (h : l.length ≤ n) : V B (l.drop n) = 0 := by
 rw [List.drop_of_length_le h]; rfl
theorem pow_succ_pred (B : Int) {n : Nat} (h : 0 < n) : B ^ n = B ^ (n - 1) * B := by
 obtain ⟨m, rfl⟩ : ∃ m, n = m + 1 := ⟨n - 1, by omega⟩
 rw [Int.pow_succ]; simp
def IsBits (v : Int) (n : Int) : Prop := 0 ≤ v ∧ 0 ≤ n ∧ v < 2 ^ n.toNat ∧ (n = 0 ∨ 2 ^ (n.toNat - 1) ≤ v)
theorem two_pow_pos (n : Nat) : (0 : Int) < 2 ^ n := Int.pow_pos (by decide)
theorem two_pow_mono {m n : Nat} (h : m ≤ n) : (2 : Int) ^ m ≤ 2 ^ n := pow_le (by decide) h
theorem two_pow_lt_iff {m n : Nat} : (2 : Int) ^ m < 2 ^ n ↔ m < n := by
 constructor
 ·
  intro h
  by_cases e : n ≤ m
  ·
   have := two_pow_mono e; omega
  ·
   omega
 ·
  intro h
  have h1 := two_pow_mono (show m + 1 ≤ n from h)
  have := two_pow_pos m
  rw [Int.pow_succ] at h1
  omega
theorem IsBits.uniq {v n m : Int} (h : IsBits v n) (h' : IsBits v m) : n = m := by
 obtain ⟨h0, h1, h2, h3⟩ := h
 obtain ⟨_, g1, g2, g3⟩ := h'
 have key : ∀ {a b : Int}, 0 ≤ a → 0 ≤ b → v < 2 ^ a.toNat → (b = 0 ∨ 2 ^ (b.toNat - 1) ≤ v) → b ≤ a := by
  intro a b ha hb hlt hor
  rcases hor with rfl | hle
  ·
   exact ha
  ·
   by_cases e : b = 0
   ·
    omega
   ·
    have h5 : (2 : Int) ^ (b.toNat - 1) < 2 ^ a.toNat := by omega
    have := two_pow_lt_iff.1 h5
    omega
 have := key h1 g1 h2 g3
 have := key g1 h1 g2 h3
 omega
theorem IsBits.le_of {v n m : Int} (h : IsBits v n) (hm : 0 ≤ m) (hv : v < 2 ^ m.toNat) : n ≤ m := by
 obtain ⟨h0, h1, h2, h3⟩ := h
 rcases h3 with rfl | h3
 ·
  exact hm
 ·
  by_cases e : n = 0
  ·
   omega
  ·
   have h5 : (2 : Int) ^ (n.toNat - 1) < 2 ^ m.toNat := by omega
   have := two_pow_lt_iff.1 h5
   omega
theorem isBits_zero : IsBits 0 0 := ⟨by omega, by omega, by decide, .inl rfl⟩
theorem IsBits.half {v n : Int} (hv : 0 < v) (h : IsBits (v / 2) n) : IsBits v (n + 1) := by
 obtain ⟨h0, h1, h2, h3⟩ := h
 refine ⟨by omega, by omega, ?_, .inr ?_⟩
 ·
  rw [show (n + 1).toNat = n.toNat + 1 by omega, Int.pow_succ]
  omega
 ·
  rw [show (n + 1).toNat - 1 = n.toNat by omega]
  rcases h3 with rfl | h3
  ·
   simp; omega
  ·
   by_cases e : n = 0
   ·
    subst e; simp; omega
   ·
    rw [show n.toNat = n.toNat - 1 + 1 by omega, Int.pow_succ]
    omega
theorem IsBits.last {B : Int} {s : Nat} (hB : B = 2 ^ s) {l : List Int} (h : Dig B l) (hne : l ≠ []) {n : Int} (hn : IsBits (l.getD (l.length - 1) 0) n) (hn0 : n ≠ 0) : IsBits (V B l) (s * (l.length - 1 : Nat) + n) := by
 have hBp : 0 < B := by rw [hB]; exact two_pow_pos s
 obtain ⟨g0, g1, g2, g3⟩ := hn
 have hv := V_last (B := B) hne
 have h1 := V_nonneg hBp (h.take (l.length - 1))
 have h2 := V_lt hBp (h.take (l.length - 1))
 rw [List.length_take, Nat.min_eq_left (by omega)] at h2
 have hp := pow_pos' hBp (l.length - 1)
 have hpow : B ^ (l.length - 1) = 2 ^ (s * (l.length - 1)) := by rw [hB, Int.pow_mul]
 generalize l.getD (l.length - 1) 0 = t at *
 generalize l.length - 1 = m at *
 have e1 : ((s : Int) * (m : Int) + n).toNat = s * m + n.toNat := by
  have : (s : Int) * (m : Int) = ((s * m : Nat) : Int) := by simp
  omega
 refine ⟨by rw [hv]; have := Int.mul_nonneg (Int.le_of_lt hp) g0; omega, ?_, ?_, .inr ?_⟩
 ·
  have : (s : Int) * (m : Int) = ((s * m : Nat) : Int) := by simp
  omega
 ·
  rw [e1, Int.pow_add, ← hpow, hv]
  have : B ^ m * (t + 1) ≤ B ^ m * 2 ^ n.toNat := Int.mul_le_mul_of_nonneg_left (by omega) (Int.le_of_lt hp)
  rw [Int.mul_add] at this
  omega
 ·
  have e2 : ((s : Int) * (m : Int) + n).toNat - 1 = s * m + (n.toNat - 1) := by omega
  rw [e2, Int.pow_add, ← hpow, hv]
  have : B ^ m * 2 ^ (n.toNat - 1) ≤ B ^ m * t := Int.mul_le_mul_of_nonneg_left (g3.resolve_left hn0) (Int.le_of_lt hp)
  omega
def bitsOf (v : Int) : Int := if v ≤ 0 then 0 else (v.toNat.log2 : Int) + 1
theorem bitsOf_spec {v : Int} (h : 0 ≤ v) : IsBits v (bitsOf v) := by
 unfold bitsOf
 split
 ·
  obtain rfl : v = 0 := by omega
  exact isBits_zero
 ·
  obtain ⟨n, rfl⟩ := Int.eq_ofNat_of_zero_le h
  have hn : n ≠ 0 := by omega
  have e : ((((n : Int).toNat.log2 : Nat) : Int) + 1).toNat = n.log2 + 1 := by simp
  refine ⟨h, by omega, ?_, .inr ?_⟩
  ·
   rw [e]
   have := Nat.lt_log2_self (n := n)
   have h' : ((n : Nat) : Int) < ((2 ^ (n.log2 + 1) : Nat) : Int) := by omega
   simpa using h'
  ·
   rw [e, Nat.add_sub_cancel]
   have := Nat.log2_self_le hn
   have h' : ((2 ^ n.log2 : Nat) : Int) ≤ (n : Int) := by omega
   simpa using h'
theorem bitsOf_eq {v n : Int} (h : IsBits v n) : n = bitsOf v := h.uniq (bitsOf_spec h.1)
theorem bitsOf_pos {v : Int} (h : 0 < v) : 0 < bitsOf v := by unfold bitsOf; rw [if_neg (by omega)]; omega
theorem bitsOf_nonneg (v : Int) : 0 ≤ bitsOf v := by unfold bitsOf; split <;> omega
theorem bitsOf_zero_iff {v : Int} (h : 0 ≤ v) : bitsOf v = 0 ↔ v = 0 := by
 constructor
 ·
  intro e
  by_cases hv : 0 < v
  ·
   have := bitsOf_pos hv; omega
  ·
   omega
 ·
  rintro rfl
  rfl
theorem bitsOf_le {v : Int} (h : 0 ≤ v) {n : Nat} (hv : v < 2 ^ n) : bitsOf v ≤ n := IsBits.le_of (bitsOf_spec h) (m := n) (by omega) (by simpa using hv)
def dgF (B : Nat) : Nat → Nat → List Int
 | 0, _ => []
 | f + 1, n => if n = 0 then [] else ((n % B : Nat) : Int) :: dgF B f (n / B)
def dg (B : Int) (v : Int) : List Int := dgF B.toNat v.toNat v.toNat
theorem dgF_spec (B : Nat) (hB : 1 < B) : ∀ (f n : Nat), n ≤ f → Nrm (B : Int) (dgF B f n) ∧ V (B : Int) (dgF B f n) = n
 | 0, n, h => by
  obtain rfl : n = 0 := by omega
  exact ⟨⟨Dig.nil _, .inl rfl⟩, rfl⟩
 | f + 1, n, h => by
  by_cases h0 : n = 0
  ·
   subst h0
   simp only [dgF, if_true]
   exact ⟨⟨Dig.nil _, .inl rfl⟩, rfl⟩
  ·
   have hlt : n / B < n := Nat.div_lt_self (by omega) hB
   obtain ⟨⟨h1, h2⟩, h3⟩ := dgF_spec B hB f (n / B) (by omega)
   simp only [dgF, if_neg h0]
   have hm : n % B < B := Nat.mod_lt _ (by omega)
   have hdm : B * (n / B) + n % B = n := Nat.div_add_mod n B
   refine ⟨⟨Dig.cons (by omega) (by omega) h1, .inr ?_⟩, ?_⟩
   ·
    rcases h2 with h2 | h2
    ·
     rw [h2]
     have hv : n / B = 0 := by rw [h2] at h3; simp [V] at h3; omega
     simp only [List.length_cons, List.length_nil, List.getD_cons_zero]
     rw [hv] at hdm
     simp only [Nat.mul_zero, Nat.zero_add] at hdm
     simp only [Nat.zero_add, Nat.sub_self, List.getD_cons_zero]
     omega
    ·
     have hne : dgF B f (n / B) ≠ [] := by intro e; rw [e] at h2; simp at h2
     have hl : 0 < (dgF B f (n / B)).length := List.length_pos_iff.2 hne
     have e1 : (((n % B : Nat) : Int) :: dgF B f (n / B)).length - 1 = ((dgF B f (n / B)).length - 1) + 1 := by simp; omega
     rw [e1, List.getD_cons_succ]
     exact h2
   ·
    rw [V_cons, h3]
    have : ((B * (n / B) + n % B : Nat) : Int) = (n : Int) := by rw [hdm]
    simp only [Int.natCast_add, Int.natCast_mul] at this
    omega
theorem dg_nrm {B : Int} (hB : 1 < B) (v : Int) : Nrm B (dg B v) := by
 have h := (dgF_spec B.toNat (by omega) v.toNat v.toNat (Nat.le_refl _)).1
 have e : (B.toNat : Int) = B := by omega
 rw [e] at h
 exact h
theorem dg_val {B : Int} (hB : 1 < B) {v : Int} (hv : 0 ≤ v) : V B (dg B v) = v := by
 have h := (dgF_spec B.toNat (by omega) v.toNat v.toNat (Nat.le_refl _)).2
 have e : (B.toNat : Int) = B := by omega
 rw [e] at h
 have e2 : (v.toNat : Int) = v := by omega
 rw [e2] at h
 exact h
theorem dg_eq {B : Int} (hB : 1 < B) {l : List Int} (h : Nrm B l) : l = dg B (V B l) :=
 nrm_uniq hB h (dg_nrm hB _) (dg_val hB (V_nonneg (by omega) h.1)).symm
theorem dg_of {B : Int} (hB : 1 < B) {l : List Int} {v : Int} (h : Nrm B l) (hv : V B l = v) : l = dg B v := by rw [← hv]; exact dg_eq hB h
theorem dg_inj {B : Int} (hB : 1 < B) {v w : Int} (hv : 0 ≤ v) (hw : 0 ≤ w) : dg B v = dg B w ↔ v = w := by
 constructor
 ·
  intro h
  rw [← dg_val hB hv, ← dg_val hB hw, h]
 ·
  rintro rfl; rfl
theorem dg_zero (B : Int) : dg B 0 = [] := rfl
theorem dg_nil {B : Int} (hB : 1 < B) {v : Int} (hv : 0 ≤ v) : dg B v = [] ↔ v = 0 := by
 rw [← dg_zero B, dg_inj hB hv (by omega)]
theorem dg_len_le {B : Int} (hB : 1 < B) {v : Int} (hv : 0 ≤ v) {n : Nat} (h : v < B ^ n) : (dg B v).length ≤ n := by
 by_cases e : dg B v = []
 ·
  simp [e]
 ·
  have h1 := V_ge (by omega) (dg_nrm hB v) e
  rw [dg_val hB hv] at h1
  by_cases h4 : (dg B v).length ≤ n
  ·
   exact h4
  ·
   have h5 := pow_le (B := B) (by omega) (m := n) (n := (dg B v).length - 1) (by omega)
   omega
theorem dg_dig {B : Int} (hB : 1 < B) (v : Int) : Dig B (dg B v) := (dg_nrm hB v).1
theorem dg_one {B : Int} (hB : 1 < B) {v : Int} (h0 : 0 < v) (h1 : v < B) : dg B v = [v] := by
 refine (dg_of hB ⟨Dig.cons (by omega) h1 (Dig.nil _), .inr ?_⟩ ?_).symm
 ·
  simp; omega
 ·
  simp [V]
def szN : List Int → Nat
 | [] => 0
 | x :: l => if szN l = 0 then (if x = 0 then 0 else 1) else szN l + 1
theorem szN_le : ∀ l : List Int, szN l ≤ l.length
 | [] => Nat.le_refl _
 | x :: l => by
  have := szN_le l
  simp only [szN, List.length_cons]
  split
  ·
   split <;> omega
  ·
   omega
theorem szN_zero : ∀ (l : List Int) (i : Nat), szN l ≤ i → l.getD i 0 = 0
 | [], i, _ => by simp
 | x :: l, 0, h => by
  simp only [szN] at h
  split at h
  ·
   split at h
   ·
    rename_i hx; simpa using hx
   ·
    omega
  ·
   omega
 | x :: l, i + 1, h => by
  rw [List.getD_cons_succ]
  refine szN_zero l i ?_
  simp only [szN] at h
  split at h
  ·
   omega
  ·
   omega
theorem szN_top : ∀ l : List Int, szN l = 0 ∨ l.getD (szN l - 1) 0 ≠ 0
 | [] => .inl rfl
 | x :: l => by
  have ih := szN_top l
  simp only [szN]
  split
  ·
   split
   ·
    exact .inl rfl
   ·
    rename_i hx; right; simpa using hx
  ·
   rename_i h0
   right
   have e : szN l + 1 - 1 = (szN l - 1) + 1 := by omega
   rw [e, List.getD_cons_succ]
   exact ih.resolve_left h0
theorem szN_uniq (l : List Int) {m : Nat} (h1 : ∀ i, m ≤ i → l.getD i 0 = 0) (h2 : m = 0 ∨ l.getD (m - 1) 0 ≠ 0) : m = szN l := by
 have g1 := szN_zero l
 have g2 := szN_top l
 rcases Nat.lt_trichotomy m (szN l) with h | h | h
 ·
  exfalso
  rcases g2 with g2 | g2
  ·
   omega
  ·
   exact g2 (h1 _ (by omega))
 ·
  exact h
 ·
  exfalso
  rcases h2 with h2 | h2
  ·
   omega
  ·
   exact h2 (g1 _ (by omega))
theorem V_zeros (B : Int) : ∀ l : List Int, (∀ i, l.getD i 0 = 0) → V B l = 0
 | [], _ => rfl
 | x :: l, h => by
  have hx : x = 0 := by simpa using h 0
  rw [V_cons, V_zeros B l (fun i => by have := h (i + 1); rwa [List.getD_cons_succ] at this), hx]
  simp
theorem getD_drop (l : List Int) (n i : Nat) : (l.drop n).getD i 0 = l.getD (n + i) 0 := by
 simp only [List.getD_eq_getElem?_getD, List.getElem?_drop]
def trim (l : List Int) : List Int := l.take (szN l)
theorem trim_val (B : Int) (l : List Int) : V B (trim l) = V B l := by
 rw [V_split B l (szN_le l), V_zeros B (l.drop (szN l)) (fun i => by rw [getD_drop]; exact szN_zero l _ (by omega))]
 simp [trim]
theorem trim_nrm {B : Int} {l : List Int} (h : Dig B l) : Nrm B (trim l) := nrm_take h (szN_le l) (szN_top l)
theorem trim_dg {B : Int} (hB : 1 < B) {l : List Int} (h : Dig B l) : trim l = dg B (V B l) := dg_of hB (trim_nrm h) (trim_val B l)
def sv (s : Bool) (v : Int) : Int := if s = true then -v else v
def sgn (x : Int) : Int := if x < 0 then -1 else if x = 0 then 0 else 1
end Go.Proofs.YtpdjahhimmaonaaDoor.Num
end
section
namespace Go.Proofs.YtpdjahhimmaonaaDoor.PD
open Go.RowKit Go.Proofs.YtpdjahhimmaonaaDoorW.PrintWords Go.Proofs.YtpdjahhimmaonaaDoorW.PrintLast Go.Proofs.YtpdjahhimmaonaaDoor.Num
set_option linter.unusedVariables false
set_option linter.unusedSimpArgs false
theorem w64 {x : Int} (h0 : -9223372036854775808 ≤ x) (h1 : x ≤ 9223372036854775807) : wrap64 x = x := by unfold wrap64; omega
theorem u64w {x : Int} (h0 : 0 ≤ x) (h1 : x < 18446744073709551616) : IntKind.u64.wrap x = x := by rw [IntKind.wrap_u64]; omega
theorem rd_nat (l : List Int) (n : Nat) : rd l (n : Int) = l.getD n 0 := by simp [rd]
theorem one_lt_B : (1 : Int) < 18446744073709551616 := by decide
theorem B_pos : (0 : Int) < 18446744073709551616 := by decide
theorem dig_of_wf {l : List Int} (h : ∀ x ∈ l, (Lit.int .u64 x).wf = true) : Dig 18446744073709551616 l := by
 intro x hx
 have := h x hx
 simp [Lit.wf, IntKind.min, IntKind.max, IntKind.signed, IntKind.bits] at this
 omega
theorem size_loop (l : List Int) (hl : l.length ≤ 4611686018427387904) : ∀ n : Nat, n ≤ l.length → (∀ i, n ≤ i → l.getD i 0 = 0) → Ev (fun k => nat_size.l0 k l (n : Int)) (szN l : Int)
 | 0, _, hz => by
  have e : (0 : Nat) = szN l := szN_uniq l hz (.inl rfl)
  rw [← e]
  exact Ev.step (f := fun _ => some _) (fun k => by simp only [nat_size.l0]; rw [if_neg (by omega)]) (Ev.now _)
 | n + 1, hn, hz => by
  have ew : wrap64 (((n + 1 : Nat) : Int) - 1) = (n : Int) := by rw [w64 (by omega) (by omega)]; omega
  by_cases h0 : l.getD n 0 = 0
  ·
   refine Ev.step (f := fun k => nat_size.l0 k l (n : Int)) (fun k => ?_) (size_loop l hl n (by omega) (fun i hi => ?_))
   ·
    simp only [nat_size.l0]
    rw [if_pos (by omega), ew, if_pos (by omega), if_pos (by omega), rd_nat, if_pos h0]
   ·
    by_cases e : i = n
    ·
     rw [e]; exact h0
    ·
     exact hz i (by omega)
  ·
   have e : n + 1 = szN l := szN_uniq l hz (.inr (by simpa using h0))
   rw [← e]
   refine Ev.step (f := fun _ => some _) (fun k => ?_) (Ev.now _)
   simp only [nat_size.l0]
   rw [if_pos (by omega), ew, if_pos (by omega), if_pos (by omega), rd_nat, if_neg h0]
theorem size_ev (l : List Int) (hl : l.length ≤ 4611686018427387904) : Ev (fun k => nat_size.f k l) (szN l : Int) :=
 Ev.congr (fun k => rfl) (size_loop l hl l.length (Nat.le_refl _) (fun i hi => by rw [List.getD_eq_getElem?_getD, List.getElem?_eq_none hi]; rfl))
theorem cmpDown_val {B : Int} (hB : 0 < B) (a b : List Int) (ha : Dig B a) (hb : Dig B b) : ∀ N : Nat, cmpDown a b N = sgn (V B (a.take N) - V B (b.take N))
 | 0 => by simp [cmpDown, sgn, V]
 | N + 1 => by
  simp only [cmpDown]
  rw [rd_nat, rd_nat]
  by_cases h : a.getD N 0 = b.getD N 0
  ·
   rw [if_pos h, cmpDown_val hB a b ha hb N, V_take_succ, V_take_succ, h]
   congr 1
   omega
  ·
   rw [if_neg h]
   by_cases hlt : a.getD N 0 < b.getD N 0
   ·
    rw [if_pos hlt]
    have := lt_of_digit hB ha hb N hlt
    unfold sgn
    rw [if_pos (by omega)]
   ·
    rw [if_neg hlt]
    have := lt_of_digit hB hb ha N (by omega)
    unfold sgn
    rw [if_neg (by omega), if_neg (by omega)]
theorem sgn_neg_iff {x : Int} : sgn x < 0 ↔ x < 0 := by unfold sgn; split <;> (try split) <;> omega
theorem cmp_ev (a b : List Int) (ha : Dig 18446744073709551616 a) (hb : Dig 18446744073709551616 b) (hla : a.length ≤ 4611686018427387904) (hlb : b.length ≤ 4611686018427387904) :
  Ev (fun k => nat_Cmp.f k a b) (sgn (V 18446744073709551616 a - V 18446744073709551616 b)) := by
 unfold nat_Cmp.f
 refine Ev.bind (size_ev a hla) (Ev.bind (size_ev b hlb) ?_)
 have h1 := szN_le a
 have h2 := szN_le b
 refine Ev.congr (fun k => if_pos ⟨by omega, by omega, by omega⟩) ?_
 have va := trim_val 18446744073709551616 a
 have vb := trim_val 18446744073709551616 b
 have na := trim_nrm (B := 18446744073709551616) ha
 have nb := trim_nrm (B := 18446744073709551616) hb
 have la : (trim a).length = szN a := by unfold trim; rw [List.length_take]; omega
 have lb : (trim b).length = szN b := by unfold trim; rw [List.length_take]; omega
 by_cases e : szN a = szN b
 ·
  refine Ev.congr (fun k => if_pos (by omega)) ?_
  rw [Int.toNat_natCast, cmpDown_val B_pos a b ha hb]
  have e1 : V 18446744073709551616 (a.take (szN a)) = V 18446744073709551616 a := va
  have e2 : V 18446744073709551616 (b.take (szN a)) = V 18446744073709551616 b := by rw [e]; exact vb
  rw [e1, e2]
  exact Ev.now _
 ·
  refine Ev.congr (fun k => if_neg (by omega)) ?_
  by_cases hlt : szN a < szN b
  ·
   refine Ev.congr (fun k => if_pos (by omega)) ?_
   have := lt_of_len one_lt_B na.1 nb (by omega)
   have e3 : sgn (V 18446744073709551616 a - V 18446744073709551616 b) = -1 := by unfold sgn; rw [if_pos (by omega)]
   rw [e3]
   exact Ev.now _
  ·
   refine Ev.congr (fun k => if_neg (by omega)) ?_
   have := lt_of_len one_lt_B nb.1 na (by omega)
   have e3 : sgn (V 18446744073709551616 a - V 18446744073709551616 b) = 1 := by unfold sgn; rw [if_neg (by omega), if_neg (by omega)]
   rw [e3]
   exact Ev.now _
theorem at_some (l : List Int) (i : Nat) : nat_at.f l (i : Int) = some (l.getD i 0) := by
 unfold nat_at.f
 by_cases h : i < l.length
 ·
  rw [if_pos (by omega), if_pos (by omega), rd_nat]
 ·
  rw [if_neg (by omega), List.getD_eq_getElem?_getD, List.getElem?_eq_none (by omega)]; rfl
theorem cut_ev (l : List Int) (hl : l.length ≤ 4611686018427387904) (hd : Dig 18446744073709551616 l) :
  Ev (fun k => (nat_size.f k l).bind fun t => if 0 ≤ t then (if t ≤ (l.length : Int) then some (l.take (t : Int).toNat) else none) else none) (dg 18446744073709551616 (V 18446744073709551616 l)) := by
 refine Ev.bind (size_ev l hl) ?_
 have h1 := szN_le l
 refine Ev.congr (fun k => (if_pos (by omega)).trans (if_pos (by omega))) ?_
 rw [Int.toNat_natCast, ← trim_dg one_lt_B hd]
 exact Ev.now _
theorem add_loop (a b : List Int) (ha : Dig 18446744073709551616 a) (hb : Dig 18446744073709551616 b) (M : Nat) (hM : M ≤ 35184372088832) (hv : Aside0 (V 18446744073709551616 a + V 18446744073709551616 b < 18446744073709551616 ^ M)) : ∀ (d j : Nat) (out : List Int) (c : Int), M = j + d → out.length = M → Dig 18446744073709551616 out → 0 ≤ c → c ≤ 1 →
  Aside0 (V 18446744073709551616 (out.take j) + c * 18446744073709551616 ^ j = V 18446744073709551616 (a.take j) + V 18446744073709551616 (b.take j)) →
  Ev (fun k => nat_Add.l0 k a b out c (M : Int) (j : Int)) (dg 18446744073709551616 (V 18446744073709551616 a + V 18446744073709551616 b))
 | 0, j, out, c, hj, hl, hd, h0, h1, hI => by
  obtain rfl : M = j := by omega
  replace hv := hv.out
  replace hI := hI.out
  have hf : V 18446744073709551616 out = V 18446744073709551616 a + V 18446744073709551616 b := by
   have e1 := V_take_all 18446744073709551616 out (n := M) (by omega)
   have hla : V 18446744073709551616 a = V 18446744073709551616 (a.take M) + 18446744073709551616 ^ M * V 18446744073709551616 (a.drop M) := by
    by_cases h : M ≤ a.length
    ·
     exact V_split _ a h
    ·
     rw [List.take_of_length_le (by omega), V_drop_all _ a (by omega)]; omega
   have hlb : V 18446744073709551616 b = V 18446744073709551616 (b.take M) + 18446744073709551616 ^ M * V 18446744073709551616 (b.drop M) := by
    by_cases h : M ≤ b.length
    ·
     exact V_split _ b h
    ·
     rw [List.take_of_length_le (by omega), V_drop_all _ b (by omega)]; omega
   have pa := V_nonneg B_pos (ha.drop M)
   have pb := V_nonneg B_pos (hb.drop M)
   have qa := V_nonneg B_pos (ha.take M)
   have qb := V_nonneg B_pos (hb.take M)
   have po := V_nonneg B_pos (hd.take M)
   have pM := pow_pos' B_pos M
   have za : V 18446744073709551616 (a.drop M) = 0 := by
    by_cases h : 0 < V 18446744073709551616 (a.drop M)
    ·
     have : 18446744073709551616 ^ M * 1 ≤ 18446744073709551616 ^ M * V 18446744073709551616 (a.drop M) := Int.mul_le_mul_of_nonneg_left (by omega) (by omega)
     have : 0 ≤ 18446744073709551616 ^ M * V 18446744073709551616 (b.drop M) := Int.mul_nonneg (by omega) pb
     omega
    ·
     omega
   have zb : V 18446744073709551616 (b.drop M) = 0 := by
    by_cases h : 0 < V 18446744073709551616 (b.drop M)
    ·
     have : 18446744073709551616 ^ M * 1 ≤ 18446744073709551616 ^ M * V 18446744073709551616 (b.drop M) := Int.mul_le_mul_of_nonneg_left (by omega) (by omega)
     have : 0 ≤ 18446744073709551616 ^ M * V 18446744073709551616 (a.drop M) := Int.mul_nonneg (by omega) pa
     omega
    ·
     omega
   rw [za] at hla
   rw [zb] at hlb
   have hc : c = 0 ∨ c = 1 := by omega
   rcases hc with rfl | rfl
   ·
    omega
   ·
    exfalso; omega
  refine Ev.step (f := fun k => (nat_size.f k out).bind fun t => if 0 ≤ t then (if t ≤ (out.length : Int) then some (out.take (t : Int).toNat) else none) else none) (fun k => ?_) ?_
  ·
   simp only [nat_Add.l0]; rw [if_neg (by omega)]
  ·
   have := cut_ev out (by omega) hd
   rw [hf] at this
   exact this
 | d + 1, j, out, c, hj, hl, hd, h0, h1, hI => by
  have ga := ha.getD B_pos j
  have gb := hb.getD B_pos j
  have ew : wrap64 ((j : Int) + 1) = ((j + 1 : Nat) : Int) := by rw [w64 (by omega) (by omega)]; omega
  have hs := Int.emod_add_mul_ediv (a.getD j 0 + b.getD j 0 + c) 18446744073709551616
  have hm0 := Int.emod_nonneg (a.getD j 0 + b.getD j 0 + c) (show (18446744073709551616 : Int) ≠ 0 by decide)
  have hm1 := Int.emod_lt_of_pos (a.getD j 0 + b.getD j 0 + c) B_pos
  have hf : bits_Add64.f (a.getD j 0) (b.getD j 0) c = some ((a.getD j 0 + b.getD j 0 + c) % 18446744073709551616, (a.getD j 0 + b.getD j 0 + c) / 18446744073709551616) := by
   unfold bits_Add64.f
   rw [if_pos ⟨ga.1, gb.1, h0, h1⟩]
  obtain ⟨m, hm⟩ : ∃ m, (a.getD j 0 + b.getD j 0 + c) % 18446744073709551616 = m := ⟨_, rfl⟩
  obtain ⟨q, hq⟩ : ∃ q, (a.getD j 0 + b.getD j 0 + c) / 18446744073709551616 = q := ⟨_, rfl⟩
  rw [hm, hq] at hf hs
  rw [hm] at hm0 hm1
  clear hm hq
  refine Ev.step (f := fun k => nat_Add.l0 k a b (out.set j m) q (M : Int) ((j + 1 : Nat) : Int)) (fun k => ?_)
   (add_loop a b ha hb M hM hv d (j + 1) _ _ (by omega) (by simpa using hl) (hd.set j hm0 hm1) (by omega) (by omega) ⟨?_⟩)
  ·
   simp only [nat_Add.l0]
   rw [if_pos (by omega), at_some, at_some]
   simp only [Option.bind_some]
   rw [hf]
   simp only [Option.bind_some]
   rw [if_pos (by omega), if_pos (by omega), ew, Int.toNat_natCast]
  ·
   have hI := hI.out
   rw [V_take_set_succ _ _ _ _ (by omega), V_take_succ, V_take_succ, Int.pow_succ]
   clear hv
   generalize a.getD j 0 = x at *
   generalize b.getD j 0 = y at *
   generalize (18446744073709551616 : Int) ^ j = p at *
   have : p * (m + 18446744073709551616 * q) = p * (x + y + c) := by rw [hs]
   grind
theorem add_ev (a b : List Int) (ha : Dig 18446744073709551616 a) (hb : Dig 18446744073709551616 b) (hla : a.length < 35184372088832) (hlb : b.length < 35184372088832) :
  Ev (fun k => nat_Add.f k a b) (dg 18446744073709551616 (V 18446744073709551616 a + V 18446744073709551616 b)) := by
 have main : ∀ M : Nat, a.length < M → b.length < M → M ≤ 35184372088832 → V 18446744073709551616 a + V 18446744073709551616 b < 18446744073709551616 ^ M := by
  intro M h1 h2 _
  have va := V_lt B_pos ha
  have vb := V_lt B_pos hb
  have pa := pow_le (B := 18446744073709551616) B_pos (m := a.length) (n := M - 1) (by omega)
  have pb := pow_le (B := 18446744073709551616) B_pos (m := b.length) (n := M - 1) (by omega)
  have := pow_succ_pred 18446744073709551616 (n := M) (by omega)
  have := pow_pos' B_pos (M - 1)
  omega
 unfold nat_Add.f
 by_cases h : a.length < b.length
 ·
  refine Ev.congr (fun k => if_pos (by omega)) ?_
  have ew : wrap64 ((b.length : Int) + 1) = ((b.length + 1 : Nat) : Int) := by rw [w64 (by omega) (by omega)]; omega
  refine Ev.congr (f := fun k => nat_Add.l0 k a b (List.replicate (b.length + 1) 0) 0 ((b.length + 1 : Nat) : Int) ((0 : Nat) : Int)) (fun k => ?_)
   (add_loop a b ha hb (b.length + 1) (by omega) ⟨main _ (by omega) (by omega) (by omega)⟩ (b.length + 1) 0 _ 0 (by omega) (by simp) (Dig.replicate B_pos _) (by omega) (by omega) ⟨by simp [V]⟩)
  rw [ew, if_pos (by omega), if_pos (by omega)]
  simp
 ·
  refine Ev.congr (fun k => if_neg (by omega)) ?_
  have ew : wrap64 ((a.length : Int) + 1) = ((a.length + 1 : Nat) : Int) := by rw [w64 (by omega) (by omega)]; omega
  refine Ev.congr (f := fun k => nat_Add.l0 k a b (List.replicate (a.length + 1) 0) 0 ((a.length + 1 : Nat) : Int) ((0 : Nat) : Int)) (fun k => ?_)
   (add_loop a b ha hb (a.length + 1) (by omega) ⟨main _ (by omega) (by omega) (by omega)⟩ (a.length + 1) 0 _ 0 (by omega) (by simp) (Dig.replicate B_pos _) (by omega) (by omega) ⟨by simp [V]⟩)
  rw [ew, if_pos (by omega), if_pos (by omega)]
  simp
end Go.Proofs.YtpdjahhimmaonaaDoor.PD
end
section
namespace Go.Proofs.YtpdjahhimmaonaaDoor.PD
open Go.RowKit Go.Proofs.YtpdjahhimmaonaaDoorW.PrintWords Go.Proofs.YtpdjahhimmaonaaDoorW.PrintLast Go.Proofs.YtpdjahhimmaonaaDoor.Num
set_option linter.unusedVariables false
set_option linter.unusedSimpArgs false
theorem sub_step {x y c : Int} (hx0 : 0 ≤ x) (hx1 : x < 18446744073709551616) (hy0 : 0 ≤ y) (hy1 : y < 18446744073709551616) (h0 : 0 ≤ c) (h1 : c ≤ 1) :
  ∃ m q, bits_Sub64.f x y c = some (m, q) ∧ 0 ≤ m ∧ m < 18446744073709551616 ∧ 0 ≤ q ∧ q ≤ 1 ∧ m - 18446744073709551616 * q = x - y - c := by
 unfold bits_Sub64.f
 rw [if_pos ⟨hx0, hx1, hy0, hy1, h0, h1⟩]
 refine ⟨_, _, rfl, Int.emod_nonneg _ (by decide), Int.emod_lt_of_pos _ B_pos, ?_⟩
 by_cases h : x < y + c
 ·
  rw [if_pos h]
  have e : (x - y - c) % 18446744073709551616 = x - y - c + 18446744073709551616 := by omega
  omega
 ·
  rw [if_neg h]
  have e : (x - y - c) % 18446744073709551616 = x - y - c := by omega
  omega
theorem sub_end {a b out : List Int} {c : Int} (ha : Dig 18446744073709551616 a) (hb : Dig 18446744073709551616 b) (hd : Dig 18446744073709551616 out) (hl : out.length = a.length) (hle : V 18446744073709551616 b ≤ V 18446744073709551616 a) (h0 : 0 ≤ c) (h1 : c ≤ 1)
  (hI : V 18446744073709551616 (out.take a.length) - c * 18446744073709551616 ^ a.length = V 18446744073709551616 (a.take a.length) - V 18446744073709551616 (b.take a.length)) : V 18446744073709551616 out = V 18446744073709551616 a - V 18446744073709551616 b := by
 rw [V_take_all 18446744073709551616 out (by omega), V_take_all 18446744073709551616 a (Nat.le_refl _)] at hI
 have hlb : V 18446744073709551616 b = V 18446744073709551616 (b.take a.length) + 18446744073709551616 ^ a.length * V 18446744073709551616 (b.drop a.length) := by
  by_cases h : a.length ≤ b.length
  ·
   exact V_split _ b h
  ·
   rw [List.take_of_length_le (by omega), V_drop_all _ b (by omega)]; omega
 have va := V_lt B_pos ha
 have pb := V_nonneg B_pos (hb.drop a.length)
 have qb := V_nonneg B_pos (hb.take a.length)
 have po := V_nonneg B_pos hd
 have vo := V_lt B_pos hd
 rw [hl] at vo
 have pM := pow_pos' B_pos a.length
 have zb : V 18446744073709551616 (b.drop a.length) = 0 := by
  by_cases h : 0 < V 18446744073709551616 (b.drop a.length)
  ·
   have : 18446744073709551616 ^ a.length * 1 ≤ 18446744073709551616 ^ a.length * V 18446744073709551616 (b.drop a.length) := Int.mul_le_mul_of_nonneg_left (by omega) (by omega)
   omega
  ·
   omega
 rw [zb] at hlb
 have hc : c = 0 ∨ c = 1 := by omega
 rcases hc with rfl | rfl
 ·
  omega
 ·
  exfalso; omega
theorem sub_loop0 (a b : List Int) (ha : Dig 18446744073709551616 a) (hb : Dig 18446744073709551616 b) (hla : a.length ≤ 35184372088832) (hle : V 18446744073709551616 b ≤ V 18446744073709551616 a) : ∀ (d j : Nat) (out : List Int) (c : Int), a.length = j + d → out.length = a.length → Dig 18446744073709551616 out → 0 ≤ c → c ≤ 1 →
  Aside0 (V 18446744073709551616 (out.take j) - c * 18446744073709551616 ^ j = V 18446744073709551616 (a.take j) - V 18446744073709551616 (b.take j)) →
  Ev (fun k => nat_Sub.l0 k a b out c (a.length : Int) (j : Int)) (dg 18446744073709551616 (V 18446744073709551616 a - V 18446744073709551616 b))
 | 0, j, out, c, hj, hl, hd, h0, h1, hI => by
  obtain rfl : j = a.length := by omega
  have hf := sub_end ha hb hd hl hle h0 h1 hI.out
  refine Ev.step (f := fun k => (nat_size.f k out).bind fun t => if 0 ≤ t then (if t ≤ (out.length : Int) then some (out.take (t : Int).toNat) else none) else none) (fun k => ?_) ?_
  ·
   simp only [nat_Sub.l0]; rw [if_neg (by omega)]
  ·
   have := cut_ev out (by omega) hd
   rw [hf] at this
   exact this
 | d + 1, j, out, c, hj, hl, hd, h0, h1, hI => by
  have ga := ha.getD B_pos j
  have gb := hb.getD B_pos j
  have ew : wrap64 ((j : Int) + 1) = ((j + 1 : Nat) : Int) := by rw [w64 (by omega) (by omega)]; omega
  obtain ⟨m, q, hf, hm0, hm1, hq0, hq1, hs⟩ := sub_step ga.1 ga.2 gb.1 gb.2 h0 h1
  refine Ev.step (f := fun k => nat_Sub.l0 k a b (out.set j m) q (a.length : Int) ((j + 1 : Nat) : Int)) (fun k => ?_)
   (sub_loop0 a b ha hb hla hle d (j + 1) _ _ (by omega) (by simpa using hl) (hd.set j hm0 hm1) hq0 hq1 ⟨?_⟩)
  ·
   simp only [nat_Sub.l0]
   rw [if_pos (by omega), if_pos (by omega), if_pos (by omega), at_some, rd_nat]
   simp only [Option.bind_some]
   rw [hf]
   simp only [Option.bind_some]
   rw [if_pos (by omega), ew, Int.toNat_natCast]
  ·
   have hI := hI.out
   rw [V_take_set_succ _ _ _ _ (by omega), V_take_succ, V_take_succ, Int.pow_succ]
   generalize a.getD j 0 = x at *
   generalize b.getD j 0 = y at *
   generalize (18446744073709551616 : Int) ^ j = p at *
   have : p * (m - 18446744073709551616 * q) = p * (x - y - c) := by rw [hs]
   grind
theorem sub_loop1 (a b : List Int) : ∀ (k : Nat) (out : List Int) (c L j : Int), nat_Sub.l1 k a b out c L j = nat_Sub.l0 k a b out c L j
 | 0, _, _, _, _ => rfl
 | k + 1, out, c, L, j => by
  simp only [nat_Sub.l1, nat_Sub.l0]
  simp only [sub_loop1 a b k]
theorem sub_ev (a b : List Int) (ha : Dig 18446744073709551616 a) (hb : Dig 18446744073709551616 b) (hla : a.length ≤ 35184372088832) (hlb : b.length ≤ 35184372088832) :
  Ev (fun k => nat_Sub.f k a b) (dg 18446744073709551616 ((V 18446744073709551616 a - V 18446744073709551616 b).natAbs : Int)) := by
 unfold nat_Sub.f
 refine Ev.bind (cmp_ev a b ha hb (by omega) (by omega)) ?_
 by_cases h : V 18446744073709551616 a < V 18446744073709551616 b
 ·
  refine Ev.congr (fun k => if_pos (sgn_neg_iff.2 (by omega))) ?_
  refine Ev.congr (f := fun k => nat_Sub.l0 k b a (List.replicate b.length 0) 0 (b.length : Int) ((0 : Nat) : Int)) (fun k => ?_) ?_
  ·
   rw [if_pos (by omega), Int.toNat_natCast, if_pos (by omega)]
   simp
  ·
   have := sub_loop0 b a hb ha hlb (by omega) b.length 0 (List.replicate b.length 0) 0 (by omega) (by simp) (Dig.replicate B_pos _) (by omega) (by omega) ⟨by simp [V]⟩
   rw [show ((V 18446744073709551616 a - V 18446744073709551616 b).natAbs : Int) = V 18446744073709551616 b - V 18446744073709551616 a by omega]
   exact this
 ·
  refine Ev.congr (fun k => if_neg (fun h' => h (by have := sgn_neg_iff.1 h'; omega))) ?_
  refine Ev.congr (f := fun k => nat_Sub.l0 k a b (List.replicate a.length 0) 0 (a.length : Int) ((0 : Nat) : Int)) (fun k => ?_) ?_
  ·
   rw [if_pos (by omega), Int.toNat_natCast, if_pos (by omega)]
   simp [sub_loop1]
  ·
   have := sub_loop0 a b ha hb hla (by omega) a.length 0 (List.replicate a.length 0) 0 (by omega) (by simp) (Dig.replicate B_pos _) (by omega) (by omega) ⟨by simp [V]⟩
   rw [show ((V 18446744073709551616 a - V 18446744073709551616 b).natAbs : Int) = V 18446744073709551616 a - V 18446744073709551616 b by omega]
   exact this
theorem norm_loop (l : List Int) (hl : l.length ≤ 17592186044416) (hd : Dig 18446744073709551616 l) : ∀ n : Nat, n ≤ l.length → (∀ i, n ≤ i → l.getD i 0 = 0) → Ev (fun k => nat_Norm.l0 k l (n : Int)) (dg 18446744073709551616 (V 18446744073709551616 l))
 | 0, _, hz => by
  have e : (0 : Nat) = szN l := szN_uniq l hz (.inl rfl)
  rw [← trim_dg one_lt_B hd]
  refine Ev.step (f := fun _ => some _) (fun k => ?_) (Ev.now _)
  simp only [nat_Norm.l0]
  rw [if_neg (by omega), if_pos (by omega), if_pos (by omega)]
  unfold slices_Clone_uint64_uint64.f
  rw [if_pos (by simp)]
  simp [trim, ← e]
 | n + 1, hn, hz => by
  have ew : wrap64 (((n + 1 : Nat) : Int) - 1) = (n : Int) := by rw [w64 (by omega) (by omega)]; omega
  by_cases h0 : l.getD n 0 = 0
  ·
   refine Ev.step (f := fun k => nat_Norm.l0 k l (n : Int)) (fun k => ?_) (norm_loop l hl hd n (by omega) (fun i hi => ?_))
   ·
    simp only [nat_Norm.l0]
    rw [if_pos (by omega), ew, if_pos (by omega), if_pos (by omega), rd_nat, if_pos h0]
   ·
    by_cases e : i = n
    ·
     rw [e]; exact h0
    ·
     exact hz i (by omega)
  ·
   have e : n + 1 = szN l := szN_uniq l hz (.inr (by simpa using h0))
   rw [← trim_dg one_lt_B hd]
   refine Ev.step (f := fun _ => some _) (fun k => ?_) (Ev.now _)
   simp only [nat_Norm.l0]
   rw [if_pos (by omega), ew, if_pos (by omega), if_pos (by omega), rd_nat, if_neg h0, if_pos (by omega), if_pos (by omega)]
   unfold slices_Clone_uint64_uint64.f
   rw [if_pos (by rw [List.length_take]; omega)]
   simp only [Option.bind_some, trim, ← e, Int.toNat_natCast]
theorem norm_ev (l : List Int) (hl : l.length ≤ 17592186044416) (hd : Dig 18446744073709551616 l) : Ev (fun k => nat_Norm.f k l) (dg 18446744073709551616 (V 18446744073709551616 l)) :=
 Ev.congr (fun k => rfl) (norm_loop l hl hd l.length (Nat.le_refl _) (fun i hi => by rw [List.getD_eq_getElem?_getD, List.getElem?_eq_none hi]; rfl))
theorem same_loop (a b : List Int) (hl : a.length = b.length) (hb : a.length ≤ 4611686018427387904) : ∀ (d j : Nat), a.length = j + d → Ev (fun k => vernierref01_Same.l0 k a b (j : Int)) (decide (a.drop j = b.drop j))
 | 0, j, hj => by
  refine Ev.step (f := fun _ => some _) (fun k => ?_) (Ev.now _)
  simp only [vernierref01_Same.l0]
  rw [if_neg (by omega), List.drop_of_length_le (by omega), List.drop_of_length_le (by omega)]
  simp
 | d + 1, j, hj => by
  have ew : wrap64 ((j : Int) + 1) = ((j + 1 : Nat) : Int) := by rw [w64 (by omega) (by omega)]; omega
  have ea : a.drop j = a.getD j 0 :: a.drop (j + 1) := by rw [List.drop_eq_getElem_cons (by omega), List.getD_eq_getElem?_getD, List.getElem?_eq_getElem (by omega)]; rfl
  have eb : b.drop j = b.getD j 0 :: b.drop (j + 1) := by rw [List.drop_eq_getElem_cons (by omega), List.getD_eq_getElem?_getD, List.getElem?_eq_getElem (by omega)]; rfl
  rw [ea, eb]
  by_cases h : a.getD j 0 = b.getD j 0
  ·
   have e : (a.getD j 0 :: a.drop (j + 1) = b.getD j 0 :: b.drop (j + 1)) ↔ (a.drop (j + 1) = b.drop (j + 1)) := by rw [h]; simp
   rw [decide_eq_decide.2 e]
   refine Ev.step (f := fun k => vernierref01_Same.l0 k a b ((j + 1 : Nat) : Int)) (fun k => ?_) (same_loop a b hl hb d (j + 1) (by omega))
   simp only [vernierref01_Same.l0]
   rw [if_pos (by omega), if_pos (by omega), if_pos (by omega), rd_nat, rd_nat, if_pos h, ew]
  ·
   have e : decide (a.getD j 0 :: a.drop (j + 1) = b.getD j 0 :: b.drop (j + 1)) = false := by
    apply decide_eq_false
    intro h2
    injection h2 with h3 _
    exact h h3
   rw [e]
   refine Ev.step (f := fun _ => some _) (fun k => ?_) (Ev.now _)
   simp only [vernierref01_Same.l0]
   rw [if_pos (by omega), if_pos (by omega), if_pos (by omega), rd_nat, rd_nat, if_neg h]
theorem same_ev (a b : List Int) (hb : a.length ≤ 4611686018427387904) : Ev (fun k => vernierref01_Same.f k a b) (decide (a = b)) := by
 unfold vernierref01_Same.f
 by_cases h : a.length = b.length
 ·
  refine Ev.congr (fun k => if_pos (by omega)) ?_
  exact same_loop a b h hb a.length 0 (by omega)
 ·
  refine Ev.congr (fun k => if_neg (by omega)) ?_
  have e : decide (a = b) = false := decide_eq_false (fun h2 => h (by rw [h2]))
  rw [e]
  exact Ev.now _
theorem same_true {a b : List Int} (h : a = b) (hb : a.length ≤ 4611686018427387904) : Ev (fun k => vernierref01_Same.f k a b) true := by
 have := same_ev a b hb
 rwa [decide_eq_true h] at this
end Go.Proofs.YtpdjahhimmaonaaDoor.PD
end
