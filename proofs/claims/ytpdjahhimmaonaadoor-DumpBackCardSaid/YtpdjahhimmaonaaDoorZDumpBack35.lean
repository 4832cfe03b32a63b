/- Numbers as lists of digits: values, canonical digits, shifts, trial quotients, bits. Plain arithmetic. -/
namespace Go.Proofs.YtpdjahhimmaonaaDoor.Num
set_option linter.unusedVariables false
set_option linter.unusedSimpArgs false
def V (B : Int) : List Int → Int
  | [] => 0
  | x :: l => x + B * V B l
def Dig (B : Int) (l : List Int) : Prop := ∀ x ∈ l, 0 ≤ x ∧ x < B
def Nrm (B : Int) (l : List Int) : Prop := Dig B l ∧ (l = [] ∨ l.getD (l.length - 1) 0 ≠ 0)
theorem V_cons (B x : Int) (l : List Int) : V B (x :: l) = x + B * V B l := rfl
theorem V_append (B : Int) (l m : List Int) : V B (l ++ m) = V B l + B ^ l.length * V B m := by
  induction l with
  | nil => simp [V]
  | cons x l ih =>
    simp only [List.cons_append, V, ih, List.length_cons]
    grind
theorem Dig.nil (B : Int) : Dig B [] := by intro x hx; cases hx
theorem Dig.cons {B x : Int} {l : List Int} (h0 : 0 ≤ x) (h1 : x < B) (h : Dig B l) : Dig B (x :: l) := by
  intro y hy
  rcases List.mem_cons.1 hy with rfl | hy
  · exact ⟨h0, h1⟩
  · exact h y hy
theorem Dig.tail {B x : Int} {l : List Int} (h : Dig B (x :: l)) : Dig B l := fun y hy => h y (List.mem_cons_of_mem _ hy)
theorem Dig.head {B x : Int} {l : List Int} (h : Dig B (x :: l)) : 0 ≤ x ∧ x < B := h x (List.mem_cons_self ..)
theorem Dig.take {B : Int} {l : List Int} (h : Dig B l) (n : Nat) : Dig B (l.take n) := fun y hy => h y (List.mem_of_mem_take hy)
theorem Dig.drop {B : Int} {l : List Int} (h : Dig B l) (n : Nat) : Dig B (l.drop n) := fun y hy => h y (List.mem_of_mem_drop hy)
theorem Dig.getD {B : Int} {l : List Int} (h : Dig B l) (hB : 0 < B) (n : Nat) : 0 ≤ l.getD n 0 ∧ l.getD n 0 < B := by
  by_cases hn : n < l.length
  · rw [List.getD_eq_getElem?_getD, List.getElem?_eq_getElem hn]
    exact h _ (List.getElem_mem hn)
  · rw [List.getD_eq_getElem?_getD, List.getElem?_eq_none (by omega)]
    exact ⟨by simp, by simpa using hB⟩
theorem Dig.set {B v : Int} {l : List Int} (h : Dig B l) (n : Nat) (h0 : 0 ≤ v) (h1 : v < B) : Dig B (l.set n v) := by
  intro y hy
  rcases List.mem_or_eq_of_mem_set hy with hy | rfl
  · exact h y hy
  · exact ⟨h0, h1⟩
theorem Dig.replicate {B : Int} (hB : 0 < B) (n : Nat) : Dig B (List.replicate n 0) := by
  intro y hy
  obtain rfl := List.eq_of_mem_replicate hy
  exact ⟨by omega, hB⟩
theorem V_nonneg {B : Int} (hB : 0 < B) {l : List Int} (h : Dig B l) : 0 ≤ V B l := by
  induction l with
  | nil => simp [V]
  | cons x l ih =>
    have h1 := ih h.tail
    have h2 := h.head
    have h3 := Int.mul_nonneg (Int.le_of_lt hB) h1
    rw [V_cons]; omega
theorem V_lt {B : Int} (hB : 0 < B) {l : List Int} (h : Dig B l) : V B l < B ^ l.length := by
  induction l with
  | nil => simp [V]
  | cons x l ih =>
    have h1 := ih h.tail
    have h2 := h.head
    rw [V_cons, List.length_cons, Int.pow_succ]
    have h3 : B * V B l ≤ B * (B ^ l.length - 1) := Int.mul_le_mul_of_nonneg_left (by omega) (by omega)
    grind
theorem pow_pos' {B : Int} (hB : 0 < B) (n : Nat) : 0 < B ^ n := Int.pow_pos hB
theorem V_last {B : Int} {l : List Int} (h : l ≠ []) : V B l = V B (l.take (l.length - 1)) + B ^ (l.length - 1) * l.getD (l.length - 1) 0 := by
  obtain ⟨m, x, rfl⟩ : ∃ m x, l = m ++ [x] := ⟨l.dropLast, l.getLast h, (List.dropLast_concat_getLast h).symm⟩
  rw [V_append]
  simp [V]
theorem V_ge {B : Int} (hB : 0 < B) {l : List Int} (h : Nrm B l) (hl : l ≠ []) : B ^ (l.length - 1) ≤ V B l := by
  have h1 := V_last (B := B) hl
  have h2 := V_nonneg hB (h.1.take (l.length - 1))
  have h3 : 1 ≤ l.getD (l.length - 1) 0 := by
    have h4 := (h.1.getD hB (l.length - 1)).1
    have h5 := h.2.resolve_left hl
    omega
  have h6 : B ^ (l.length - 1) * 1 ≤ B ^ (l.length - 1) * l.getD (l.length - 1) 0 := Int.mul_le_mul_of_nonneg_left h3 (Int.le_of_lt (pow_pos' hB _))
  omega
theorem pow_le {B : Int} (hB : 0 < B) {m n : Nat} (h : m ≤ n) : B ^ m ≤ B ^ n := by
  obtain ⟨k, rfl⟩ := Nat.exists_eq_add_of_le h
  rw [Int.pow_add]
  have h1 := pow_pos' hB m
  have h2 := pow_pos' hB k
  have h3 : B ^ m * 1 ≤ B ^ m * B ^ k := Int.mul_le_mul_of_nonneg_left (by omega) (by omega)
  omega
theorem dig_uniq {B : Int} (hB : 0 < B) : ∀ {l m : List Int}, Dig B l → Dig B m → l.length = m.length → V B l = V B m → l = m
  | [], [], _, _, _, _ => rfl
  | [], _ :: _, _, _, h, _ => by simp at h
  | _ :: _, [], _, _, h, _ => by simp at h
  | x :: l, y :: m, hl, hm, h, hv => by
    rw [V_cons, V_cons] at hv
    have hx := hl.head
    have hy := hm.head
    have e : x = y := by
      have h1 : (x + B * V B l) % B = x := by rw [Int.add_mul_emod_self_left]; exact Int.emod_eq_of_lt hx.1 hx.2
      have h2 : (y + B * V B m) % B = y := by rw [Int.add_mul_emod_self_left]; exact Int.emod_eq_of_lt hy.1 hy.2
      rw [← h1, ← h2, hv]
    subst e
    have h3 : B * V B l = B * V B m := by omega
    have h4 := Int.eq_of_mul_eq_mul_left (by omega) h3
    rw [dig_uniq hB hl.tail hm.tail (by simpa using h) h4]
theorem nrm_len {B : Int} (hB : 1 < B) {l m : List Int} (hl : Nrm B l) (hm : Dig B m) (h : V B l ≤ V B m) : l.length ≤ m.length := by
  by_cases e : l = []
  · simp [e]
  · have h1 := V_ge (by omega) hl e
    have h2 := V_lt (by omega) hm
    have h3 : 0 < l.length := List.length_pos_iff.2 e
    by_cases h4 : l.length ≤ m.length
    · exact h4
    · have h5 := pow_le (B := B) (by omega) (m := m.length) (n := l.length - 1) (by omega)
      omega
theorem nrm_uniq {B : Int} (hB : 1 < B) {l m : List Int} (hl : Nrm B l) (hm : Nrm B m) (h : V B l = V B m) : l = m :=
  dig_uniq (by omega) hl.1 hm.1 (Nat.le_antisymm (nrm_len hB hl hm.1 (by omega)) (nrm_len hB hm hl.1 (by omega))) h
theorem getD_take (l : List Int) (n i : Nat) : (l.take n).getD i 0 = if i < n then l.getD i 0 else 0 := by
  simp only [List.getD_eq_getElem?_getD, List.getElem?_take]
  split <;> simp
theorem V_take_succ (B : Int) (l : List Int) (i : Nat) : V B (l.take (i + 1)) = V B (l.take i) + B ^ i * l.getD i 0 := by
  by_cases h : i < l.length
  · rw [List.take_succ_eq_append_getElem h, V_append]
    simp [V, Nat.min_eq_left (Nat.le_of_lt h), List.getD_eq_getElem?_getD, List.getElem?_eq_getElem h]
  · rw [List.take_of_length_le (by omega), List.take_of_length_le (by omega), List.getD_eq_getElem?_getD, List.getElem?_eq_none (by omega)]
    simp
theorem V_take_all (B : Int) (l : List Int) {n : Nat} (h : l.length ≤ n) : V B (l.take n) = V B l := by rw [List.take_of_length_le h]
theorem V_split (B : Int) (l : List Int) {n : Nat} (h : n ≤ l.length) : V B l = V B (l.take n) + B ^ n * V B (l.drop n) := by
  conv => lhs; rw [← List.take_append_drop n l, V_append]
  rw [List.length_take, Nat.min_eq_left h]
theorem getD_set (l : List Int) (j i : Nat) (v : Int) (h : j < l.length) : (l.set j v).getD i 0 = if i = j then v else l.getD i 0 := by
  simp only [List.getD_eq_getElem?_getD, List.getElem?_set]
  split
  · rename_i e
    subst e
    simp
  · rename_i e
    rw [if_neg (by omega)]
theorem V_take_set_lt (B v : Int) (l : List Int) (j n : Nat) (h : n ≤ j) : V B ((l.set j v).take n) = V B (l.take n) := by
  rw [List.take_set_of_le h]
theorem V_take_set_succ (B v : Int) (l : List Int) (j : Nat) (h : j < l.length) : V B ((l.set j v).take (j + 1)) = V B (l.take j) + B ^ j * v := by
  rw [V_take_succ, V_take_set_lt _ _ _ _ _ (Nat.le_refl _), getD_set _ _ _ _ h, if_pos rfl]
theorem nrm_take {B : Int} {l : List Int} (h : Dig B l) {n : Nat} (hn : n ≤ l.length) (h0 : n = 0 ∨ l.getD (n - 1) 0 ≠ 0) : Nrm B (l.take n) := by
  refine ⟨h.take n, ?_⟩
  rcases h0 with rfl | h0
  · left; simp
  · by_cases e : n = 0
    · left; simp [e]
    · right
      rw [List.length_take, Nat.min_eq_left hn, getD_take, if_pos (by omega)]
      exact h0
theorem V_drop_all (B : Int) (l : List Int) {n : Nat} (h : l.length ≤ n) : V B (l.drop n) = 0 := by
  rw [List.drop_of_length_le h]; rfl
theorem pow_succ_pred (B : Int) {n : Nat} (h : 0 < n) : B ^ n = B ^ (n - 1) * B := by
  obtain ⟨m, rfl⟩ : ∃ m, n = m + 1 := ⟨n - 1, by omega⟩
  rw [Int.pow_succ]; simp
def IsBits (v : Int) (n : Int) : Prop := 0 ≤ v ∧ 0 ≤ n ∧ v < 2 ^ n.toNat ∧ (n = 0 ∨ 2 ^ (n.toNat - 1) ≤ v)
theorem two_pow_pos (n : Nat) : (0 : Int) < 2 ^ n := Int.pow_pos (by decide)
theorem two_pow_mono {m n : Nat} (h : m ≤ n) : (2 : Int) ^ m ≤ 2 ^ n := pow_le (by decide) h
theorem two_pow_lt_iff {m n : Nat} : (2 : Int) ^ m < 2 ^ n ↔ m < n := by
  constructor
  · intro h
    by_cases e : n ≤ m
    · have := two_pow_mono e; omega
    · omega
  · intro h
    have h1 := two_pow_mono (show m + 1 ≤ n from h)
    have := two_pow_pos m
    rw [Int.pow_succ] at h1
    omega
theorem IsBits.uniq {v n m : Int} (h : IsBits v n) (h' : IsBits v m) : n = m := by
  obtain ⟨h0, h1, h2, h3⟩ := h
  obtain ⟨_, g1, g2, g3⟩ := h'
  have key : ∀ {a b : Int}, 0 ≤ a → 0 ≤ b → v < 2 ^ a.toNat → (b = 0 ∨ 2 ^ (b.toNat - 1) ≤ v) → b ≤ a := by
    intro a b ha hb hlt hor
    rcases hor with rfl | hle
    · exact ha
    · by_cases e : b = 0
      · omega
      · have h5 : (2 : Int) ^ (b.toNat - 1) < 2 ^ a.toNat := by omega
        have := two_pow_lt_iff.1 h5
        omega
  have := key h1 g1 h2 g3
  have := key g1 h1 g2 h3
  omega
theorem IsBits.le_of {v n m : Int} (h : IsBits v n) (hm : 0 ≤ m) (hv : v < 2 ^ m.toNat) : n ≤ m := by
  obtain ⟨h0, h1, h2, h3⟩ := h
  rcases h3 with rfl | h3
  · exact hm
  · by_cases e : n = 0
    · omega
    · have h5 : (2 : Int) ^ (n.toNat - 1) < 2 ^ m.toNat := by omega
      have := two_pow_lt_iff.1 h5
      omega
theorem isBits_zero : IsBits 0 0 := ⟨by omega, by omega, by decide, .inl rfl⟩
theorem IsBits.half {v n : Int} (hv : 0 < v) (h : IsBits (v / 2) n) : IsBits v (n + 1) := by
  obtain ⟨h0, h1, h2, h3⟩ := h
  refine ⟨by omega, by omega, ?_, .inr ?_⟩
  · rw [show (n + 1).toNat = n.toNat + 1 by omega, Int.pow_succ]
    omega
  · rw [show (n + 1).toNat - 1 = n.toNat by omega]
    rcases h3 with rfl | h3
    · simp; omega
    · by_cases e : n = 0
      · subst e; simp; omega
      · rw [show n.toNat = n.toNat - 1 + 1 by omega, Int.pow_succ]
        omega
theorem IsBits.last {B : Int} {s : Nat} (hB : B = 2 ^ s) {l : List Int} (h : Dig B l) (hne : l ≠ []) {n : Int} (hn : IsBits (l.getD (l.length - 1) 0) n) (hn0 : n ≠ 0) : IsBits (V B l) (s * (l.length - 1 : Nat) + n) := by
  have hBp : 0 < B := by rw [hB]; exact two_pow_pos s
  obtain ⟨g0, g1, g2, g3⟩ := hn
  have hv := V_last (B := B) hne
  have h1 := V_nonneg hBp (h.take (l.length - 1))
  have h2 := V_lt hBp (h.take (l.length - 1))
  rw [List.length_take, Nat.min_eq_left (by omega)] at h2
  have hp := pow_pos' hBp (l.length - 1)
  have hpow : B ^ (l.length - 1) = 2 ^ (s * (l.length - 1)) := by rw [hB, Int.pow_mul]
  generalize l.getD (l.length - 1) 0 = t at *
  generalize l.length - 1 = m at *
  have e1 : ((s : Int) * (m : Int) + n).toNat = s * m + n.toNat := by
    have : (s : Int) * (m : Int) = ((s * m : Nat) : Int) := by simp
    omega
  refine ⟨by rw [hv]; have := Int.mul_nonneg (Int.le_of_lt hp) g0; omega, ?_, ?_, .inr ?_⟩
  · have : (s : Int) * (m : Int) = ((s * m : Nat) : Int) := by simp
    omega
  · rw [e1, Int.pow_add, ← hpow, hv]
    have : B ^ m * (t + 1) ≤ B ^ m * 2 ^ n.toNat := Int.mul_le_mul_of_nonneg_left (by omega) (Int.le_of_lt hp)
    rw [Int.mul_add] at this
    omega
  · have e2 : ((s : Int) * (m : Int) + n).toNat - 1 = s * m + (n.toNat - 1) := by omega
    rw [e2, Int.pow_add, ← hpow, hv]
    have : B ^ m * 2 ^ (n.toNat - 1) ≤ B ^ m * t := Int.mul_le_mul_of_nonneg_left (g3.resolve_left hn0) (Int.le_of_lt hp)
    omega
def bitsOf (v : Int) : Int := if v ≤ 0 then 0 else (v.toNat.log2 : Int) + 1
theorem bitsOf_spec {v : Int} (h : 0 ≤ v) : IsBits v (bitsOf v) := by
  unfold bitsOf
  split
  · obtain rfl : v = 0 := by omega
    exact isBits_zero
  · obtain ⟨n, rfl⟩ := Int.eq_ofNat_of_zero_le h
    have hn : n ≠ 0 := by omega
    have e : ((((n : Int).toNat.log2 : Nat) : Int) + 1).toNat = n.log2 + 1 := by simp
    refine ⟨h, by omega, ?_, .inr ?_⟩
    · rw [e]
      have := Nat.lt_log2_self (n := n)
      have h' : ((n : Nat) : Int) < ((2 ^ (n.log2 + 1) : Nat) : Int) := by omega
      simpa using h'
    · rw [e, Nat.add_sub_cancel]
      have := Nat.log2_self_le hn
      have h' : ((2 ^ n.log2 : Nat) : Int) ≤ (n : Int) := by omega
      simpa using h'
theorem bitsOf_eq {v n : Int} (h : IsBits v n) : n = bitsOf v := h.uniq (bitsOf_spec h.1)
theorem bitsOf_pos {v : Int} (h : 0 < v) : 0 < bitsOf v := by unfold bitsOf; rw [if_neg (by omega)]; omega
theorem bitsOf_nonneg (v : Int) : 0 ≤ bitsOf v := by unfold bitsOf; split <;> omega
theorem bitsOf_le {v : Int} (h : 0 ≤ v) {n : Nat} (hv : v < 2 ^ n) : bitsOf v ≤ n := IsBits.le_of (bitsOf_spec h) (m := n) (by omega) (by simpa using hv)
theorem bitsOf_lt_pow {v : Int} (h : 0 ≤ v) : v < 2 ^ (bitsOf v).toNat := (bitsOf_spec h).2.2.1
def dgF (B : Nat) : Nat → Nat → List Int
  | 0, _ => []
  | f + 1, n => if n = 0 then [] else ((n % B : Nat) : Int) :: dgF B f (n / B)
def dg (B : Int) (v : Int) : List Int := dgF B.toNat v.toNat v.toNat
theorem dgF_spec (B : Nat) (hB : 1 < B) : ∀ (f n : Nat), n ≤ f → Nrm (B : Int) (dgF B f n) ∧ V (B : Int) (dgF B f n) = n
  | 0, n, h => by
    obtain rfl : n = 0 := by omega
    exact ⟨⟨Dig.nil _, .inl rfl⟩, rfl⟩
  | f + 1, n, h => by
    by_cases h0 : n = 0
    · subst h0
      simp only [dgF, if_true]
      exact ⟨⟨Dig.nil _, .inl rfl⟩, rfl⟩
    · have hlt : n / B < n := Nat.div_lt_self (by omega) hB
      obtain ⟨⟨h1, h2⟩, h3⟩ := dgF_spec B hB f (n / B) (by omega)
      simp only [dgF, if_neg h0]
      have hm : n % B < B := Nat.mod_lt _ (by omega)
      have hdm : B * (n / B) + n % B = n := Nat.div_add_mod n B
      refine ⟨⟨Dig.cons (by omega) (by omega) h1, .inr ?_⟩, ?_⟩
      · rcases h2 with h2 | h2
        · rw [h2]
          have hv : n / B = 0 := by rw [h2] at h3; simp [V] at h3; omega
          simp only [List.length_cons, List.length_nil, List.getD_cons_zero]
          rw [hv] at hdm
          simp only [Nat.mul_zero, Nat.zero_add] at hdm
          simp only [Nat.zero_add, Nat.sub_self, List.getD_cons_zero]
          omega
        · have hne : dgF B f (n / B) ≠ [] := by intro e; rw [e] at h2; simp at h2
          have hl : 0 < (dgF B f (n / B)).length := List.length_pos_iff.2 hne
          have e1 : (((n % B : Nat) : Int) :: dgF B f (n / B)).length - 1 = ((dgF B f (n / B)).length - 1) + 1 := by simp; omega
          rw [e1, List.getD_cons_succ]
          exact h2
      · rw [V_cons, h3]
        have : ((B * (n / B) + n % B : Nat) : Int) = (n : Int) := by rw [hdm]
        simp only [Int.natCast_add, Int.natCast_mul] at this
        omega
theorem dg_nrm {B : Int} (hB : 1 < B) (v : Int) : Nrm B (dg B v) := by
  have h := (dgF_spec B.toNat (by omega) v.toNat v.toNat (Nat.le_refl _)).1
  have e : (B.toNat : Int) = B := by omega
  rw [e] at h
  exact h
theorem dg_val {B : Int} (hB : 1 < B) {v : Int} (hv : 0 ≤ v) : V B (dg B v) = v := by
  have h := (dgF_spec B.toNat (by omega) v.toNat v.toNat (Nat.le_refl _)).2
  have e : (B.toNat : Int) = B := by omega
  rw [e] at h
  have e2 : (v.toNat : Int) = v := by omega
  rw [e2] at h
  exact h
theorem dg_eq {B : Int} (hB : 1 < B) {l : List Int} (h : Nrm B l) : l = dg B (V B l) :=
  nrm_uniq hB h (dg_nrm hB _) (dg_val hB (V_nonneg (by omega) h.1)).symm
theorem dg_of {B : Int} (hB : 1 < B) {l : List Int} {v : Int} (h : Nrm B l) (hv : V B l = v) : l = dg B v := by rw [← hv]; exact dg_eq hB h
theorem dg_len_le {B : Int} (hB : 1 < B) {v : Int} (hv : 0 ≤ v) {n : Nat} (h : v < B ^ n) : (dg B v).length ≤ n := by
  by_cases e : dg B v = []
  · simp [e]
  · have h1 := V_ge (by omega) (dg_nrm hB v) e
    rw [dg_val hB hv] at h1
    by_cases h4 : (dg B v).length ≤ n
    · exact h4
    · have h5 := pow_le (B := B) (by omega) (m := n) (n := (dg B v).length - 1) (by omega)
      omega
theorem dg_dig {B : Int} (hB : 1 < B) (v : Int) : Dig B (dg B v) := (dg_nrm hB v).1
def szN : List Int → Nat
  | [] => 0
  | x :: l => if szN l = 0 then (if x = 0 then 0 else 1) else szN l + 1
theorem szN_le : ∀ l : List Int, szN l ≤ l.length
  | [] => Nat.le_refl _
  | x :: l => by
    have := szN_le l
    simp only [szN, List.length_cons]
    split
    · split <;> omega
    · omega
theorem szN_zero : ∀ (l : List Int) (i : Nat), szN l ≤ i → l.getD i 0 = 0
  | [], i, _ => by simp
  | x :: l, 0, h => by
    simp only [szN] at h
    split at h
    · split at h
      · rename_i hx; simpa using hx
      · omega
    · omega
  | x :: l, i + 1, h => by
    rw [List.getD_cons_succ]
    refine szN_zero l i ?_
    simp only [szN] at h
    split at h
    · omega
    · omega
theorem szN_top : ∀ l : List Int, szN l = 0 ∨ l.getD (szN l - 1) 0 ≠ 0
  | [] => .inl rfl
  | x :: l => by
    have ih := szN_top l
    simp only [szN]
    split
    · split
      · exact .inl rfl
      · rename_i hx; right; simpa using hx
    · rename_i h0
      right
      have e : szN l + 1 - 1 = (szN l - 1) + 1 := by omega
      rw [e, List.getD_cons_succ]
      exact ih.resolve_left h0
theorem szN_uniq (l : List Int) {m : Nat} (h1 : ∀ i, m ≤ i → l.getD i 0 = 0) (h2 : m = 0 ∨ l.getD (m - 1) 0 ≠ 0) : m = szN l := by
  have g1 := szN_zero l
  have g2 := szN_top l
  rcases Nat.lt_trichotomy m (szN l) with h | h | h
  · exfalso
    rcases g2 with g2 | g2
    · omega
    · exact g2 (h1 _ (by omega))
  · exact h
  · exfalso
    rcases h2 with h2 | h2
    · omega
    · exact h2 (g1 _ (by omega))
theorem V_zeros (B : Int) : ∀ l : List Int, (∀ i, l.getD i 0 = 0) → V B l = 0
  | [], _ => rfl
  | x :: l, h => by
    have hx : x = 0 := by simpa using h 0
    rw [V_cons, V_zeros B l (fun i => by have := h (i + 1); rwa [List.getD_cons_succ] at this), hx]
    simp
theorem getD_drop (l : List Int) (n i : Nat) : (l.drop n).getD i 0 = l.getD (n + i) 0 := by
  simp only [List.getD_eq_getElem?_getD, List.getElem?_drop]
def trim (l : List Int) : List Int := l.take (szN l)
theorem trim_val (B : Int) (l : List Int) : V B (trim l) = V B l := by
  rw [V_split B l (szN_le l), V_zeros B (l.drop (szN l)) (fun i => by rw [getD_drop]; exact szN_zero l _ (by omega))]
  simp [trim]
theorem trim_nrm {B : Int} {l : List Int} (h : Dig B l) : Nrm B (trim l) := nrm_take h (szN_le l) (szN_top l)
theorem trim_dg {B : Int} (hB : 1 < B) {l : List Int} (h : Dig B l) : trim l = dg B (V B l) := dg_of hB (trim_nrm h) (trim_val B l)
end Go.Proofs.YtpdjahhimmaonaaDoor.Num
