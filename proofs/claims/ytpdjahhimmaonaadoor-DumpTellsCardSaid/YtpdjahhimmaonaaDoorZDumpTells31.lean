/- Numerals as texts: what is written of a number, and what is read of it. -/
import Derived.Test.YtpdjahhimmaonaaDoorZDumpTells30
namespace Go.Proofs.YtpdjahhimmaonaaDoor.PD
open Go.RowKit Go.Proofs.YtpdjahhimmaonaaDoorW.PrintWords Go.Proofs.YtpdjahhimmaonaaDoorW.PrintLast Go.Proofs.YtpdjahhimmaonaaDoorW.PrintMore Go.Proofs.YtpdjahhimmaonaaDoor.Num
set_option linter.unusedVariables false
set_option linter.unusedSimpArgs false
def bs (l : List UInt8) : ByteArray := ⟨l.toArray⟩
theorem bs_toList (l : List UInt8) : (bs l).toList = l := by rw [Lib.toList_data]; rfl
theorem bs_size (l : List UInt8) : (bs l).size = l.length := by show l.toArray.size = _; simp
theorem bs_app (a b : List UInt8) : bs a ++ bs b = bs (a ++ b) := by
  refine ByteArray.ext ?_
  rw [ByteArray.data_append]
  simp [bs]
theorem bs_extract (l : List UInt8) (i j : Nat) : (bs l).extract i j = bs ((l.take j).drop i) := by
  refine ByteArray.ext ?_
  rw [ByteArray.data_extract]
  simp only [bs, List.extract_toArray, List.extract_eq_take_drop]
  rw [List.drop_take]
theorem bt_bs (l : List UInt8) (i : Nat) : bt (bs l) (i : Int) = ((l.getD i 0).toNat : Int) := by
  unfold bt
  rw [Int.toNat_natCast]
  by_cases h : i < l.length
  · rw [dif_pos (by rw [bs_size]; exact h)]
    rw [List.getD_eq_getElem?_getD, List.getElem?_eq_getElem h]
    rfl
  · rw [dif_neg (by rw [bs_size]; exact h), List.getD_eq_getElem?_getD, List.getElem?_eq_none (by omega)]
    rfl
def L (d : Nat) : UInt8 := ([48, 49, 50, 51, 52, 53, 54, 55, 56, 57, 97, 98, 99, 100, 101, 102] : List UInt8).getD d 0
theorem letter_at {d : Nat} (h : d < 16) : (⟨#[48, 49, 50, 51, 52, 53, 54, 55, 56, 57, 97, 98, 99, 100, 101, 102]⟩ : ByteArray).extract d (d + 1) = bs [L d] := by
  have : d = 0 ∨ d = 1 ∨ d = 2 ∨ d = 3 ∨ d = 4 ∨ d = 5 ∨ d = 6 ∨ d = 7 ∨ d = 8 ∨ d = 9 ∨ d = 10 ∨ d = 11 ∨ d = 12 ∨ d = 13 ∨ d = 14 ∨ d = 15 := by omega
  rcases this with rfl | rfl | rfl | rfl | rfl | rfl | rfl | rfl | rfl | rfl | rfl | rfl | rfl | rfl | rfl | rfl <;> rfl
theorem L_range {d : Nat} (h : d < 16) : 48 ≤ (L d).toNat ∧ (L d).toNat ≤ 102 ∧ ((L d).toNat = 48 → d = 0) ∧ (L d ≠ 112) ∧ (L d ≠ 45) := by
  have : d = 0 ∨ d = 1 ∨ d = 2 ∨ d = 3 ∨ d = 4 ∨ d = 5 ∨ d = 6 ∨ d = 7 ∨ d = 8 ∨ d = 9 ∨ d = 10 ∨ d = 11 ∨ d = 12 ∨ d = 13 ∨ d = 14 ∨ d = 15 := by omega
  rcases this with rfl | rfl | rfl | rfl | rfl | rfl | rfl | rfl | rfl | rfl | rfl | rfl | rfl | rfl | rfl | rfl <;> decide
def dl (b n : Nat) : List Nat := if h : b < 2 ∨ n < b then [n] else dl b (n / b) ++ [n % b]
  termination_by n
  decreasing_by exact Nat.div_lt_self (by omega) (by omega)
theorem dl_low {b n : Nat} (h : n < b) : dl b n = [n] := by rw [dl, dif_pos (.inr h)]
theorem dl_high {b n : Nat} (hb : 2 ≤ b) (h : b ≤ n) : dl b n = dl b (n / b) ++ [n % b] := by rw [dl, dif_neg (by omega)]
theorem dl_lt {b : Nat} (hb : 2 ≤ b) (n : Nat) : ∀ d ∈ dl b n, d < b := by
  induction n using Nat.strongRecOn with
  | _ n ih =>
    intro d hd
    by_cases h : n < b
    · rw [dl_low h, List.mem_singleton] at hd; omega
    · rw [dl_high hb (by omega), List.mem_append, List.mem_singleton] at hd
      rcases hd with hd | hd
      · exact ih _ (Nat.div_lt_self (by omega) (by omega)) d hd
      · rw [hd]; exact Nat.mod_lt _ (by omega)
theorem dl_ne (b n : Nat) : dl b n ≠ [] := by
  rw [dl]
  split <;> simp
theorem dl_len {b : Nat} (hb : 2 ≤ b) : ∀ (j n : Nat), n < b ^ j → 1 ≤ j → (dl b n).length ≤ j := by
  intro j
  induction j with
  | zero => intro n _ h; omega
  | succ j ih =>
    intro n h h1
    by_cases hn : n < b
    · rw [dl_low hn]; simp
    · have hj : 1 ≤ j := by
        rcases Nat.eq_zero_or_pos j with rfl | h2
        · simp at h; omega
        · exact h2
      rw [dl_high hb (by omega), List.length_append]
      have := ih (n / b) (by rw [Nat.div_lt_iff_lt_mul (by omega)]; rwa [Nat.pow_succ] at h) hj
      simp only [List.length_cons, List.length_nil]
      omega
def fold (b : Nat) (a : Nat) (l : List Nat) : Nat := l.foldl (fun a d => a * b + d) a
theorem dl_fold {b : Nat} (hb : 2 ≤ b) (n : Nat) : fold b 0 (dl b n) = n := by
  induction n using Nat.strongRecOn with
  | _ n ih =>
    unfold fold at *
    by_cases h : n < b
    · rw [dl_low h]; simp
    · rw [dl_high hb (by omega), List.foldl_append, ih _ (Nat.div_lt_self (by omega) (by omega))]
      show n / b * b + n % b = n
      rw [Nat.mul_comm]
      exact Nat.div_add_mod n b
theorem dl_head {b : Nat} (hb : 2 ≤ b) (n : Nat) (h0 : 0 < n) : ∃ d r, dl b n = d :: r ∧ 0 < d := by
  induction n using Nat.strongRecOn with
  | _ n ih =>
    by_cases h : n < b
    · exact ⟨n, [], dl_low h, h0⟩
    · obtain ⟨d, r, e, hd⟩ := ih (n / b) (Nat.div_lt_self (by omega) (by omega)) (Nat.div_pos (by omega) (by omega))
      exact ⟨d, r ++ [n % b], by rw [dl_high hb (by omega), e]; rfl, hd⟩
def nume (b n : Nat) : List UInt8 := (dl b n).map L
theorem u64n {m : Nat} (h : m < 18446744073709551616) : IntKind.u64.wrap (m : Int) = (m : Int) := u64w (Int.natCast_nonneg m) (by omega)
theorem nat_tmod (n b : Nat) : Int.tmod (n : Int) (b : Int) = ((n % b : Nat) : Int) := by rw [Int.tmod_eq_emod_of_nonneg (by omega)]; exact (Int.natCast_emod n b).symm
theorem nat_tdiv (n b : Nat) : Int.tdiv (n : Int) (b : Int) = ((n / b : Nat) : Int) := by rw [Int.tdiv_eq_ediv_of_nonneg (by omega)]; exact (Int.natCast_ediv n b).symm
theorem numeral_loop {b : Nat} (hb : 2 ≤ b) (hb' : b ≤ 16) : ∀ (j n : Nat) (s : List UInt8), n < b ^ j → 1 ≤ j → n < 18446744073709551616 → s.length + j ≤ 1000000 → Ev (fun k => dump_numeral.l0 k (n : Int) (b : Int) (bs s)) (bs (nume b n ++ s)) := by
  intro j
  induction j with
  | zero => intro n s _ h; omega
  | succ j ih =>
    intro n s hn hj h64 hs
    by_cases h : n < b
    · have w1 : IntKind.u64.wrap ((n : Int) + 1) = ((n + 1 : Nat) : Int) := u64n (m := n + 1) (by omega)
      refine Ev.step (f := fun _ => some (bs (nume b n ++ s))) (fun k => ?_) (Ev.now _)
      rw [dump_numeral.l0, if_neg (by omega), if_pos (by omega), w1, if_pos (by omega), if_pos (by omega), Int.toNat_natCast, Int.toNat_natCast, letter_at (by omega), bs_app, if_pos (by rw [bs_size, bs_size]; simp only [List.length_cons, List.length_nil]; omega)]
      unfold nume
      rw [dl_low h]
      rfl
    · have hm : n % b < b := Nat.mod_lt _ (by omega)
      have hd : n / b < n := Nat.div_lt_self (by omega) (by omega)
      have w1 : IntKind.u64.wrap (((n % b : Nat) : Int) + 1) = ((n % b + 1 : Nat) : Int) := u64n (m := n % b + 1) (by omega)
      have w2 : IntKind.u64.wrap ((n / b : Nat) : Int) = ((n / b : Nat) : Int) := u64n (by omega)
      have hj1 : 1 ≤ j := by
        rcases Nat.eq_zero_or_pos j with rfl | h2
        · simp at hn; omega
        · exact h2
      have hr := ih (n / b) (L (n % b) :: s) (by rw [Nat.div_lt_iff_lt_mul (by omega)]; rwa [Nat.pow_succ] at hn) hj1 (by omega) (by simp only [List.length_cons]; omega)
      have e : nume b (n / b) ++ L (n % b) :: s = nume b n ++ s := by unfold nume; rw [dl_high (n := n) hb (by omega)]; simp
      rw [e] at hr
      refine Ev.step (f := fun k => dump_numeral.l0 k ((n / b : Nat) : Int) (b : Int) (bs (L (n % b) :: s))) (fun k => ?_) hr
      rw [dump_numeral.l0, if_pos (by omega), if_neg (by omega), nat_tmod, nat_tdiv, w1, w2, if_pos (by omega), if_pos (by omega), if_pos (by omega), Int.toNat_natCast, Int.toNat_natCast, letter_at (by omega), bs_app, if_pos (by rw [bs_size, bs_size]; simp only [List.length_cons, List.length_nil]; omega)]
      rfl
theorem pow64 {b : Nat} (hb : 2 ≤ b) {n : Nat} (h : n < 18446744073709551616) : n < b ^ 64 := Nat.lt_of_lt_of_le h (by have := Nat.pow_le_pow_left hb 64; omega)
theorem numeral_ev {b : Nat} (hb : 2 ≤ b) (hb' : b ≤ 16) {n : Nat} (h : n < 18446744073709551616) : Ev (fun k => dump_numeral.f k (n : Int) (b : Int)) (bs (nume b n)) := by
  have := numeral_loop hb hb' 64 n [] (pow64 hb h) (by omega) h (by simp)
  rw [List.append_nil] at this
  exact this
theorem lnumeral_loop {b : Nat} (hb : 2 ≤ b) (hb' : b ≤ 16) : ∀ (j n : Nat) (s : List UInt8), n < b ^ j → n < 18446744073709551616 → s.length + j ≤ 1000000 → Ev (fun k => vernierlaw40_numeral.l0 k (n : Int) (b : Int) (bs s)) (bs ((if n = 0 then [] else nume b n) ++ s)) := by
  intro j
  induction j with
  | zero =>
    intro n s hn _ _
    have : n = 0 := by simpa using hn
    subst this
    refine Ev.step (f := fun _ => some (bs s)) (fun k => ?_) (Ev.now _)
    rw [vernierlaw40_numeral.l0, if_neg (by omega)]
  | succ j ih =>
    intro n s hn h64 hs
    by_cases h : n = 0
    · subst h
      refine Ev.step (f := fun _ => some (bs s)) (fun k => ?_) (Ev.now _)
      rw [vernierlaw40_numeral.l0, if_neg (by omega)]
    · have hm : n % b < b := Nat.mod_lt _ (by omega)
      have hd : n / b < n := Nat.div_lt_self (by omega) (by omega)
      have w1 : IntKind.u64.wrap (((n % b : Nat) : Int) + 1) = ((n % b + 1 : Nat) : Int) := u64n (m := n % b + 1) (by omega)
      have w2 : IntKind.u64.wrap ((n / b : Nat) : Int) = ((n / b : Nat) : Int) := u64n (by omega)
      have hr := ih (n / b) (L (n % b) :: s) (by rw [Nat.div_lt_iff_lt_mul (by omega)]; rwa [Nat.pow_succ] at hn) (by omega) (by simp only [List.length_cons]; omega)
      have e : (if n / b = 0 then [] else nume b (n / b)) ++ L (n % b) :: s = (if n = 0 then [] else nume b n) ++ s := by
        rw [if_neg h]
        by_cases hl : n < b
        · rw [Nat.div_eq_of_lt hl, if_pos rfl, Nat.mod_eq_of_lt hl]
          unfold nume
          rw [dl_low hl]
          rfl
        · have : 0 < n / b := Nat.div_pos (by omega) (by omega)
          rw [if_neg (by omega)]
          unfold nume
          rw [dl_high (n := n) hb (by omega)]
          simp
      rw [e] at hr
      refine Ev.step (f := fun k => vernierlaw40_numeral.l0 k ((n / b : Nat) : Int) (b : Int) (bs (L (n % b) :: s))) (fun k => ?_) hr
      rw [vernierlaw40_numeral.l0, if_pos (by omega), if_neg (by omega), nat_tmod, nat_tdiv, w1, w2, if_pos (by omega), if_pos (by omega), if_pos (by omega), Int.toNat_natCast, Int.toNat_natCast, letter_at (by omega), bs_app, if_pos (by rw [bs_size, bs_size]; simp only [List.length_cons, List.length_nil]; omega)]
      rfl
theorem lnumeral_ev {b : Nat} (hb : 2 ≤ b) (hb' : b ≤ 16) {n : Nat} (h : n < 18446744073709551616) : Ev (fun k => vernierlaw40_numeral.f k (n : Int) (b : Int)) (bs (nume b n)) := by
  have hm : n % b < b := Nat.mod_lt _ (by omega)
  have hd : n / b ≤ n := Nat.div_le_self _ _
  have w1 : IntKind.u64.wrap (((n % b : Nat) : Int) + 1) = ((n % b + 1 : Nat) : Int) := u64n (m := n % b + 1) (by omega)
  have w2 : IntKind.u64.wrap ((n / b : Nat) : Int) = ((n / b : Nat) : Int) := u64n (by omega)
  have hr := lnumeral_loop hb hb' 64 (n / b) [L (n % b)] (pow64 hb (by omega)) (by omega) (by simp)
  have e : (if n / b = 0 then [] else nume b (n / b)) ++ [L (n % b)] = nume b n := by
    unfold nume
    by_cases hl : n < b
    · rw [Nat.div_eq_of_lt hl, if_pos rfl, Nat.mod_eq_of_lt hl, dl_low hl]
      rfl
    · have : 0 < n / b := Nat.div_pos (by omega) (by omega)
      rw [if_neg (by omega), dl_high (n := n) hb (by omega)]
      simp
  rw [e] at hr
  refine Ev.congr (fun k => ?_) hr
  unfold vernierlaw40_numeral.f
  rw [if_neg (by omega), nat_tmod, nat_tdiv, w1, w2, if_pos (by omega), if_pos (by omega), if_pos (by omega), Int.toNat_natCast, Int.toNat_natCast, letter_at (by omega)]
theorem index10 {d : Nat} (h : d < 10) : strings_IndexByte.f ((⟨#[48, 49, 50, 51, 52, 53, 54, 55, 56, 57, 97, 98, 99, 100, 101, 102]⟩ : ByteArray).extract 0 10) ((L d).toNat : Int) = some (d : Int) := by
  have : d = 0 ∨ d = 1 ∨ d = 2 ∨ d = 3 ∨ d = 4 ∨ d = 5 ∨ d = 6 ∨ d = 7 ∨ d = 8 ∨ d = 9 := by omega
  rcases this with rfl | rfl | rfl | rfl | rfl | rfl | rfl | rfl | rfl | rfl <;> rfl
theorem index16 {d : Nat} (h : d < 16) : strings_IndexByte.f ((⟨#[48, 49, 50, 51, 52, 53, 54, 55, 56, 57, 97, 98, 99, 100, 101, 102]⟩ : ByteArray).extract 0 16) ((L d).toNat : Int) = some (d : Int) := by
  have : d = 0 ∨ d = 1 ∨ d = 2 ∨ d = 3 ∨ d = 4 ∨ d = 5 ∨ d = 6 ∨ d = 7 ∨ d = 8 ∨ d = 9 ∨ d = 10 ∨ d = 11 ∨ d = 12 ∨ d = 13 ∨ d = 14 ∨ d = 15 := by omega
  rcases this with rfl | rfl | rfl | rfl | rfl | rfl | rfl | rfl | rfl | rfl | rfl | rfl | rfl | rfl | rfl | rfl <;> rfl
theorem fold_lt {b : Nat} (hb : 2 ≤ b) : ∀ (l : List Nat) (a i : Nat), (∀ d ∈ l, d < b) → a < b ^ i → fold b a l < b ^ (i + l.length)
  | [], a, i, _, ha => ha
  | d :: l, a, i, hl, ha => by
    have h1 : a * b + d < b ^ (i + 1) := by
      have := hl d (List.mem_cons_self ..)
      have h2 : (a + 1) * b ≤ b ^ i * b := Nat.mul_le_mul_right b ha
      rw [Nat.pow_succ]
      rw [Nat.add_mul] at h2
      omega
    have := fold_lt hb l (a * b + d) (i + 1) (fun x hx => hl x (List.mem_cons_of_mem _ hx)) h1
    rw [List.length_cons, show i + (l.length + 1) = i + 1 + l.length by omega]
    exact this
theorem w64n {i : Nat} (h : i < 1000) : wrap64 ((i : Int) + 1) = ((i + 1 : Nat) : Int) := (w64 (by omega) (by omega)).trans (by omega)
theorem value_loop {b : Nat} (hb : b = 10 ∨ b = 16) (ds : List Nat) (hd : ∀ d ∈ ds, d < b) (hl : ds.length ≤ 14) (s : ByteArray) (hsz : s.size = ds.length) (hbt : ∀ (i : Nat) (h : i < ds.length), bt s (i : Int) = ((L ds[i]).toNat : Int)) : ∀ (j i : Nat), i + j = ds.length → Ev (fun k => dump_value.l0 k s (b : Int) (((fold b 0 (ds.take i) : Nat)) : Int) (ds.length : Int) (i : Int)) (((fold b 0 ds : Nat) : Int), true) := by
  intro j
  induction j with
  | zero =>
    intro i hi
    rw [List.take_of_length_le (by omega)]
    refine Ev.step (f := fun _ => some (((fold b 0 ds : Nat) : Int), true)) (fun k => ?_) (Ev.now _)
    rw [dump_value.l0, if_neg (by omega)]
  | succ j ih =>
    intro i hi
    have hi' : i < ds.length := by omega
    have hi9 : i < 1000 := by omega
    have hdi : ds[i] < b := hd _ (List.getElem_mem hi')
    have hb2 : 2 ≤ b := by omega
    have c1 : (i : Int) < (ds.length : Int) := by omega
    have c2 : (0 : Int) ≤ (b : Int) := by omega
    have c3 : (b : Int) ≤ 16 := by omega
    have c4 : (0 : Int) ≤ (i : Int) := by omega
    have c5 : (i : Int) < (s.size : Int) := by omega
    have e1 : fold b 0 (ds.take (i + 1)) = fold b 0 (ds.take i) * b + ds[i] := by
      unfold fold
      rw [List.take_succ_eq_append_getElem hi', List.foldl_append]
      rfl
    have h1 : fold b 0 (ds.take (i + 1)) < 18446744073709551616 := by
      have h2 := fold_lt hb2 (ds.take (i + 1)) 0 0 (fun d h => hd d (List.mem_of_mem_take h)) (by simp)
      have h3 : b ^ (0 + (ds.take (i + 1)).length) ≤ 16 ^ 14 := Nat.le_trans (Nat.pow_le_pow_left (show b ≤ 16 by omega) _) (Nat.pow_le_pow_right (by decide) (by rw [List.length_take]; omega))
      have h4 : (16 : Nat) ^ 14 < 18446744073709551616 := by decide
      omega
    have hr := ih (i + 1) (by omega)
    have hix : strings_IndexByte.f ((⟨#[48, 49, 50, 51, 52, 53, 54, 55, 56, 57, 97, 98, 99, 100, 101, 102]⟩ : ByteArray).extract 0 (b : Int).toNat) (bt s (i : Int)) = some ((ds[i] : Nat) : Int) := by
      rw [hbt i hi']
      rcases hb with rfl | rfl
      · exact index10 hdi
      · exact index16 hdi
    generalize fold b 0 (ds.take (i + 1)) = F1 at *
    generalize fold b 0 (ds.take i) = F0 at *
    generalize ds[i] = x at *
    have h5 : F0 * b < 18446744073709551616 := by omega
    have wm : IntKind.u64.wrap ((F0 : Int) * (b : Int)) = ((F0 * b : Nat) : Int) := by
      rw [← Int.natCast_mul]; exact u64n h5
    have wd : IntKind.u64.wrap (x : Int) = (x : Int) := u64n (by omega)
    have ws : IntKind.u64.wrap (((F0 * b : Nat) : Int) + (x : Int)) = (F1 : Int) := by
      rw [e1, ← Int.natCast_add]; exact u64n (by omega)
    have c6 : ¬ ((x : Int) < 0) := Int.not_lt.2 (Int.natCast_nonneg x)
    have wi := w64n hi9
    refine Ev.step (f := fun k => dump_value.l0 k s (b : Int) (F1 : Int) (ds.length : Int) ((i + 1 : Nat) : Int)) (fun k => ?_) hr
    rw [dump_value.l0, if_pos c1, if_pos c2, if_pos c3, if_pos c4, if_pos c5, hix, Option.bind_some, if_neg c6, wm, wd, ws, wi]
theorem nume_bt (b n : Nat) (i : Nat) (h : i < (dl b n).length) : bt (bs (nume b n)) (i : Int) = ((L (dl b n)[i]).toNat : Int) := by
  rw [bt_bs]
  unfold nume
  rw [List.getD_eq_getElem?_getD, List.getElem?_map, List.getElem?_eq_getElem h]
  rfl
theorem nume_size (b n : Nat) : (bs (nume b n)).size = (dl b n).length := by rw [bs_size]; unfold nume; rw [List.length_map]
theorem value_ev {b n few : Nat} (hb : b = 10 ∨ b = 16) (hf : few ≤ 14) (hn : n < b ^ few) (h1 : 1 ≤ few) : Ev (fun k => dump_value.f k (bs (nume b n)) (b : Int) (few : Int)) ((n : Int), true) := by
  have hb2 : 2 ≤ b := by omega
  have hlen := dl_len hb2 few n hn h1
  have hlt := dl_lt hb2 n
  have hne := dl_ne b n
  have hpos : 0 < (dl b n).length := List.length_pos_iff.2 hne
  have hsz := nume_size b n
  have hbt := nume_bt b n
  have hl := value_loop hb (dl b n) hlt (by omega) (bs (nume b n)) hsz hbt (dl b n).length 0 (by omega)
  rw [dl_fold hb2] at hl
  have hnil : ¬ (bs (nume b n)).toList = ([] : List UInt8) := by rw [bs_toList]; unfold nume; simp [hne]
  have hone : bt (bs (nume b n)) 0 = 48 → (dl b n).length = 1 := by
    intro hz
    rcases Nat.eq_zero_or_pos n with h0 | h0
    · rw [h0, dl_low (by omega)]
      rfl
    · obtain ⟨d, r, e, hd⟩ := dl_head hb2 n h0
      have hx := hbt 0 hpos
      rw [show ((0 : Nat) : Int) = 0 from rfl, hz] at hx
      have e0 : (dl b n)[0] = d := by simp only [e]; rfl
      rw [e0] at hx
      have hdl : d < b := hlt d (by rw [e]; exact List.mem_cons_self ..)
      have := (L_range (d := d) (by omega)).2.2.1 (by omega)
      omega
  generalize bs (nume b n) = s at *
  have hj : Ev (fun k => dump_value.j0 k s (b : Int) false) ((n : Int), true) := by
    refine Ev.step (f := fun k => dump_value.l0 k s (b : Int) 0 (s.size : Int) 0) (fun k => ?_) (by rw [hsz]; exact hl)
    rw [dump_value.j0, if_neg (by decide)]
  unfold dump_value.f
  have c1 : ¬ ((s.size : Int) > (few : Int)) := by omega
  have c2 : 0 < (s.size : Int) := by omega
  refine Ev.congr (fun k => (if_neg hnil).trans ((if_neg c1).trans (if_pos c2))) ?_
  by_cases hz : bt s 0 = 48
  · refine Ev.congr (fun k => if_pos hz) ?_
    have hd : decide ((s.size : Int) > 1) = false := decide_eq_false (by have := hone hz; omega)
    rw [hd]
    exact hj
  · exact Ev.congr (fun k => if_neg hz) hj
end Go.Proofs.YtpdjahhimmaonaaDoor.PD
