/- A number's text, written and read. -/
import Derived.Test.YtpdjahhimmaonaaDoorZDumpBack42
import Derived.Test.YtpdjahhimmaonaaDoorZDumpBack45
namespace Go.Proofs.YtpdjahhimmaonaaDoor.PE
open Go.RowKit Go.Proofs.YtpdjahhimmaonaaDoorW.PrintWords Go.Proofs.YtpdjahhimmaonaaDoorW.PrintLast Go.Proofs.YtpdjahhimmaonaaDoorW.PrintMore Go.Proofs.YtpdjahhimmaonaaDoor.Num Go.Proofs.YtpdjahhimmaonaaDoor.Flt
set_option linter.unusedVariables false
set_option linter.unusedSimpArgs false
def sg (neg : Bool) : List UInt8 := if neg = true then [45] else []
def pw (x : Int) : List UInt8 := if x < 0 then 45 :: nume 10 (-x).toNat else nume 10 x.toNat
def tx (neg : Bool) (M : Nat) (x : Int) : List UInt8 := ((sg neg ++ nume 16 M) ++ [112]) ++ pw x
theorem nume_len {b : Nat} (hb : 2 ≤ b) (n : Nat) (h : n < 18446744073709551616) : (nume b n).length ≤ 64 := by
  unfold nume
  rw [List.length_map]
  exact dl_len hb 64 n (pow64 hb h) (by omega)
theorem sg_len (neg : Bool) : (sg neg).length ≤ 1 := by cases neg <;> decide
theorem power_ev {x : Int} (h0 : -1000000 ≤ x) (h1 : x ≤ 1000000) : Ev (fun k => dump_power.f k x) (bs (pw x)) ∧ (pw x).length ≤ 65 := by
  unfold dump_power.f pw
  by_cases h : x < 0
  · obtain ⟨n, hn⟩ := Int.eq_ofNat_of_zero_le (show 0 ≤ -x by omega)
    have hl := nume_len (b := 10) (by omega) n (by omega)
    rw [if_pos h, w64 (x := -x) (by omega) (by omega), hn, u64n (by omega), Int.toNat_natCast]
    refine ⟨Ev.congr (fun k => if_pos h) (Ev.bind (numeral_ev (b := 10) (by omega) (by omega) (by omega)) (Ev.congr (fun k => if_pos (by rw [bs_size]; omega)) ?_)), by simp only [List.length_cons]; omega⟩
    exact Ev.now _
  · obtain ⟨n, rfl⟩ := Int.eq_ofNat_of_zero_le (show 0 ≤ x by omega)
    have hl := nume_len (b := 10) (by omega) n (by omega)
    rw [if_neg h, u64n (by omega), Int.toNat_natCast]
    exact ⟨Ev.congr (fun k => if_neg h) (Ev.bind (numeral_ev (b := 10) (by omega) (by omega) (by omega)) (Ev.now _)), by omega⟩
theorem number_sign {a : Int} (a0 : 0 ≤ a) (a1 : a < 18446744073709551616) {r : ByteArray} (h : Ev (fun k => dump_Number.j0 k a (bs (sg (fneg a)))) r) : Ev (fun k => dump_Number.f k a) r := by
  unfold dump_Number.f
  rw [and_sign a0 a1]
  by_cases c : a < 9223372036854775808
  · have e : fneg a = false := decide_eq_false (by omega)
    rw [if_pos c]
    rw [e] at h
    exact Ev.congr (fun k => if_pos rfl) h
  · have e : fneg a = true := decide_eq_true (by omega)
    rw [if_neg c]
    rw [e] at h
    exact Ev.congr (fun k => if_neg (by decide)) h
def odd2 (t m : Nat) (z : Int) : Prop := z = 2 ^ t * ((2 * m + 1 : Nat) : Int)
theorem number_fin {a : Int} (a0 : 0 ≤ a) (a1 : a < 18446744073709551616) (hc : fcls a = 1) {t m : Nat} (ho : odd2 t m (fman a)) : Ev (fun k => dump_Number.f k a) (bs (tx (fneg a) (2 * m + 1) (fxp a + t))) ∧ t < 64 ∧ 2 * m + 1 < 9007199254740992 := by
  have hf : fex a ≠ 2047 := fcls_fin.1 (by omega)
  have hr := fman_range a
  have hx := fxp_range a
  have hm0 : 0 < fman a := by
    unfold odd2 at ho
    have := Int.mul_pos (two_pow_pos t) (show (0 : Int) < ((2 * m + 1 : Nat) : Int) by omega)
    omega
  obtain ⟨c, m', hz, hc64, hm', ho'⟩ := tz_some hm0 (show fman a < 18446744073709551616 by omega)
  have hu := Odd2.uniq (show Odd2 (fman a) t (m : Int) by unfold Odd2; rw [ho]; simp) ho'
  obtain ⟨ht, hmm⟩ := hu
  subst ht
  have hM : fman a / 2 ^ t = ((2 * m + 1 : Nat) : Int) := by rw [ho]; exact Int.mul_ediv_cancel_left _ (Int.ne_of_gt (two_pow_pos t))
  have hM2 : ((2 * m + 1 : Nat) : Int) ≤ fman a := by rw [← hM]; exact Int.ediv_le_self _ (by omega)
  have hMn : 2 * m + 1 < 9007199254740992 := by omega
  obtain ⟨ep, hp⟩ := power_ev (x := fxp a + t) (by omega) (by omega)
  have hs := sg_len (fneg a)
  have hl := nume_len (b := 16) (by omega) (2 * m + 1) (by omega)
  refine ⟨number_sign a0 a1 ?_, hc64, hMn⟩
  apply Ev.step
  · intro k
    rw [dump_Number.j0]
  refine Ev.bind (class_ev a0 a1) ?_
  rw [hc]
  refine Ev.congr (fun k => (if_neg (by decide)).trans ((if_neg (by decide)).trans (if_neg (by decide)))) ?_
  refine Ev.bind (g := fun _ => parts_Split.f a) (Ev.congr (fun _ => split_some a0 a1 hf) (Ev.now _)) ?_
  refine Ev.bind (g := fun _ => bits_TrailingZeros64.f (fman a)) (Ev.congr (fun _ => hz) (Ev.now _)) ?_
  refine Ev.congr (fun k => if_pos (Int.natCast_nonneg t)) ?_
  have esh : shr .u64 (fman a) (t : Int) = ((2 * m + 1 : Nat) : Int) := by rw [shr_u64 (by omega), hM]
  show Ev (fun k => (dump_numeral.f k (shr .u64 (fman a) (t : Int)) 16).bind fun t109 => _) _
  rw [esh]
  refine Ev.bind (numeral_ev (b := 16) (by omega) (by omega) (by omega)) ?_
  refine Ev.congr (fun k => (if_pos (by rw [bs_size, bs_size]; omega)).trans (if_pos (by rw [bs_app, bs_size, List.length_append]; omega))) ?_
  show Ev (fun k => (dump_power.f k (wrap64 (fxp a + (t : Int)))).bind fun t110 => _) _
  rw [w64 (x := fxp a + t) (by omega) (by omega)]
  refine Ev.bind ep ?_
  refine Ev.congr (fun k => if_pos ?_) ?_
  · rw [bs_app, show (⟨#[112]⟩ : ByteArray) = bs [112] from rfl, bs_app, bs_size, bs_size, List.length_append, List.length_append]
    simp only [List.length_cons, List.length_nil]
    omega
  · rw [bs_app, show (⟨#[112]⟩ : ByteArray) = bs [112] from rfl, bs_app, bs_app]
    exact Ev.now _
theorem number_nan {a : Int} (a0 : 0 ≤ a) (a1 : a < 18446744073709551616) (hc : fcls a = 3) : Ev (fun k => dump_Number.f k a) (bs [110, 97, 110]) := by
  refine number_sign a0 a1 ?_
  apply Ev.step
  · intro k
    rw [dump_Number.j0]
  refine Ev.bind (class_ev a0 a1) ?_
  rw [hc]
  exact Ev.congr (fun k => if_pos rfl) (Ev.now _)
theorem number_inf {a : Int} (a0 : 0 ≤ a) (a1 : a < 18446744073709551616) (hc : fcls a = 2) : Ev (fun k => dump_Number.f k a) (bs (sg (fneg a) ++ [105, 110, 102])) := by
  have hs := sg_len (fneg a)
  refine number_sign a0 a1 ?_
  apply Ev.step
  · intro k
    rw [dump_Number.j0]
  refine Ev.bind (class_ev a0 a1) ?_
  rw [hc]
  refine Ev.congr (fun k => (if_neg (by decide)).trans ((if_pos rfl).trans (if_pos (by rw [bs_size]; omega)))) ?_
  exact Ev.now _
theorem number_zero {a : Int} (a0 : 0 ≤ a) (a1 : a < 18446744073709551616) (hc : fcls a = 0) : Ev (fun k => dump_Number.f k a) (bs (sg (fneg a) ++ [48])) := by
  have hs := sg_len (fneg a)
  refine number_sign a0 a1 ?_
  apply Ev.step
  · intro k
    rw [dump_Number.j0]
  refine Ev.bind (class_ev a0 a1) ?_
  rw [hc]
  refine Ev.congr (fun k => (if_neg (by decide)).trans ((if_neg (by decide)).trans ((if_pos rfl).trans (if_pos (by rw [bs_size]; omega))))) ?_
  exact Ev.now _
theorem text_sign {a : Int} {r : ByteArray} (h : Ev (fun k => vernierlaw40_text.j0 k a (bs (sg (fneg a)))) r) : Ev (fun k => vernierlaw40_text.f k a) r := by
  unfold vernierlaw40_text.f
  by_cases c : a ≥ 9223372036854775808
  · have e : fneg a = true := decide_eq_true (by omega)
    rw [e] at h
    exact Ev.congr (fun k => if_pos c) h
  · have e : fneg a = false := decide_eq_false (by omega)
    rw [e] at h
    exact Ev.congr (fun k => if_neg c) h
theorem text_loop (s : List UInt8) (hs : s.length ≤ 1) {m : Nat} (hM : 2 * m + 1 < 9007199254740992) : ∀ (t : Nat) (z x : Int), z = 2 ^ t * ((2 * m + 1 : Nat) : Int) → z < 9007199254740992 → -100000 ≤ x → x + t ≤ 100000 →
    Ev (fun k => vernierlaw40_text.l0 k (bs s) z x) (bs (((s ++ nume 16 (2 * m + 1)) ++ [112]) ++ pw (x + t))) := by
  intro t
  induction t with
  | zero =>
    intro z x hz hlt h0 h1
    rw [Int.pow_zero, Int.one_mul] at hz
    subst hz
    have hl := nume_len (b := 16) (by omega) (2 * m + 1) (by omega)
    have e0 : x + ((0 : Nat) : Int) = x := by omega
    rw [e0]
    have hodd : ¬ Int.tmod ((2 * m + 1 : Nat) : Int) 2 = 0 := by rw [tmod_nn (by omega)]; omega
    apply Ev.step
    · intro k
      rw [vernierlaw40_text.l0, if_neg hodd]
    unfold pw
    by_cases hx : x < 0
    · obtain ⟨n, hn⟩ := Int.eq_ofNat_of_zero_le (show 0 ≤ -x by omega)
      have hl2 := nume_len (b := 10) (by omega) n (by omega)
      rw [if_pos hx, w64 (x := -x) (by omega) (by omega), hn, u64n (by omega), Int.toNat_natCast]
      refine Ev.congr (fun k => if_pos hx) (Ev.bind (lnumeral_ev (b := 16) (by omega) (by omega) (by omega)) ?_)
      refine Ev.congr (fun k => (if_pos (by rw [bs_size, bs_size]; omega)).trans (if_pos (by rw [bs_app, bs_size, List.length_append]; omega))) (Ev.bind (lnumeral_ev (b := 10) (by omega) (by omega) (by omega)) ?_)
      refine Ev.congr (fun k => if_pos ?_) ?_
      · rw [bs_app, show (⟨#[112, 45]⟩ : ByteArray) = bs [112, 45] from rfl, bs_app, bs_size, bs_size, List.length_append, List.length_append]
        simp only [List.length_cons, List.length_nil]
        omega
      · rw [bs_app, show (⟨#[112, 45]⟩ : ByteArray) = bs [112, 45] from rfl, bs_app, bs_app]
        have e : ((s ++ nume 16 (2 * m + 1)) ++ [112, 45]) ++ nume 10 n = ((s ++ nume 16 (2 * m + 1)) ++ [112]) ++ 45 :: nume 10 n := by simp
        rw [e]
        exact Ev.now _
    · obtain ⟨n, rfl⟩ := Int.eq_ofNat_of_zero_le (show 0 ≤ x by omega)
      have hl2 := nume_len (b := 10) (by omega) n (by omega)
      rw [if_neg hx, u64n (by omega), Int.toNat_natCast]
      refine Ev.congr (fun k => if_neg hx) (Ev.bind (lnumeral_ev (b := 16) (by omega) (by omega) (by omega)) ?_)
      refine Ev.congr (fun k => (if_pos (by rw [bs_size, bs_size]; omega)).trans (if_pos (by rw [bs_app, bs_size, List.length_append]; omega))) (Ev.bind (lnumeral_ev (b := 10) (by omega) (by omega) (by omega)) ?_)
      refine Ev.congr (fun k => if_pos ?_) ?_
      · rw [bs_app, show (⟨#[112]⟩ : ByteArray) = bs [112] from rfl, bs_app, bs_size, bs_size, List.length_append, List.length_append]
        simp only [List.length_cons, List.length_nil]
        omega
      · rw [bs_app, show (⟨#[112]⟩ : ByteArray) = bs [112] from rfl, bs_app, bs_app]
        exact Ev.now _
  | succ t ih =>
    intro z x hz hlt h0 h1
    have hz2 : z = 2 * (2 ^ t * ((2 * m + 1 : Nat) : Int)) := by rw [hz, Int.pow_succ]; grind
    have hp := Int.mul_pos (two_pow_pos t) (show (0 : Int) < ((2 * m + 1 : Nat) : Int) by omega)
    have hr := ih (z / 2) (x + 1) (by omega) (by omega) (by omega) (by omega)
    have e1 : x + 1 + (t : Int) = x + ((t + 1 : Nat) : Int) := by omega
    rw [e1] at hr
    generalize (2 : Int) ^ t * ((2 * m + 1 : Nat) : Int) = q at hz2 hp
    have c0 : Int.tmod z 2 = 0 := by rw [tmod_nn (by omega)]; omega
    have c1 : IntKind.u64.wrap (Int.tdiv z 2) = z / 2 := by rw [tdiv_nn (by omega)]; exact u64w (by omega) (by omega)
    have c2 : wrap64 (x + 1) = x + 1 := w64 (by omega) (by omega)
    refine Ev.step (f := fun k => vernierlaw40_text.l0 k (bs s) (z / 2) (x + 1)) (fun k => ?_) hr
    rw [vernierlaw40_text.l0, if_pos c0, c1, c2]
theorem text_fin {a : Int} (a0 : 0 ≤ a) (a1 : a < 18446744073709551616) (hc : fcls a = 1) {t m : Nat} (ho : odd2 t m (fman a)) (ht : t < 64) (hM : 2 * m + 1 < 9007199254740992) : Ev (fun k => vernierlaw40_text.f k a) (bs (tx (fneg a) (2 * m + 1) (fxp a + t))) := by
  have hr := fman_range a
  have hx := fxp_range a
  refine text_sign ?_
  apply Ev.step
  · intro k
    rw [vernierlaw40_text.j0]
  refine Ev.bind (rclass_ev a0 a1) ?_
  rw [hc]
  refine Ev.congr (fun k => (if_neg (by decide)).trans ((if_neg (by decide)).trans (if_neg (by decide)))) ?_
  refine Ev.bind (g := fun _ => vernierref06_Split.f a) (Ev.congr (fun _ => rsplit_some a0 a1) (Ev.now _)) ?_
  exact text_loop (sg (fneg a)) (sg_len _) hM t (fman a) (fxp a) ho hr.2 (by omega) (by omega)
theorem text_nan {a : Int} (a0 : 0 ≤ a) (a1 : a < 18446744073709551616) (hc : fcls a = 3) : Ev (fun k => vernierlaw40_text.f k a) (bs [110, 97, 110]) := by
  refine text_sign ?_
  apply Ev.step
  · intro k
    rw [vernierlaw40_text.j0]
  refine Ev.bind (rclass_ev a0 a1) ?_
  rw [hc]
  exact Ev.congr (fun k => if_pos rfl) (Ev.now _)
theorem text_inf {a : Int} (a0 : 0 ≤ a) (a1 : a < 18446744073709551616) (hc : fcls a = 2) : Ev (fun k => vernierlaw40_text.f k a) (bs (sg (fneg a) ++ [105, 110, 102])) := by
  have hs := sg_len (fneg a)
  refine text_sign ?_
  apply Ev.step
  · intro k
    rw [vernierlaw40_text.j0]
  refine Ev.bind (rclass_ev a0 a1) ?_
  rw [hc]
  refine Ev.congr (fun k => (if_neg (by decide)).trans ((if_pos rfl).trans (if_pos (by rw [bs_size]; omega)))) ?_
  exact Ev.now _
theorem text_zero {a : Int} (a0 : 0 ≤ a) (a1 : a < 18446744073709551616) (hc : fcls a = 0) : Ev (fun k => vernierlaw40_text.f k a) (bs (sg (fneg a) ++ [48])) := by
  have hs := sg_len (fneg a)
  refine text_sign ?_
  apply Ev.step
  · intro k
    rw [vernierlaw40_text.j0]
  refine Ev.bind (rclass_ev a0 a1) ?_
  rw [hc]
  refine Ev.congr (fun k => (if_neg (by decide)).trans ((if_neg (by decide)).trans ((if_pos rfl).trans (if_pos (by rw [bs_size]; omega))))) ?_
  exact Ev.now _
theorem cutp_yes (l : List UInt8) : strings_CutPrefix.f (bs (45 :: l)) ⟨#[45]⟩ = some (bs l, true) := by
  have e1 : (bs (45 :: l)).size = l.length + 1 := by rw [bs_size]; rfl
  have e2 : (⟨#[45]⟩ : ByteArray).size = 1 := rfl
  have e3 : ((bs (45 :: l)).extract 0 1).toList = [45] := by rw [bs_extract, bs_toList]; rfl
  have e4 : (⟨#[45]⟩ : ByteArray).toList = [45] := bs_toList [45]
  have e5 : (bs (45 :: l)).extract 1 (l.length + 1) = bs l := by
    rw [bs_extract]
    simp [List.take_of_length_le]
  unfold strings_CutPrefix.f stringslite_CutPrefix.f stringslite_HasPrefix.f
  rw [e1, e2, if_pos (by omega), if_pos (by omega), if_pos (by omega), show ((1 : Nat) : Int).toNat = 1 from rfl, e3, e4]
  simp only [Option.bind_some]
  rw [if_pos (by decide), if_pos (by omega), if_pos (by omega), e5]
  rfl
theorem cutp_no (c : UInt8) (l : List UInt8) (h : c ≠ 45) : strings_CutPrefix.f (bs (c :: l)) ⟨#[45]⟩ = some (bs (c :: l), false) := by
  have e1 : (bs (c :: l)).size = l.length + 1 := by rw [bs_size]; rfl
  have e2 : (⟨#[45]⟩ : ByteArray).size = 1 := rfl
  have e3 : ((bs (c :: l)).extract 0 1).toList = [c] := by rw [bs_extract, bs_toList]; rfl
  have e4 : (⟨#[45]⟩ : ByteArray).toList = [45] := bs_toList [45]
  have e5 : (([c] : List UInt8) == [45]) = false := by simp [h]
  unfold strings_CutPrefix.f stringslite_CutPrefix.f stringslite_HasPrefix.f
  rw [e1, e2, if_pos (by omega), if_pos (by omega), if_pos (by omega), show ((1 : Nat) : Int).toNat = 1 from rfl, e3, e4, e5]
  rfl
theorem index_at (c : UInt8) : ∀ (l r : List UInt8), c ∉ l → Lib.indexByte (l ++ c :: r) c = (l.length : Int)
  | [], r, _ => by
    show Lib.indexByte (c :: r) c = 0
    unfold Lib.indexByte
    rw [if_pos (beq_self_eq_true c)]
  | b :: l, r, h => by
    have ih := index_at c l r (fun hm => h (List.mem_cons_of_mem _ hm))
    show Lib.indexByte (b :: (l ++ c :: r)) c = _
    unfold Lib.indexByte
    have hb : (b == c) = false := by
      rw [beq_eq_false_iff_ne]
      exact fun e => h (e ▸ List.mem_cons_self ..)
    have hn : (Lib.indexByte (l ++ c :: r) c == -1) = false := by rw [ih, beq_eq_false_iff_ne]; omega
    rw [if_neg (by rw [hb]; decide), if_neg (by rw [hn]; decide), ih]
    simp
theorem cut_at (l r : List UInt8) (h : (112 : UInt8) ∉ l) (hl : l.length < 1000000) : strings_Cut.f (bs (l ++ 112 :: r)) ⟨#[112]⟩ = some (bs l, bs r, true) := by
  have e0 : (⟨#[112]⟩ : ByteArray).data.toList = [112] := rfl
  have e1 : (bs (l ++ 112 :: r)).data.toList = l ++ 112 :: r := rfl
  have e2 : (bs (l ++ 112 :: r)).size = l.length + (r.length + 1) := by rw [bs_size]; simp
  have ei := index_at 112 l r h
  have x1 : (bs (l ++ 112 :: r)).extract 0 l.length = bs l := by rw [bs_extract]; simp
  have x2 : (bs (l ++ 112 :: r)).extract (l.length + 1) (l.length + (r.length + 1)) = bs r := by
    rw [bs_extract]
    have : l ++ 112 :: r = (l ++ [112]) ++ r := by simp
    rw [List.take_of_length_le (by simp), this, List.drop_left' (by simp)]
  have t2 : ((l.length : Int) + 1).toNat = l.length + 1 := by omega
  simp only [strings_Cut.f, e0, e1, e2, ei]
  rw [if_neg (by omega), if_pos (by omega), if_pos (by omega), Int.toNat_natCast, t2, x1, x2]
theorem mem_nume {b n : Nat} (hb : 2 ≤ b) (hb' : b ≤ 16) {c : UInt8} (h : c ∈ nume b n) : c ≠ 112 ∧ c ≠ 45 := by
  unfold nume at h
  rw [List.mem_map] at h
  obtain ⟨d, hd, rfl⟩ := h
  have := dl_lt hb n d hd
  have := L_range (d := d) (by omega)
  exact ⟨this.2.2.2.1, this.2.2.2.2⟩
theorem nume_cons (b n : Nat) : ∃ c l, nume b n = c :: l := by
  unfold nume
  match h : dl b n with
  | [] => exact absurd h (dl_ne b n)
  | d :: r => exact ⟨_, _, rfl⟩
theorem Exact_ev {neg : Bool} {M a : Int} {x : Int} (hM : 0 < M) (hM' : M < 18446744073709551616) (hx : -16384 ≤ x) (hx' : x ≤ 16384) (h : rnd neg M x 0 = (a, 0)) : Ev (fun k => parts_Exact.f k neg M x) (a, true) := by
  have hr := round_plain neg (hi := 0) (lo := M) x 0 (by omega) (by omega) (by omega) hM' (by omega) hx hx'
  rw [show (0 : Int) * 18446744073709551616 + M = M by omega, h] at hr
  unfold parts_Exact.f
  refine Ev.congr (fun k => if_neg (by omega)) ?_
  rw [show decide (x > 16384) = false from decide_eq_false (by omega)]
  apply Ev.step
  · intro k
    rw [parts_Exact.j0, if_neg (by decide)]
  exact Ev.bind hr (Ev.congr (fun k => if_pos rfl) (Ev.now _))
theorem p14 : (16 : Nat) ^ 14 = 72057594037927936 := by decide
theorem p4 : (10 : Nat) ^ 4 = 10000 := by decide
theorem exact_ev {neg : Bool} {m : Nat} {a x : Int} (hM : 2 * m + 1 < 9007199254740992) (hx : -9999 ≤ x) (hx' : x ≤ 9999) (h : rnd neg ((2 * m + 1 : Nat) : Int) x 0 = (a, 0)) : Ev (fun k => dump_exact.f k (bs (nume 16 (2 * m + 1) ++ 112 :: pw x)) neg) (a, true) := by
  have hl := nume_len (b := 16) (by omega) (2 * m + 1) (by omega)
  have hc := cut_at (nume 16 (2 * m + 1)) (pw x) (fun h => (mem_nume (by omega) (by omega) h).1 rfl) (by omega)
  have hE := Exact_ev (neg := neg) (M := ((2 * m + 1 : Nat) : Int)) (a := a) (x := x) (by omega) (by omega) (by omega) (by omega) h
  have v1 := value_ev (b := 16) (n := 2 * m + 1) (few := 14) (.inr rfl) (by omega) (by rw [p14]; omega) (by omega)
  have hodd : Go.bits .and .u64 ((2 * m + 1 : Nat) : Int) 1 = 1 := by rw [and_one (by omega) (by omega)]; omega
  unfold dump_exact.f
  refine Ev.bind (g := fun _ => strings_Cut.f (bs (nume 16 (2 * m + 1) ++ 112 :: pw x)) ⟨#[112]⟩) (Ev.congr (fun _ => hc) (Ev.now _)) ?_
  by_cases c : x < 0
  · obtain ⟨n, hn⟩ := Int.eq_ofNat_of_zero_le (show 0 ≤ -x by omega)
    have ep : pw x = 45 :: nume 10 n := by unfold pw; rw [if_pos c, hn, Int.toNat_natCast]
    have v2 := value_ev (b := 10) (n := n) (few := 4) (.inl rfl) (by omega) (by rw [p4]; omega) (by omega)
    rw [ep]
    refine Ev.bind (g := fun _ => strings_CutPrefix.f (bs (45 :: nume 10 n)) ⟨#[45]⟩) (Ev.congr (fun _ => cutp_yes _) (Ev.now _)) ?_
    refine Ev.bind v1 (Ev.bind v2 ?_)
    refine Ev.congr (fun k => (if_pos rfl).trans ((if_pos rfl).trans ((if_pos rfl).trans ((if_neg (by rw [hodd]; decide)).trans (if_pos rfl))))) ?_
    rw [show ((n : Int) == 0) = false by rw [beq_eq_false_iff_ne]; omega]
    apply Ev.step
    · intro k
      rw [dump_exact.j0, if_neg (by decide), if_pos rfl]
    rw [w64 (x := (n : Int)) (by omega) (by omega), w64 (x := -(n : Int)) (by omega) (by omega), show -(n : Int) = x by omega]
    exact Ev.bind hE (Ev.now _)
  · obtain ⟨n, rfl⟩ := Int.eq_ofNat_of_zero_le (show 0 ≤ x by omega)
    have ep : pw (n : Int) = nume 10 n := by unfold pw; rw [if_neg c, Int.toNat_natCast]
    have v2 := value_ev (b := 10) (n := n) (few := 4) (.inl rfl) (by omega) (by rw [p4]; omega) (by omega)
    obtain ⟨d, r, ed⟩ := nume_cons 10 n
    have hd := (mem_nume (b := 10) (n := n) (c := d) (by omega) (by omega) (by rw [ed]; exact List.mem_cons_self ..)).2
    have hcp := cutp_no d r hd
    rw [← ed] at hcp
    rw [ep]
    refine Ev.bind (g := fun _ => strings_CutPrefix.f (bs (nume 10 n)) ⟨#[45]⟩) (Ev.congr (fun _ => hcp) (Ev.now _)) ?_
    refine Ev.bind v1 (Ev.bind v2 ?_)
    refine Ev.congr (fun k => (if_pos rfl).trans ((if_pos rfl).trans ((if_pos rfl).trans ((if_neg (by rw [hodd]; decide)).trans (if_neg Bool.false_ne_true))))) ?_
    apply Ev.step
    · intro k
      rw [dump_exact.j0, if_neg (by decide), if_neg Bool.false_ne_true]
    rw [w64 (x := (n : Int)) (by omega) (by omega)]
    exact Ev.bind hE (Ev.now _)
theorem cutp_sg (neg : Bool) (c : UInt8) (l : List UInt8) (h : c ≠ 45) : strings_CutPrefix.f (bs (sg neg ++ c :: l)) ⟨#[45]⟩ = some (bs (c :: l), neg) := by
  cases neg
  · exact cutp_no c l h
  · exact cutp_yes (c :: l)
theorem parse_fin {neg : Bool} {m : Nat} {a x : Int} (hM : 2 * m + 1 < 9007199254740992) (hx : -9999 ≤ x) (hx' : x ≤ 9999) (h : rnd neg ((2 * m + 1 : Nat) : Int) x 0 = (a, 0)) : Ev (fun k => dump_Parse.f k (bs (tx neg (2 * m + 1) x))) (a, 0) := by
  obtain ⟨d, r, ed⟩ := nume_cons 16 (2 * m + 1)
  have hd := (mem_nume (b := 16) (n := 2 * m + 1) (c := d) (by omega) (by omega) (by rw [ed]; exact List.mem_cons_self ..)).2
  have et : tx neg (2 * m + 1) x = sg neg ++ d :: (r ++ 112 :: pw x) := by unfold tx; rw [ed]; simp
  have e2 : d :: (r ++ 112 :: pw x) = nume 16 (2 * m + 1) ++ 112 :: pw x := by rw [ed]; rfl
  have hm : (112 : UInt8) ∈ nume 16 (2 * m + 1) ++ 112 :: pw x := by simp
  have hcp := cutp_sg neg d (r ++ 112 :: pw x) hd
  rw [← et, e2] at hcp
  have n1 : ¬ (bs (tx neg (2 * m + 1) x)).toList = ([110, 97, 110] : List UInt8) := by
    rw [bs_toList]
    intro e
    have : (112 : UInt8) ∈ tx neg (2 * m + 1) x := by unfold tx; simp
    rw [e] at this
    revert this
    decide
  have n2 : ¬ (bs (nume 16 (2 * m + 1) ++ 112 :: pw x)).toList = ([105, 110, 102] : List UInt8) := by
    rw [bs_toList]
    intro e
    rw [e] at hm
    revert hm
    decide
  have n3 : ¬ (bs (nume 16 (2 * m + 1) ++ 112 :: pw x)).toList = ([48] : List UInt8) := by
    rw [bs_toList]
    intro e
    rw [e] at hm
    revert hm
    decide
  have hE := exact_ev hM hx hx' h
  unfold dump_Parse.f
  refine Ev.congr (fun k => if_neg n1) ?_
  refine Ev.bind (g := fun _ => strings_CutPrefix.f (bs (tx neg (2 * m + 1) x)) ⟨#[45]⟩) (Ev.congr (fun _ => hcp) (Ev.now _)) ?_
  refine Ev.congr (fun k => (if_neg n2).trans (if_neg n3)) ?_
  exact Ev.bind hE (Ev.congr (fun k => if_pos rfl) (Ev.now _))
theorem parse_nan : Ev (fun k => dump_Parse.f k (bs [110, 97, 110])) (9221120237041090560, 0) := by
  unfold dump_Parse.f
  exact Ev.congr (fun k => if_pos (bs_toList _)) (Ev.now _)
theorem parse_inf (neg : Bool) : Ev (fun k => dump_Parse.f k (bs (sg neg ++ [105, 110, 102]))) (rinf neg, 0) := by
  have n1 : ¬ (bs (sg neg ++ [105, 110, 102])).toList = ([110, 97, 110] : List UInt8) := by rw [bs_toList]; cases neg <;> decide
  unfold dump_Parse.f
  refine Ev.congr (fun k => if_neg n1) ?_
  refine Ev.bind (g := fun _ => strings_CutPrefix.f (bs (sg neg ++ [105, 110, 102])) ⟨#[45]⟩) (Ev.congr (fun _ => cutp_sg neg 105 [110, 102] (by decide)) (Ev.now _)) ?_
  refine Ev.congr (fun k => if_pos (bs_toList _)) ?_
  exact Ev.bind (g := fun _ => parts_Inf.f neg) (Ev.congr (fun _ => inf_some neg) (Ev.now _)) (Ev.now _)
theorem parse_zero (neg : Bool) : Ev (fun k => dump_Parse.f k (bs (sg neg ++ [48]))) (rzero neg, 0) := by
  have n1 : ¬ (bs (sg neg ++ [48])).toList = ([110, 97, 110] : List UInt8) := by rw [bs_toList]; cases neg <;> decide
  have n2 : ¬ (bs [48]).toList = ([105, 110, 102] : List UInt8) := by rw [bs_toList]; decide
  unfold dump_Parse.f
  refine Ev.congr (fun k => if_neg n1) ?_
  refine Ev.bind (g := fun _ => strings_CutPrefix.f (bs (sg neg ++ [48])) ⟨#[45]⟩) (Ev.congr (fun _ => cutp_sg neg 48 [] (by decide)) (Ev.now _)) ?_
  refine Ev.congr (fun k => (if_neg n2).trans (if_pos (bs_toList _))) ?_
  exact Ev.bind (g := fun _ => parts_Zero.f neg) (Ev.congr (fun _ => zero_some neg) (Ev.now _)) (Ev.now _)
theorem odd_part : ∀ (f : Nat) (z : Nat), z ≤ f → 0 < z → ∃ t m : Nat, z = 2 ^ t * (2 * m + 1)
  | 0, z, h, h0 => by omega
  | f + 1, z, h, h0 => by
    rcases Nat.mod_two_eq_zero_or_one z with e | e
    · obtain ⟨t, m, h2⟩ := odd_part f (z / 2) (by omega) (by omega)
      refine ⟨t + 1, m, ?_⟩
      rw [Nat.pow_succ]
      have : z = 2 * (z / 2) := by omega
      rw [this, h2]
      grind
    · exact ⟨0, z / 2, by omega⟩
theorem odd2_ex {z : Int} (h : 0 < z) : ∃ t m, odd2 t m z := by
  obtain ⟨n, rfl⟩ := Int.eq_ofNat_of_zero_le (Int.le_of_lt h)
  obtain ⟨t, m, e⟩ := odd_part n n (Nat.le_refl _) (by omega)
  refine ⟨t, m, ?_⟩
  unfold odd2
  rw [e]
  push_cast
  rfl
end Go.Proofs.YtpdjahhimmaonaaDoor.PE
