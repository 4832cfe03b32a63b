/- What is parsed of any text is told so: a text's number's text is that text. -/
import Derived.Test.YtpdjahhimmaonaaDoorZDumpBack46
namespace Go.Proofs.YtpdjahhimmaonaaDoor.PE
open Go.RowKit Go.Proofs.YtpdjahhimmaonaaDoorW.PrintWords Go.Proofs.YtpdjahhimmaonaaDoorW.PrintLast Go.Proofs.YtpdjahhimmaonaaDoorW.PrintMore Go.Proofs.YtpdjahhimmaonaaDoor.Num Go.Proofs.YtpdjahhimmaonaaDoor.Flt
set_option linter.unusedVariables false
set_option linter.unusedSimpArgs false
theorem qhs_zero {A D : Int} (hD : 0 < D) (h1 : (qhs A D).2.1 = false) (h2 : (qhs A D).2.2 = false) : A = D * (qhs A D).1 := by
  unfold qhs at *
  dsimp only at h1 h2 ⊢
  have g1 := of_decide_eq_false h1
  have g2 := of_decide_eq_false h2
  have hm := Int.emod_nonneg A (Int.ne_of_gt hD)
  have : A % D = 0 := by
    by_cases c : A % D = 0
    · exact c
    · exfalso
      exact g2 ⟨c, by omega⟩
  have := Int.mul_ediv_add_emod A D
  omega
theorem rover_snd (neg : Bool) (mode : Int) : (rover neg mode).2 = 20 := by unfold rover; split <;> rfl
theorem pair_if (C : Prop) [Decidable C] (neg : Bool) (z w : Int) : (if C then rover neg 0 else (z, w)).2 = if C then 20 else w := by
  split
  · exact rover_snd _ _
  · rfl
theorem if_ne0 (C D : Prop) [Decidable C] [Decidable D] : (if C then (20 : Int) else if D then 24 else 16) ≠ 0 := by
  split
  · decide
  · split <;> decide
theorem rfin_flag (neg : Bool) (e : Int) (p : Int × Bool × Bool) (tiny : Bool) (hp : p.2.1 = true ∨ p.2.2 = true) : (rfin neg e p tiny 0).2 ≠ 0 := by
  unfold rfin
  dsimp only
  rw [if_pos hp, pair_if]
  exact if_ne0 _ _
theorem rnd_flag0 (neg : Bool) {M : Int} {x a : Int} (hM : 0 < M) (hM' : M < 18446744073709551616) (ho : M % 2 = 1) (h : rnd neg M x 0 = (a, 0)) :
    ∃ (q : Int) (t : Nat), a = rput neg q (x - t) ∧ q = 2 ^ t * M ∧ 0 < q ∧ q < 9007199254740992 ∧ -1074 ≤ x - t ∧ x - t ≤ 971 ∧ (4503599627370496 ≤ q ∨ x - t = -1074) := by
  have hge := rexp_ge (bitsOf M) x
  have hlt := qx_lt (N := M) (x := x) (e := rexp (bitsOf M) x) (by omega) (by omega)
  have hnorm : rexp (bitsOf M) x = bitsOf M + x - 53 → 4503599627370496 ≤ (qx M x (rexp (bitsOf M) x)).1 := by
    intro e
    rw [e]
    exact qx_ge hM
  unfold rnd at h
  generalize rexp (bitsOf M) x = e at *
  have hfl : (qx M x e).2.1 = false ∧ (qx M x e).2.2 = false := by
    by_cases c : (qx M x e).2.1 = true ∨ (qx M x e).2.2 = true
    · exact absurd (congrArg Prod.snd h) (rfin_flag neg e _ _ c)
    · constructor
      · cases hx : (qx M x e).2.1
        · rfl
        · exact absurd (.inl hx) c
      · cases hx : (qx M x e).2.2
        · rfl
        · exact absurd (.inr hx) c
  obtain ⟨f1, f2⟩ := hfl
  have hz := qhs_zero (A := M * up2 (x - e)) (D := up2 (e - x)) (up2_pos _) f1 f2
  have hz' : M * up2 (x - e) = up2 (e - x) * (qx M x e).1 := hz
  unfold rfin at h
  rw [f1, f2] at h
  simp only [rup_no] at h
  rw [if_neg (show ¬ (false = true) by decide), if_neg (show ¬ 9007199254740992 ≤ (qx M x e).1 by omega), if_neg (show ¬ 9007199254740992 ≤ (qx M x e).1 by omega), if_neg (show ¬ (false = true ∨ false = true) by decide)] at h
  generalize (qx M x e).1 = q at *
  have hle : e ≤ x := by
    rcases Int.lt_or_le x e with c | c
    · exfalso
      rw [up2_neg (a := x - e) (by omega), Int.mul_one] at hz'
      have h2 := up2_succ (a := e - x - 1) (by omega)
      rw [show e - x - 1 + 1 = e - x by omega] at h2
      rw [h2] at hz'
      have : M = 2 * (up2 (e - x - 1) * q) := by rw [hz']; grind
      omega
    · exact c
  obtain ⟨t, ht⟩ := Int.eq_ofNat_of_zero_le (show 0 ≤ x - e by omega)
  rw [up2_neg (a := e - x) (by omega), Int.one_mul, ht, up2_nat] at hz'
  have he : e = x - t := by omega
  subst he
  have hq0 : 0 < q := by rw [← hz']; exact Int.mul_pos hM (two_pow_pos t)
  have hbig : 4503599627370496 ≤ q ∨ x - (t : Int) = -1074 := by
    rcases hge.2.2 with c | c
    · exact .inr c
    · exact .inl (hnorm c)
  split at h
  · exact absurd ((congrArg Prod.snd h).symm.trans (rover_snd neg 0)) (show ¬ ((0 : Int) = 20) by decide)
  · rename_i hn
    refine ⟨q, t, (congrArg Prod.fst h).symm, by rw [← hz', Int.mul_comm], hq0, hlt.2, hge.1, ?_, hbig⟩
    rcases Int.lt_or_le 971 (x - t) with c | c
    · exfalso
      refine hn ⟨?_, c⟩
      omega
    · exact c
theorem fold_snoc (b a : Nat) (l : List Nat) (d : Nat) : fold b a (l ++ [d]) = fold b a l * b + d := by unfold fold; rw [List.foldl_append]; rfl
theorem fold_ge {b : Nat} (hb : 2 ≤ b) : ∀ (l : List Nat) (a : Nat), a ≤ fold b a l
  | [], a => Nat.le_refl _
  | d :: l, a => by
    have h1 := fold_ge hb l (a * b + d)
    have h2 : a * 1 ≤ a * b := Nat.mul_le_mul_left a (by omega)
    show a ≤ fold b (a * b + d) l
    omega
theorem dl_of_fold {b : Nat} (hb : 2 ≤ b) : ∀ (n : Nat) (l : List Nat), l.length = n → (∀ d ∈ l, d < b) → (∃ d r, l = d :: r ∧ (0 < d ∨ r = [])) → dl b (fold b 0 l) = l := by
  intro n
  induction n with
  | zero =>
    intro l hl _ h
    obtain ⟨d, r, rfl, _⟩ := h
    simp at hl
  | succ n ih =>
    intro l hl hd h
    obtain ⟨d, r, rfl, h0⟩ := h
    rcases List.eq_nil_or_concat r with rfl | ⟨r', z, rfl⟩
    · have e : fold b 0 [d] = d := by unfold fold; simp
      rw [e, dl_low (hd d (List.mem_cons_self ..))]
    · have hd0 : 0 < d := by
        rcases h0 with h0 | h0
        · exact h0
        · simp at h0
      rw [List.concat_eq_append, ← List.cons_append] at hd hl ⊢
      have hz : z < b := hd z (by simp)
      have hi := ih (d :: r') (by simpa using hl) (fun x hx => hd x (List.mem_append_left _ hx)) ⟨d, r', rfl, .inl hd0⟩
      have hF : 0 < fold b 0 (d :: r') := by
        have := fold_ge hb r' (0 * b + d)
        show 0 < fold b (0 * b + d) r'
        omega
      rw [fold_snoc]
      generalize fold b 0 (d :: r') = F at *
      have h1 : 1 * b ≤ F * b := Nat.mul_le_mul_right b hF
      rw [dl_high hb (by omega), Nat.mul_comm F b, Nat.mul_add_div (by omega), Nat.div_eq_of_lt hz, Nat.add_zero, hi, Nat.mul_add_mod, Nat.mod_eq_of_lt hz]
theorem letters_at {b d : Nat} {c : UInt8} (hb : b ≤ 16) (h : (([48, 49, 50, 51, 52, 53, 54, 55, 56, 57, 97, 98, 99, 100, 101, 102] : List UInt8).take b)[d]? = some c) : d < b ∧ L d = c := by
  obtain ⟨hd, e⟩ := List.getElem?_eq_some_iff.1 h
  rw [List.length_take] at hd
  have hd1 : d < b := by omega
  refine ⟨hd1, ?_⟩
  rw [List.getElem?_take_of_lt hd1] at h
  unfold L
  rw [List.getD_eq_getElem?_getD, h]
  rfl
theorem index_any {b : Nat} (hb : b ≤ 16) (c : UInt8) : Lib.indexByte (([48, 49, 50, 51, 52, 53, 54, 55, 56, 57, 97, 98, 99, 100, 101, 102] : List UInt8).take b) c = -1 ∨ ∃ d : Nat, d < b ∧ L d = c ∧ Lib.indexByte (([48, 49, 50, 51, 52, 53, 54, 55, 56, 57, 97, 98, 99, 100, 101, 102] : List UInt8).take b) c = (d : Int) := by
  have ge := Lib.indexByte_ge (([48, 49, 50, 51, 52, 53, 54, 55, 56, 57, 97, 98, 99, 100, 101, 102] : List UInt8).take b) c
  by_cases h : Lib.indexByte (([48, 49, 50, 51, 52, 53, 54, 55, 56, 57, 97, 98, 99, 100, 101, 102] : List UInt8).take b) c = -1
  · exact .inl h
  · obtain ⟨d, hd⟩ := Int.eq_ofNat_of_zero_le (show 0 ≤ Lib.indexByte (([48, 49, 50, 51, 52, 53, 54, 55, 56, 57, 97, 98, 99, 100, 101, 102] : List UInt8).take b) c by omega)
    obtain ⟨h1, _⟩ := Lib.indexByte_some hd
    obtain ⟨h2, h3⟩ := letters_at hb h1
    exact .inr ⟨d, h2, h3, hd⟩
theorem u8_back (c : UInt8) : ((c.toNat : Int)).toNat.toUInt8 = c := by
  rw [Int.toNat_natCast]
  exact UInt8.ofNat_toNat
theorem index_f {b : Nat} (l : List UInt8) (i : Nat) : strings_IndexByte.f ((⟨#[48, 49, 50, 51, 52, 53, 54, 55, 56, 57, 97, 98, 99, 100, 101, 102]⟩ : ByteArray).extract 0 (b : Int).toNat) (bt (bs l) (i : Int)) = some (Lib.indexByte (([48, 49, 50, 51, 52, 53, 54, 55, 56, 57, 97, 98, 99, 100, 101, 102] : List UInt8).take b) (l.getD i 0)) := by
  unfold strings_IndexByte.f
  rw [bt_bs, u8_back, Int.toNat_natCast, show (⟨#[48, 49, 50, 51, 52, 53, 54, 55, 56, 57, 97, 98, 99, 100, 101, 102]⟩ : ByteArray) = bs [48, 49, 50, 51, 52, 53, 54, 55, 56, 57, 97, 98, 99, 100, 101, 102] from rfl, bs_extract, List.drop_zero, bs_data]
theorem value_loop_any {b : Nat} (hb : b = 10 ∨ b = 16) (l : List UInt8) (hl : l.length ≤ 14) : ∀ (j i F : Nat), i + j = l.length → F < b ^ i →
    ∃ (n : Nat) (ok : Bool), Ev (fun k => dump_value.l0 k (bs l) (b : Int) (F : Int) (l.length : Int) (i : Int)) ((n : Int), ok) ∧ (ok = true → ∃ ds : List Nat, l.drop i = ds.map L ∧ (∀ d ∈ ds, d < b) ∧ n = fold b F ds) ∧ (ok = false → n = 0) := by
  intro j
  induction j with
  | zero =>
    intro i F hi hF
    refine ⟨F, true, Ev.step (f := fun _ => some ((F : Int), true)) (fun k => ?_) (Ev.now _), fun _ => ⟨[], ?_, fun _ h => by simp at h, rfl⟩, fun h => by cases h⟩
    · rw [dump_value.l0, if_neg (by omega)]
    · rw [List.drop_of_length_le (by omega)]; rfl
  | succ j ih =>
    intro i F hi hF
    have hil : i < l.length := by omega
    have c1 : (i : Int) < (l.length : Int) := by omega
    have c2 : (0 : Int) ≤ (b : Int) := by omega
    have c3 : (b : Int) ≤ 16 := by omega
    have c4 : (0 : Int) ≤ (i : Int) := by omega
    have c5 : (i : Int) < ((bs l).size : Int) := by rw [bs_size]; omega
    have hix := index_f (b := b) l i
    have hb16 : b ≤ 16 := by omega
    rcases index_any hb16 (l.getD i 0) with hm | ⟨d, hd, hL, hm⟩
    · rw [hm] at hix
      refine ⟨0, false, Ev.step (f := fun _ => some (((0 : Nat) : Int), false)) (fun k => ?_) (Ev.now _), (fun h => by cases h), fun _ => rfl⟩
      rw [dump_value.l0, if_pos c1, if_pos c2, if_pos c3, if_pos c4, if_pos c5, hix, Option.bind_some, if_pos (by decide)]
      rfl
    · rw [hm] at hix
      have hF1 : F * b + d < b ^ (i + 1) := by
        have h2 : (F + 1) * b ≤ b ^ i * b := Nat.mul_le_mul_right b hF
        rw [Nat.pow_succ]
        rw [Nat.add_mul] at h2
        omega
      have h64 : F * b + d < 18446744073709551616 := by
        have h3 : b ^ (i + 1) ≤ 16 ^ 14 := Nat.le_trans (Nat.pow_le_pow_left hb16 _) (Nat.pow_le_pow_right (by decide) (by omega))
        have h4 : (16 : Nat) ^ 14 < 18446744073709551616 := by decide
        omega
      obtain ⟨n, ok, he, h1, h0⟩ := ih (i + 1) (F * b + d) (by omega) hF1
      refine ⟨n, ok, ?_, ?_, h0⟩
      · have c6 : ¬ ((d : Int) < 0) := Int.not_lt.2 (Int.natCast_nonneg d)
        have wm : IntKind.u64.wrap ((F : Int) * (b : Int)) = ((F * b : Nat) : Int) := by rw [← Int.natCast_mul]; exact u64n (by omega)
        have wd : IntKind.u64.wrap (d : Int) = (d : Int) := u64n (by omega)
        have ws : IntKind.u64.wrap (((F * b : Nat) : Int) + (d : Int)) = ((F * b + d : Nat) : Int) := by rw [← Int.natCast_add]; exact u64n h64
        have wi := w64n (i := i) (by omega)
        refine Ev.step (f := fun k => dump_value.l0 k (bs l) (b : Int) ((F * b + d : Nat) : Int) (l.length : Int) ((i + 1 : Nat) : Int)) (fun k => ?_) he
        rw [dump_value.l0, if_pos c1, if_pos c2, if_pos c3, if_pos c4, if_pos c5, hix, Option.bind_some, if_neg c6, wm, wd, ws, wi]
      · intro hok
        obtain ⟨ds, e1, e2, e3⟩ := h1 hok
        refine ⟨d :: ds, ?_, fun x hx => ?_, e3⟩
        · rw [List.drop_eq_getElem_cons hil, e1, List.map_cons, hL, List.getD_eq_getElem?_getD, List.getElem?_eq_getElem hil]
          rfl
        · rcases List.mem_cons.1 hx with rfl | hx
          · exact hd
          · exact e2 x hx
theorem L_zero {d : Nat} (h : d < 16) (e : L d ≠ 48) : 0 < d := by
  rcases Nat.eq_zero_or_pos d with rfl | h
  · exact absurd rfl e
  · exact h
theorem value_any {b few : Nat} (hb : b = 10 ∨ b = 16) (hf : few ≤ 14) (l : List UInt8) :
    ∃ (n : Nat) (ok : Bool), Ev (fun k => dump_value.f k (bs l) (b : Int) (few : Int)) ((n : Int), ok) ∧ (ok = true → l = nume b n ∧ n < b ^ few) ∧ (ok = false → n = 0) := by
  have hno : ∀ k, dump_value.j0 (k + 1) (bs l) (b : Int) true = some (((0 : Nat) : Int), false) := fun k => by rw [dump_value.j0, if_pos rfl]; rfl
  have hbad : Ev (fun k => dump_value.j0 k (bs l) (b : Int) true) (((0 : Nat) : Int), false) := Ev.step (f := fun _ => some (((0 : Nat) : Int), false)) hno (Ev.now _)
  unfold dump_value.f
  by_cases h0 : l = []
  · subst h0
    exact ⟨0, false, Ev.congr (fun k => if_pos (bs_toList _)) hbad, (fun h => by cases h), fun _ => rfl⟩
  have c0 : ¬ (bs l).toList = ([] : List UInt8) := by rw [bs_toList]; exact h0
  by_cases h1 : ((bs l).size : Int) > (few : Int)
  · exact ⟨0, false, Ev.congr (fun k => (if_neg c0).trans (if_pos h1)) hbad, (fun h => by cases h), fun _ => rfl⟩
  have hs : (bs l).size = l.length := bs_size l
  have hlen : l.length ≤ few := by omega
  have hpos : 0 < l.length := List.length_pos_iff.2 h0
  have c2 : 0 < ((bs l).size : Int) := by omega
  obtain ⟨c, r, rfl⟩ := List.exists_cons_of_ne_nil h0
  have hbt : bt (bs (c :: r)) 0 = (c.toNat : Int) := bt_bs (c :: r) 0
  have hjf : ∀ k, dump_value.j0 (k + 1) (bs (c :: r)) (b : Int) false = dump_value.l0 k (bs (c :: r)) (b : Int) 0 ((c :: r).length : Int) 0 := fun k => by rw [dump_value.j0, if_neg (by decide), hs]
  obtain ⟨n, ok, he, ht, hz⟩ := value_loop_any hb (c :: r) (by omega) (c :: r).length 0 0 (by omega) (by simp)
  have hgood : Ev (fun k => dump_value.j0 k (bs (c :: r)) (b : Int) false) ((n : Int), ok) := Ev.step (f := fun k => dump_value.l0 k (bs (c :: r)) (b : Int) 0 ((c :: r).length : Int) 0) hjf he
  have hfin : (c = 48 → r = []) → ok = true → c :: r = nume b n ∧ n < b ^ few := by
    intro hc hok
    obtain ⟨ds, e1, e2, e3⟩ := ht hok
    rw [List.drop_zero] at e1
    match ds, e1 with
    | [], e1 => simp at e1
    | d :: ds', e1 =>
      rw [List.map_cons, List.cons.injEq] at e1
      have hdl := dl_of_fold (b := b) (by omega) _ (d :: ds') rfl e2 ⟨d, ds', rfl, by
        by_cases hc0 : c = 48
        · right
          have := hc hc0
          rw [this] at e1
          exact List.map_eq_nil_iff.1 e1.2.symm
        · left
          exact L_zero (by have := e2 d (List.mem_cons_self ..); omega) (by rw [← e1.1]; exact hc0)⟩
      rw [← e3] at hdl
      refine ⟨?_, ?_⟩
      · unfold nume
        rw [hdl, List.map_cons, e1.1, e1.2]
      · have h5 := fold_lt (b := b) (by omega) (d :: ds') 0 0 e2 (by simp)
        rw [← e3] at h5
        have hle : (d :: ds').length = (c :: r).length := by rw [e1.2]; simp
        exact Nat.lt_of_lt_of_le h5 (Nat.pow_le_pow_right (by omega) (by omega))
  by_cases h3 : bt (bs (c :: r)) 0 = 48
  · by_cases h4 : ((bs (c :: r)).size : Int) > 1
    · exact ⟨0, false, Ev.congr (fun k => (if_neg c0).trans ((if_neg h1).trans ((if_pos c2).trans ((if_pos h3).trans (by rw [decide_eq_true h4]))))) hbad, (fun h => by cases h), fun _ => rfl⟩
    · refine ⟨n, ok, Ev.congr (fun k => (if_neg c0).trans ((if_neg h1).trans ((if_pos c2).trans ((if_pos h3).trans (by rw [decide_eq_false h4]))))) hgood, hfin (fun _ => ?_), hz⟩
      rw [hs] at h4
      simp only [List.length_cons] at h4
      exact List.length_eq_zero_iff.1 (by omega)
  · refine ⟨n, ok, Ev.congr (fun k => (if_neg c0).trans ((if_neg h1).trans ((if_pos c2).trans (if_neg h3)))) hgood, hfin (fun hc => ?_), hz⟩
    exfalso
    apply h3
    rw [hbt, hc]
    rfl
end Go.Proofs.YtpdjahhimmaonaaDoor.PE
