/- Parts of a proof. -/
import Derived.Test.YtpdjahhimmaonaaDoorZDumpBack47
import Derived.Lib.IndexLaws
import Derived.Test.YtpdjahhimmaonaaDoorZDumpBack30
section
namespace Go.Proofs.YtpdjahhimmaonaaDoor.PE
open Go.RowKit Go.Proofs.YtpdjahhimmaonaaDoorW.PrintWords Go.Proofs.YtpdjahhimmaonaaDoorW.PrintLast Go.Proofs.YtpdjahhimmaonaaDoorW.PrintMore Go.Proofs.YtpdjahhimmaonaaDoor.Num Go.Proofs.YtpdjahhimmaonaaDoor.Flt
set_option linter.unusedVariables false
set_option linter.unusedSimpArgs false
def Told (a : Int) (l : List UInt8) : Prop := 0 ≤ a ∧ a < 18446744073709551616 ∧ Ev (fun k => dump_Number.f k a) (bs l)
theorem cutp_nil : strings_CutPrefix.f (bs []) ⟨#[45]⟩ = some (bs [], false) := by rfl
theorem cutp_any (l : List UInt8) : ∃ (neg : Bool) (r : List UInt8), l = sg neg ++ r ∧ strings_CutPrefix.f (bs l) ⟨#[45]⟩ = some (bs r, neg) := by
  match l with
  | [] => exact ⟨false, [], rfl, cutp_nil⟩
  | c :: r =>
    by_cases h : c = 45
    · subst h
      exact ⟨true, r, rfl, cutp_yes r⟩
    · exact ⟨false, c :: r, rfl, cutp_no c r h⟩
theorem cut_any (l : List UInt8) (hl : l.length < 1000000) : strings_Cut.f (bs l) ⟨#[112]⟩ = some (bs l, bs [], false) ∨ ∃ l1 r, l = l1 ++ 112 :: r ∧ strings_Cut.f (bs l) ⟨#[112]⟩ = some (bs l1, bs r, true) := by
  have ge := Lib.indexByte_ge l 112
  by_cases h : Lib.indexByte l 112 = -1
  · left
    have e0 : (⟨#[112]⟩ : ByteArray).data.toList = [112] := rfl
    simp only [strings_Cut.f, e0, bs_data, h]
    rw [if_pos (by decide)]
    rfl
  · right
    obtain ⟨i, hi⟩ := Int.eq_ofNat_of_zero_le (show 0 ≤ Lib.indexByte l 112 by omega)
    obtain ⟨h1, h2⟩ := Lib.indexByte_some hi
    have hil : i < l.length := by
      rcases Nat.lt_or_ge i l.length with h | h
      · exact h
      · rw [List.getElem?_eq_none h] at h1; cases h1
    have e : l = l.take i ++ 112 :: l.drop (i + 1) := by
      conv => lhs; rw [← List.take_append_drop i l]
      rw [List.getElem?_eq_getElem hil] at h1
      rw [List.drop_eq_getElem_cons hil, Option.some.inj h1]
    have hfree : (112 : UInt8) ∉ l.take i := by
      intro hm
      obtain ⟨k, hk, e⟩ := List.mem_iff_getElem.1 hm
      rw [List.length_take] at hk
      refine h2 k (by omega) ?_
      rw [List.getElem_take] at e
      rw [List.getElem?_eq_getElem (by omega), e]
    refine ⟨l.take i, l.drop (i + 1), e, ?_⟩
    have := cut_at (l.take i) (l.drop (i + 1)) hfree (by rw [List.length_take]; omega)
    rw [← e] at this
    exact this
theorem Exact_any {neg : Bool} {M : Nat} {x : Int} (h0 : 0 < M) (hM : (M : Int) < 18446744073709551616) (hx : -9999 ≤ x) (hx' : x ≤ 9999) (ho : M % 2 = 1) :
    ∃ (a : Int) (ok : Bool), Ev (fun k => parts_Exact.f k neg (M : Int) x) (a, ok) ∧ (ok = true → Told a (tx neg M x)) ∧ (ok = false → a = 0) := by
  have hr := round_plain neg (hi := 0) (lo := (M : Int)) x 0 (by omega) (by omega) (by omega) hM (by omega) (by omega) (by omega)
  rw [show (0 : Int) * 18446744073709551616 + (M : Int) = (M : Int) by omega] at hr
  have hj : ∀ (a : Int) (ok : Bool), Ev (fun k => (parts_Round.f k neg 0 (M : Int) x false 0).bind fun t => (if t.2 = 0 then (some (t.1, true)) else (some (0, false)))) (a, ok) → Ev (fun k => parts_Exact.f k neg (M : Int) x) (a, ok) := by
    intro a ok h
    unfold parts_Exact.f
    refine Ev.congr (fun k => if_neg (by omega)) ?_
    rw [show decide (x > 16384) = false from decide_eq_false (by omega)]
    apply Ev.step
    · intro k
      rw [parts_Exact.j0, if_neg (by decide)]
    exact h
  by_cases hf : (rnd neg (M : Int) x 0).2 = 0
  · refine ⟨(rnd neg (M : Int) x 0).1, true, hj _ _ (Ev.bind hr (Ev.congr (fun k => if_pos hf) (Ev.now _))), fun _ => ?_, fun h => by cases h⟩
    obtain ⟨q, t, ea, eq, q0, q1, x0, x1, hn⟩ := rnd_flag0 neg (M := (M : Int)) (x := x) (a := (rnd neg (M : Int) x 0).1) (by omega) hM (by omega) (Prod.ext rfl hf)
    obtain ⟨p0, p1, pn, pe, pm, px⟩ := rput_parts neg (m := q) (e := x - t) (by omega) q1 x0 x1 hn
    have hc : fcls (rput neg q (x - t)) = 1 := by
      have h2 : fcls (rput neg q (x - t)) ≤ 1 := fcls_fin.2 pe
      have h3 := fcls_range (rput neg q (x - t))
      by_cases h4 : fcls (rput neg q (x - t)) = 0
      · exfalso
        unfold fcls at h4
        rw [if_neg pe] at h4
        split at h4
        · rename_i h5
          unfold fman at pm
          rw [if_pos h5.1] at pm
          omega
        · omega
      · omega
    have hod : odd2 t (M / 2) (fman (rput neg q (x - t))) := by
      unfold odd2
      rw [pm, eq, show 2 * (M / 2) + 1 = M by omega]
    have hnf := (number_fin p0 p1 hc hod).1
    rw [pn, px, show 2 * (M / 2) + 1 = M by omega, show x - (t : Int) + t = x by omega] at hnf
    rw [ea]
    exact ⟨p0, p1, hnf⟩
  · exact ⟨0, false, hj _ _ (Ev.bind hr (Ev.congr (fun k => if_neg hf) (Ev.now _))), (fun h => by cases h), fun _ => rfl⟩
theorem pw_neg {n : Nat} (h : n ≠ 0) : pw (-(n : Int)) = 45 :: nume 10 n := by unfold pw; rw [if_pos (by omega), Int.neg_neg, Int.toNat_natCast]
theorem pw_pos (n : Nat) : pw (n : Int) = nume 10 n := by unfold pw; rw [if_neg (by omega), Int.toNat_natCast]
theorem exact_no {neg low : Bool} {m n : Int} : Ev (fun k => dump_exact.j0 k neg low m n true) (0, false) := Ev.step (f := fun _ => some (0, false)) (fun k => by rw [dump_exact.j0, if_pos rfl]) (Ev.now _)
theorem exact_any (l : List UInt8) (hl : l.length < 1000000) (neg : Bool) :
    ∃ (a : Int) (ok : Bool), Ev (fun k => dump_exact.f k (bs l) neg) (a, ok) ∧ (ok = true → Told a (sg neg ++ l)) ∧ (ok = false → a = 0) := by
  have hbad : ∀ low m n, Ev (fun k => dump_exact.j0 k neg low m n true) (0, false) := fun low m n => exact_no
  rcases cut_any l hl with hc | ⟨l1, r, hlr, hc⟩
  · obtain ⟨m, ok1, e1, _, _⟩ := value_any (b := 16) (few := 14) (.inr rfl) (by omega) l
    obtain ⟨n, ok2, e2, _, _⟩ := value_any (b := 10) (few := 4) (.inl rfl) (by omega) []
    refine ⟨0, false, ?_, (fun h => by cases h), fun _ => rfl⟩
    unfold dump_exact.f
    refine Ev.bind (g := fun _ => strings_Cut.f (bs l) ⟨#[112]⟩) (Ev.congr (fun _ => hc) (Ev.now _)) ?_
    refine Ev.bind (g := fun _ => strings_CutPrefix.f (bs []) ⟨#[45]⟩) (Ev.congr (fun _ => cutp_nil) (Ev.now _)) ?_
    exact Ev.bind e1 (Ev.bind e2 (Ev.congr (fun k => if_neg Bool.false_ne_true) (hbad _ _ _)))
  · obtain ⟨low, rest, hr, hp⟩ := cutp_any r
    obtain ⟨m, ok1, e1, t1, _⟩ := value_any (b := 16) (few := 14) (.inr rfl) (by omega) l1
    obtain ⟨n, ok2, e2, t2, _⟩ := value_any (b := 10) (few := 4) (.inl rfl) (by omega) rest
    have hpre : ∀ (a : Int) (ok : Bool), Ev (fun k => if ok1 = true then (if ok2 = true then (if (Go.bits .and .u64 (m : Int) 1) = 0 then (dump_exact.j0 k neg low (m : Int) (n : Int) true) else (if low = true then (dump_exact.j0 k neg low (m : Int) (n : Int) ((n : Int) == 0)) else (dump_exact.j0 k neg low (m : Int) (n : Int) false))) else (dump_exact.j0 k neg low (m : Int) (n : Int) true)) else (dump_exact.j0 k neg low (m : Int) (n : Int) true)) (a, ok) → Ev (fun k => dump_exact.f k (bs l) neg) (a, ok) := by
      intro a ok h
      unfold dump_exact.f
      refine Ev.bind (g := fun _ => strings_Cut.f (bs l) ⟨#[112]⟩) (Ev.congr (fun _ => hc) (Ev.now _)) ?_
      refine Ev.bind (g := fun _ => strings_CutPrefix.f (bs r) ⟨#[45]⟩) (Ev.congr (fun _ => hp) (Ev.now _)) ?_
      exact Ev.bind e1 (Ev.bind e2 (Ev.congr (fun k => if_pos rfl) h))
    cases ok1
    case false => exact ⟨0, false, hpre _ _ (Ev.congr (fun k => if_neg (by decide)) (hbad _ _ _)), (fun h => by cases h), fun _ => rfl⟩
    cases ok2
    case false => exact ⟨0, false, hpre _ _ (Ev.congr (fun k => (if_pos rfl).trans (if_neg (by decide))) (hbad _ _ _)), (fun h => by cases h), fun _ => rfl⟩
    obtain ⟨el1, hm⟩ := t1 rfl
    obtain ⟨erest, hn⟩ := t2 rfl
    have hm1 : m < 72057594037927936 := by rw [← p14]; exact hm
    have hn1 : n < 10000 := by rw [← p4]; exact hn
    have hand : Go.bits .and .u64 (m : Int) 1 = (m : Int) % 2 := and_one (by omega) (by omega)
    by_cases hev : m % 2 = 0
    · exact ⟨0, false, hpre _ _ (Ev.congr (fun k => (if_pos rfl).trans ((if_pos rfl).trans (if_pos (by rw [hand]; omega)))) (hbad _ _ _)), (fun h => by cases h), fun _ => rfl⟩
    have hodd : ¬ Go.bits .and .u64 (m : Int) 1 = 0 := by rw [hand]; omega
    have hwn : wrap64 (n : Int) = (n : Int) := w64 (by omega) (by omega)
    have hwm : wrap64 (-(n : Int)) = -(n : Int) := w64 (by omega) (by omega)
    have htx : ∀ x : Int, pw x = r → tx neg m x = sg neg ++ l := by
      intro x hx
      unfold tx
      rw [hlr, hx, el1]
      simp
    cases low
    · obtain ⟨a, ok, he, h1, h0⟩ := Exact_any (neg := neg) (M := m) (x := (n : Int)) (by omega) (by omega) (by omega) (by omega) (by omega)
      refine ⟨a, ok, hpre _ _ (Ev.congr (fun k => (if_pos rfl).trans ((if_pos rfl).trans ((if_neg hodd).trans (if_neg Bool.false_ne_true)))) ?_), fun hok => ?_, h0⟩
      · apply Ev.step
        · intro k
          rw [dump_exact.j0, if_neg (by decide), if_neg Bool.false_ne_true]
        rw [hwn]
        exact Ev.bind he (Ev.now _)
      · rw [← htx (n : Int) (by rw [pw_pos, hr, ← erest]; rfl)]
        exact h1 hok
    · by_cases hz : n = 0
      · refine ⟨0, false, hpre _ _ (Ev.congr (fun k => (if_pos rfl).trans ((if_pos rfl).trans ((if_neg hodd).trans (if_pos rfl)))) ?_), (fun h => by cases h), fun _ => rfl⟩
        rw [show ((n : Int) == 0) = true by rw [beq_iff_eq]; omega]
        exact hbad _ _ _
      · obtain ⟨a, ok, he, h1, h0⟩ := Exact_any (neg := neg) (M := m) (x := -(n : Int)) (by omega) (by omega) (by omega) (by omega) (by omega)
        refine ⟨a, ok, hpre _ _ (Ev.congr (fun k => (if_pos rfl).trans ((if_pos rfl).trans ((if_neg hodd).trans (if_pos rfl)))) ?_), fun hok => ?_, h0⟩
        · rw [show ((n : Int) == 0) = false by rw [beq_eq_false_iff_ne]; omega]
          apply Ev.step
          · intro k
            rw [dump_exact.j0, if_neg (by decide), if_pos rfl]
          rw [hwn, hwm]
          exact Ev.bind he (Ev.now _)
        · rw [← htx (-(n : Int)) (by rw [pw_neg hz, hr, ← erest]; rfl)]
          exact h1 hok
theorem fcls_inf (neg : Bool) : fcls (rinf neg) = 2 ∧ fneg (rinf neg) = neg ∧ 0 ≤ rinf neg ∧ rinf neg < 18446744073709551616 := by cases neg <;> decide
theorem fcls_zero (neg : Bool) : fcls (rzero neg) = 0 ∧ fneg (rzero neg) = neg ∧ 0 ≤ rzero neg ∧ rzero neg < 18446744073709551616 := by cases neg <;> decide
theorem parse_any (l : List UInt8) (hl : l.length < 1000000) :
    ∃ (a e : Int), Ev (fun k => dump_Parse.f k (bs l)) (a, e) ∧ (e = 0 → Told a l) ∧ (e ≠ 0 → e = 33 ∧ a = 0) := by
  unfold dump_Parse.f
  by_cases h1 : l = [110, 97, 110]
  · subst h1
    exact ⟨_, 0, Ev.congr (fun k => if_pos (bs_toList _)) (Ev.now _), fun _ => ⟨by decide, by decide, number_nan (by decide) (by decide) (by decide)⟩, fun h => absurd rfl h⟩
  have c1 : ¬ (bs l).toList = ([110, 97, 110] : List UInt8) := by rw [bs_toList]; exact h1
  obtain ⟨neg, r, hr, hp⟩ := cutp_any l
  have hrl : r.length < 1000000 := by
    have := congrArg List.length hr
    rw [List.length_append] at this
    omega
  have hpre : ∀ {g : Nat → Option (Int × Int)} {x : Int × Int}, Ev g x → (∀ k, (if (bs r).toList = ([105, 110, 102] : List UInt8) then ((parts_Inf.f neg).bind fun t => (some (t, 0))) else (if (bs r).toList = ([48] : List UInt8) then ((parts_Zero.f neg).bind fun t => (some (t, 0))) else ((dump_exact.f k (bs r) neg).bind fun bt => (if bt.2 = true then (some (bt.1, 0)) else (some (0, 33)))))) = g k) → Ev (fun k => if (bs l).toList = ([110, 97, 110] : List UInt8) then (some (9221120237041090560, 0)) else ((strings_CutPrefix.f (bs l) (⟨#[45]⟩ : ByteArray)).bind fun bt162 => (if bt162.1.toList = ([105, 110, 102] : List UInt8) then ((parts_Inf.f bt162.2).bind fun t164 => (some (t164, 0))) else (if bt162.1.toList = ([48] : List UInt8) then ((parts_Zero.f bt162.2).bind fun t165 => (some (t165, 0))) else ((dump_exact.f k bt162.1 bt162.2).bind fun bt166 => (if bt166.2 = true then (some (bt166.1, 0)) else (some (0, 33)))))))) x := by
    intro g x hg he
    refine Ev.congr (fun k => if_neg c1) ?_
    refine Ev.bind (g := fun _ => strings_CutPrefix.f (bs l) ⟨#[45]⟩) (Ev.congr (fun _ => hp) (Ev.now _)) ?_
    exact Ev.congr he hg
  by_cases h2 : r = [105, 110, 102]
  · obtain ⟨i1, i2, i3, i4⟩ := fcls_inf neg
    have hnf := number_inf i3 i4 i1
    rw [i2, ← h2, ← hr] at hnf
    refine ⟨rinf neg, 0, hpre (g := fun _ => some (rinf neg, 0)) (Ev.now _) (fun k => ?_), fun _ => ⟨i3, i4, hnf⟩, fun h => absurd rfl h⟩
    rw [if_pos (by rw [bs_toList]; exact h2), inf_some]
    rfl
  have c2 : ¬ (bs r).toList = ([105, 110, 102] : List UInt8) := by rw [bs_toList]; exact h2
  by_cases h3 : r = [48]
  · obtain ⟨i1, i2, i3, i4⟩ := fcls_zero neg
    have hnf := number_zero i3 i4 i1
    rw [i2, ← h3, ← hr] at hnf
    refine ⟨rzero neg, 0, hpre (g := fun _ => some (rzero neg, 0)) (Ev.now _) (fun k => ?_), fun _ => ⟨i3, i4, hnf⟩, fun h => absurd rfl h⟩
    rw [if_neg c2, if_pos (by rw [bs_toList]; exact h3), zero_some]
    rfl
  have c3 : ¬ (bs r).toList = ([48] : List UInt8) := by rw [bs_toList]; exact h3
  obtain ⟨a, ok, he, t1, t0⟩ := exact_any r hrl neg
  cases ok
  · refine ⟨0, 33, hpre (g := fun k => (dump_exact.f k (bs r) neg).bind fun bt => (if bt.2 = true then (some (bt.1, 0)) else (some (0, 33)))) (Ev.bind he (Ev.congr (fun k => if_neg Bool.false_ne_true) (Ev.now _))) (fun k => ?_), fun h => absurd h (by decide), fun _ => ⟨rfl, rfl⟩⟩
    rw [if_neg c2, if_neg c3]
  · refine ⟨a, 0, hpre (g := fun k => (dump_exact.f k (bs r) neg).bind fun bt => (if bt.2 = true then (some (bt.1, 0)) else (some (0, 33)))) (Ev.bind he (Ev.congr (fun k => if_pos rfl) (Ev.now _))) (fun k => ?_), fun _ => ?_, fun h => absurd rfl h⟩
    · rw [if_neg c2, if_neg c3]
    · rw [hr]
      exact t1 rfl
end Go.Proofs.YtpdjahhimmaonaaDoor.PE
end
section
namespace Go.Proofs.YtpdjahhimmaonaaDoor.PE
open Go.RowKit Go.Proofs.YtpdjahhimmaonaaDoorW.PrintWords Go.Proofs.YtpdjahhimmaonaaDoorW.PrintLast Go.Proofs.YtpdjahhimmaonaaDoorW.PrintMore Go.Proofs.YtpdjahhimmaonaaDoor.Num Go.Proofs.YtpdjahhimmaonaaDoor.Flt
set_option linter.unusedVariables false
set_option linter.unusedSimpArgs false
def Hi (l : List UInt8) : Prop := ∀ c ∈ l, 45 ≤ c.toNat
theorem Hi.app {a b : List UInt8} (h : Hi a) (k : Hi b) : Hi (a ++ b) := fun c hc => (List.mem_append.1 hc).elim (h c) (k c)
theorem Hi.sg (neg : Bool) : Hi (sg neg) := by cases neg <;> (intro c hc; revert c; decide)
theorem Hi.nume {b : Nat} (hb : 2 ≤ b) (hb' : b ≤ 16) (n : Nat) : Hi (nume b n) := by
  intro c hc
  unfold Go.Proofs.YtpdjahhimmaonaaDoor.PE.nume at hc
  rw [List.mem_map] at hc
  obtain ⟨d, hd, rfl⟩ := hc
  have := dl_lt hb n d hd
  have := L_range (d := d) (by omega)
  omega
theorem Hi.pw (x : Int) : Hi (pw x) := by
  unfold Go.Proofs.YtpdjahhimmaonaaDoor.PE.pw
  split
  · intro c hc
    rcases List.mem_cons.1 hc with rfl | hc
    · decide
    · exact Hi.nume (by omega) (by omega) _ c hc
  · exact Hi.nume (by omega) (by omega) _
theorem Hi.tx (neg : Bool) (M : Nat) (x : Int) : Hi (tx neg M x) :=
  ((Hi.sg neg).app (Hi.nume (by omega) (by omega) M)).app (fun c hc => by rw [List.mem_singleton] at hc; subst hc; decide) |>.app (Hi.pw x)
theorem Hi.no {l : List UInt8} (h : Hi l) {c : UInt8} (hc : c.toNat < 45) : c ∉ l := fun hm => by have := h c hm; omega
def cn (a : Int) : Int := if fcls a = 3 then 9221120237041090560 else a
structure Tx (a : Int) (l : List UInt8) : Prop where
  num : Ev (fun k => dump_Number.f k a) (bs l)
  text : Ev (fun k => vernierlaw40_text.f k a) (bs l)
  parse : Ev (fun k => dump_Parse.f k (bs l)) (cn a, 0)
  len : l.length ≤ 200
  hi : Hi l
theorem tx_any {a0 : Int} (h0 : 0 ≤ a0) (h1 : a0 < 18446744073709551616) : ∃ l, Tx a0 l := by
  have rc := fcls_range a0
  have hcase : fcls a0 = 3 ∨ fcls a0 = 2 ∨ fcls a0 = 0 ∨ fcls a0 = 1 := by omega
  rcases hcase with c | c | c | c
  · have e : cn a0 = 9221120237041090560 := if_pos c
    exact ⟨_, number_nan h0 h1 c, text_nan h0 h1 c, by rw [e]; exact parse_nan, by decide, by intro c hc; revert c; decide⟩
  · have e : cn a0 = a0 := if_neg (by omega)
    have hv : rinf (fneg a0) = a0 := by
      have hz : rzero (fneg a0) = a0 - a0 % 9223372036854775808 := by
        unfold fneg rzero
        by_cases c : 9223372036854775808 ≤ a0
        · rw [decide_eq_true c, if_pos rfl]; omega
        · rw [decide_eq_false c, if_neg (by decide)]; omega
      have he : fex a0 = 2047 ∧ ffr a0 = 0 := by
        unfold fcls at c
        split at c
        · rename_i h2
          split at c
          · rename_i h3; exact ⟨h2, h3⟩
          · omega
        · split at c <;> omega
      obtain ⟨e1, e2⟩ := he
      unfold fex ffr at *
      unfold rinf
      rw [hz]
      omega
    have hp := parse_inf (fneg a0)
    rw [hv] at hp
    exact ⟨_, number_inf h0 h1 c, text_inf h0 h1 c, by rw [e]; exact hp, by have := sg_len (fneg a0); rw [List.length_append]; simp only [List.length_cons, List.length_nil]; omega, (Hi.sg _).app (by intro c hc; revert c; decide)⟩
  · have e : cn a0 = a0 := if_neg (by omega)
    have hv : rzero (fneg a0) = a0 := by
      have hz : rzero (fneg a0) = a0 - a0 % 9223372036854775808 := by
        unfold fneg rzero
        by_cases c : 9223372036854775808 ≤ a0
        · rw [decide_eq_true c, if_pos rfl]; omega
        · rw [decide_eq_false c, if_neg (by decide)]; omega
      have he : fex a0 = 0 ∧ ffr a0 = 0 := by
        unfold fcls at c
        split at c
        · split at c <;> omega
        · split at c
          · assumption
          · omega
      obtain ⟨e1, e2⟩ := he
      unfold fex ffr at *
      rw [hz]
      omega
    have hp := parse_zero (fneg a0)
    rw [hv] at hp
    exact ⟨_, number_zero h0 h1 c, text_zero h0 h1 c, by rw [e]; exact hp, by have := sg_len (fneg a0); rw [List.length_append]; simp only [List.length_cons, List.length_nil]; omega, (Hi.sg _).app (by intro c hc; revert c; decide)⟩
  · have e : cn a0 = a0 := if_neg (by omega)
    have hf : fex a0 ≠ 2047 := fcls_fin.1 (by omega)
    have hm := fman_range a0
    have hx := fxp_range a0
    have hpos : 0 < fman a0 := by
      have ra := fex_range a0
      have rf := ffr_range a0
      unfold fcls at c
      rw [if_neg hf] at c
      unfold fman
      split at c
      · omega
      · rename_i h2
        split
        · rename_i h3
          have : ffr a0 ≠ 0 := fun h => h2 ⟨h3, h⟩
          omega
        · omega
    obtain ⟨t, m, ho⟩ := odd2_ex hpos
    obtain ⟨hn, ht, hM⟩ := number_fin h0 h1 c ho
    have hrnd : rnd (fneg a0) ((2 * m + 1 : Nat) : Int) (fxp a0 + t) 0 = (a0, 0) := by
      have hs := rnd_self h0 h1 hf hpos 0
      have hsh := rnd_shift (fneg a0) (W := ((2 * m + 1 : Nat) : Int)) (by omega) (fxp a0 + t) t 0
      rw [show fxp a0 + (t : Int) - (t : Int) = fxp a0 by omega] at hsh
      rw [← hsh, Int.mul_comm, ← ho]
      exact hs
    refine ⟨_, hn, text_fin h0 h1 c ho ht hM, by rw [e]; exact parse_fin hM (by omega) (by omega) hrnd, ?_, Hi.tx _ _ _⟩
    have l1 := sg_len (fneg a0)
    have l2 := nume_len (b := 16) (by omega) (2 * m + 1) (by omega)
    have l3 := (power_ev (x := fxp a0 + t) (by omega) (by omega)).2
    unfold tx
    simp only [List.length_append, List.length_cons, List.length_nil]
    omega
end Go.Proofs.YtpdjahhimmaonaaDoor.PE
end
section
namespace Go.Proofs.YtpdjahhimmaonaaDoor.PE
open Go.RowKit Go.Proofs.YtpdjahhimmaonaaDoorW.PrintWords Go.Proofs.YtpdjahhimmaonaaDoorW.PrintLast Go.Proofs.YtpdjahhimmaonaaDoorW.PrintMore Go.Proofs.YtpdjahhimmaonaaDoor.Num Go.Proofs.YtpdjahhimmaonaaDoor.Flt
set_option linter.unusedVariables false
set_option linter.unusedSimpArgs false
def Txs : List Int → List (List UInt8) → Prop
  | [], [] => True
  | a :: l, t :: ts => Tx a t ∧ Txs l ts
  | _, _ => False
theorem txs_any : ∀ (l : List Int), (∀ a ∈ l, 0 ≤ a ∧ a < 18446744073709551616) → ∃ ts, Txs l ts
  | [], _ => ⟨[], trivial⟩
  | a :: l, h => by
    obtain ⟨t, ht⟩ := tx_any (h a (List.mem_cons_self ..)).1 (h a (List.mem_cons_self ..)).2
    obtain ⟨ts, hts⟩ := txs_any l (fun x hx => h x (List.mem_cons_of_mem _ hx))
    exact ⟨t :: ts, ht, hts⟩
def cat (c : Nat) : Nat → List (List UInt8) → List UInt8
  | _, [] => []
  | i, t :: ts => t ++ (if i % c = c - 1 then 10 else 32) :: cat c (i + 1) ts
theorem rd_at (p q : List Int) (a : Int) : rd (p ++ a :: q) (p.length : Int) = a := by
  unfold rd
  rw [Int.toNat_natCast, List.getD_eq_getElem?_getD, List.getElem?_append_right (Nat.le_refl _), Nat.sub_self]
  rfl
theorem matrix_loop {c : Nat} (hc : 0 < c) (hc' : c ≤ 1000000) : ∀ (q : List Int) (ts : List (List UInt8)) (p : List Int) (s : List UInt8), Txs q ts → (p ++ q).length ≤ 100000 → s.length ≤ 201 * p.length →
    Ev (fun k => dump_Matrix.l0 k (c : Int) (p ++ q) s (p.length : Int)) (s ++ cat c p.length ts)
  | [], [], p, s, _, _, _ => by
    refine Ev.step (f := fun _ => some (s ++ cat c p.length [])) (fun k => ?_) (Ev.now _)
    rw [dump_Matrix.l0, if_neg (by rw [List.append_nil]; omega)]
    show some s = some (s ++ [])
    rw [List.append_nil]
  | a :: q, t :: ts, p, s, ht, hlen, hs => by
    have hr := rd_at p q a
    rw [List.length_append, List.length_cons] at hlen
    have hl := ht.1.len
    have c1 : (p.length : Int) < ((p ++ a :: q).length : Int) := by rw [List.length_append, List.length_cons]; omega
    have c2 : (0 : Int) ≤ (p.length : Int) := by omega
    have c3 : s.length + (bs t).size ≤ 100000000 := by rw [bs_size]; omega
    have c4 : ¬ (c : Int) = 0 := by omega
    have hm : Int.tmod (p.length : Int) (c : Int) = ((p.length % c : Nat) : Int) := nat_tmod _ _
    have hw : wrap64 ((c : Int) - 1) = ((c - 1 : Nat) : Int) := (w64 (by omega) (by omega)).trans (by omega)
    have hi : wrap64 ((p.length : Int) + 1) = ((p ++ [a]).length : Int) := (w64 (by omega) (by omega)).trans (by rw [List.length_append]; rfl)
    have hlen2 : ((p ++ [a]) ++ q).length ≤ 100000 := by simp only [List.length_append, List.length_cons, List.length_nil]; omega
    have el : p ++ a :: q = (p ++ [a]) ++ q := by simp
    have en : p.length + 1 = (p ++ [a]).length := by simp
    apply Ev.step
    · intro k
      rw [dump_Matrix.l0, if_pos c1, if_pos c2, hr]
    refine Ev.bind ht.1.num ?_
    refine Ev.congr (fun k => (if_pos c3).trans (if_neg c4)) ?_
    rw [hm, hw, hi]
    unfold cat
    by_cases h : p.length % c = c - 1
    · refine Ev.congr (fun k => if_pos (by rw [h])) ?_
      rw [if_pos h, en, el]
      have := matrix_loop hc hc' q ts (p ++ [a]) (s ++ t ++ [10]) ht.2 hlen2 (by simp only [List.length_append, List.length_cons, List.length_nil]; omega)
      have e : (s ++ t ++ [10]) ++ cat c (p ++ [a]).length ts = s ++ (t ++ 10 :: cat c (p ++ [a]).length ts) := by simp
      rw [e] at this
      exact this
    · refine Ev.congr (fun k => if_neg (by omega)) ?_
      rw [if_neg h, en, el]
      have := matrix_loop hc hc' q ts (p ++ [a]) (s ++ t ++ [32]) ht.2 hlen2 (by simp only [List.length_append, List.length_cons, List.length_nil]; omega)
      have e : (s ++ t ++ [32]) ++ cat c (p ++ [a]).length ts = s ++ (t ++ 32 :: cat c (p ++ [a]).length ts) := by simp
      rw [e] at this
      exact this
end Go.Proofs.YtpdjahhimmaonaaDoor.PE
end
