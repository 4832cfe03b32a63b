/- A line's numbers, and the matrix of lines: what dump.row and dump.Read tell of texts, piece by piece. -/
import Derived.Test.YtpdjahhimmaonaaDoorZDumpBack33
import Derived.Test.YtpdjahhimmaonaaDoorZDumpBack48
namespace Go.Proofs.YtpdjahhimmaonaaDoor.PE
open Go.RowKit Go.Proofs.YtpdjahhimmaonaaDoorW.PrintWords Go.Proofs.YtpdjahhimmaonaaDoorW.PrintLast Go.Proofs.YtpdjahhimmaonaaDoorW.PrintMore Go.Proofs.YtpdjahhimmaonaaDoor.Num Go.Proofs.YtpdjahhimmaonaaDoor.Flt
set_option linter.unusedVariables false
set_option linter.unusedSimpArgs false
theorem Ev.one {α : Type} {g : Nat → Option α} {r s : α} (h : Ev g r) (h' : Ev g s) : r = s := by
  obtain ⟨K, hK⟩ := h
  obtain ⟨L, hL⟩ := h'
  exact Option.some.inj ((hK (max K L) (Nat.le_max_left _ _)).symm.trans (hL (max K L) (Nat.le_max_right _ _)))
theorem bs_inj {a b : List UInt8} (h : bs a = bs b) : a = b := congrArg (fun x => x.data.toList) h
theorem told_tx {a : Int} {l : List UInt8} (h : Told a l) : Tx a l := by
  obtain ⟨l', hl⟩ := tx_any h.1 h.2.1
  have := bs_inj (Ev.one h.2.2 hl.num)
  subst this
  exact hl
def F2 {α β : Type} (P : α → β → Prop) : List α → List β → Prop
  | [], [] => True
  | a :: l, b :: m => P a b ∧ F2 P l m
  | _, _ => False
theorem f2_ex {α β : Type} {P : α → β → Prop} : ∀ l : List α, (∀ a ∈ l, ∃ b, P a b) → ∃ m, F2 P l m
  | [], _ => ⟨[], trivial⟩
  | a :: l, h => by
    obtain ⟨b, hb⟩ := h a (List.mem_cons_self ..)
    obtain ⟨m, hm⟩ := f2_ex l (fun x hx => h x (List.mem_cons_of_mem _ hx))
    exact ⟨b :: m, hb, hm⟩
theorem F2.imp {α β : Type} {P Q : α → β → Prop} (hPQ : ∀ a b, P a b → Q a b) : ∀ {l : List α} {m : List β}, F2 P l m → F2 Q l m
  | [], [], _ => trivial
  | _ :: _, _ :: _, h => ⟨hPQ _ _ h.1, F2.imp hPQ h.2⟩
theorem sp_mem_len (c : UInt8) : ∀ l, ∀ a ∈ sp c l, a.length ≤ l.length
  | [], a, h => by
    rw [show sp c [] = [[]] from rfl, List.mem_singleton] at h
    subst h
    exact Nat.le_refl _
  | x :: l, a, h => by
    have ih := sp_mem_len c l
    obtain ⟨u, t, e⟩ := sp_ne c l
    rw [e] at ih
    unfold sp at h
    split at h
    · rw [e] at h
      rcases List.mem_cons.1 h with rfl | h
      · simp
      · have := ih a h
        simp only [List.length_cons]; omega
    · rw [e] at h
      rcases List.mem_cons.1 h with rfl | h
      · have := ih u (List.mem_cons_self ..)
        simp only [List.length_cons, List.headD_cons]; omega
      · have := ih a (List.mem_cons_of_mem _ h)
        simp only [List.length_cons]; omega
def rres : List (Int × Int) → List Int → List Int × Bool
  | [], o => (o, true)
  | r :: rs, o => if r.2 = 0 then rres rs (o ++ [r.1]) else ([], false)
theorem getD_at {α : Type} (d : α) (p q : List α) (a : α) : (p ++ a :: q).getD p.length d = a := by
  rw [List.getD_eq_getElem?_getD, List.getElem?_append_right (Nat.le_refl _), Nat.sub_self]
  rfl
theorem row_loop : ∀ (q : List (List UInt8)) (rs : List (Int × Int)) (p : List (List UInt8)) (o : List Int), F2 (fun l r => Ev (fun k => dump_Parse.f k (bs l)) r) q rs → (p ++ q).length ≤ 1000000 → o.length ≤ p.length →
    Ev (fun k => dump_row.l0 k (p ++ q) o (p.length : Int)) (rres rs o)
  | [], [], p, o, _, _, _ => by
    refine Ev.step (f := fun _ => some (o, true)) (fun k => ?_) (Ev.now _)
    rw [dump_row.l0, if_neg (by rw [List.append_nil]; omega)]
  | a :: q, r :: rs, p, o, h, hlen, ho => by
    have hr := getD_at [] p q a
    rw [List.length_append, List.length_cons] at hlen
    have c1 : (p.length : Int) < ((p ++ a :: q).length : Int) := by rw [List.length_append, List.length_cons]; omega
    have c2 : (0 : Int) ≤ (p.length : Int) := by omega
    have c3 : o.length < 100000000 := by omega
    have hi : wrap64 ((p.length : Int) + 1) = ((p ++ [a]).length : Int) := (w64 (by omega) (by omega)).trans (by rw [List.length_append]; rfl)
    have hlen2 : ((p ++ [a]) ++ q).length ≤ 1000000 := by simp only [List.length_append, List.length_cons, List.length_nil]; omega
    have el : p ++ a :: q = (p ++ [a]) ++ q := by simp
    apply Ev.step
    · intro k
      rw [dump_row.l0, if_pos c1, if_pos c2, Int.toNat_natCast, hr]
    refine Ev.bind h.1 ?_
    unfold rres
    by_cases c : r.2 = 0
    · refine Ev.congr (fun k => (if_pos c).trans (if_pos c3)) ?_
      rw [if_pos c, hi, el]
      exact row_loop q rs (p ++ [a]) (o ++ [r.1]) h.2 hlen2 (by simp only [List.length_append, List.length_cons, List.length_nil]; omega)
    · rw [if_neg c]
      exact Ev.congr (fun k => if_neg c) (Ev.now _)
theorem rres_any : ∀ (rs : List (Int × Int)) (o : List Int), ((rres rs o).2 = true → (rres rs o).1 = o ++ rs.map (·.1) ∧ ∀ r ∈ rs, r.2 = 0) ∧ ((rres rs o).2 = false → (rres rs o).1 = [])
  | [], o => ⟨fun _ => ⟨by unfold rres; simp, fun _ h => by simp at h⟩, fun h => by unfold rres at h; simp at h⟩
  | r :: rs, o => by
    have ih := rres_any rs (o ++ [r.1])
    unfold rres
    by_cases c : r.2 = 0
    · rw [if_pos c]
      refine ⟨fun h => ?_, ih.2⟩
      obtain ⟨h1, h2⟩ := ih.1 h
      refine ⟨by rw [h1]; simp, fun x hx => ?_⟩
      rcases List.mem_cons.1 hx with rfl | hx
      · exact c
      · exact h2 x hx
    · rw [if_neg c]
      exact ⟨fun h => by simp at h, fun _ => rfl⟩
theorem rres_ok : ∀ (rs : List (Int × Int)) (o : List Int), (∀ r ∈ rs, r.2 = 0) → rres rs o = (o ++ rs.map (·.1), true)
  | [], o, _ => by unfold rres; simp
  | r :: rs, o, h => by
    unfold rres
    rw [if_pos (h r (List.mem_cons_self ..)), rres_ok rs _ (fun x hx => h x (List.mem_cons_of_mem _ hx))]
    simp
theorem row_ev (l : List UInt8) (hl : l.length ≤ 70000) (rs : List (Int × Int)) (h : F2 (fun l r => Ev (fun k => dump_Parse.f k (bs l)) r) (sp 32 l) rs) : Ev (fun k => dump_row.f k (bs l)) (rres rs []) := by
  have hn := sp_len 32 l
  have := row_loop (sp 32 l) rs [] [] h (by rw [List.nil_append]; omega) (Nat.le_refl _)
  refine Ev.congr (fun k => ?_) this
  unfold dump_row.f
  rw [if_pos (by rw [bs_size]; omega), bs_data]
  rfl
theorem txs_parse : ∀ (l : List Int) (ts : List (List UInt8)), Txs l ts → F2 (fun t r => Ev (fun k => dump_Parse.f k (bs t)) r) ts (l.map fun a => (cn a, 0))
  | [], [], _ => trivial
  | a :: l, t :: ts, h => ⟨h.1.parse, txs_parse l ts h.2⟩
theorem txs_hi : ∀ (l : List Int) (ts : List (List UInt8)), Txs l ts → ∀ t ∈ ts, Hi t
  | [], [], _, t, h => by simp at h
  | a :: l, t :: ts, h, x, hx => by
    rcases List.mem_cons.1 hx with rfl | hx
    · exact h.1.hi
    · exact txs_hi l ts h.2 x hx
theorem row_fwd {l : List Int} {ts : List (List UInt8)} (h : Txs l ts) (hne : ts ≠ []) (hl : (jn 32 ts).length ≤ 70000) : Ev (fun k => dump_row.f k (bs (jn 32 ts))) (l.map cn, true) := by
  have hs : sp 32 (jn 32 ts) = ts := sp_jn 32 ts hne (fun t ht => (txs_hi l ts h t ht).no (by decide))
  have := row_ev (jn 32 ts) hl (l.map fun a => (cn a, 0)) (by rw [hs]; exact txs_parse l ts h)
  rw [rres_ok _ _ (by intro r hr; rw [List.mem_map] at hr; obtain ⟨a, _, rfl⟩ := hr; rfl)] at this
  rw [List.nil_append, List.map_map] at this
  exact this
theorem txs_told : ∀ (ts : List (List UInt8)) (rs : List (Int × Int)), F2 (fun t r => Ev (fun k => dump_Parse.f k (bs t)) r ∧ (r.2 = 0 → Told r.1 t)) ts rs → (∀ r ∈ rs, r.2 = 0) → Txs (rs.map (·.1)) ts
  | [], [], _, _ => trivial
  | t :: ts, r :: rs, h, h0 => ⟨told_tx (h.1.2 (h0 r (List.mem_cons_self ..))), txs_told ts rs h.2 (fun x hx => h0 x (List.mem_cons_of_mem _ hx))⟩
theorem txs_len : ∀ (l : List Int) (ts : List (List UInt8)), Txs l ts → l.length = ts.length
  | [], [], _ => rfl
  | a :: l, t :: ts, h => congrArg (· + 1) (txs_len l ts h.2)
theorem row_any (l : List UInt8) (hl : l.length ≤ 70000) : ∃ r : List Int × Bool, Ev (fun k => dump_row.f k (bs l)) r ∧ (r.2 = true → Txs r.1 (sp 32 l)) ∧ r.1.length ≤ 70001 := by
  obtain ⟨rs, hrs⟩ := f2_ex (P := fun t (r : Int × Int) => Ev (fun k => dump_Parse.f k (bs t)) r ∧ (r.2 = 0 → Told r.1 t)) (sp 32 l) (fun t ht => by
    obtain ⟨a, e, h1, h2, _⟩ := parse_any t (by have := sp_mem_len 32 l t ht; omega)
    exact ⟨(a, e), h1, h2⟩)
  have hn := sp_len 32 l
  have ha := rres_any rs []
  have hT : (rres rs []).2 = true → Txs (rres rs []).1 (sp 32 l) := fun h => by
    obtain ⟨h1, h2⟩ := ha.1 h
    rw [h1, List.nil_append]
    exact txs_told _ _ hrs h2
  refine ⟨_, row_ev l hl rs (hrs.imp fun _ _ h => h.1), hT, ?_⟩
  cases hb : (rres rs []).2 with
  | true =>
    rw [txs_len _ _ (hT hb)]
    omega
  | false =>
    rw [ha.2 hb]
    exact Nat.zero_le _
def Sh (R C : Int) (D : List Int) : Prop := (1 ≤ R ∧ R ≤ 64) ∧ (1 ≤ C ∧ C ≤ 64) ∧ (D.length : Int) = R * C
instance (R C : Int) (D : List Int) : Decidable (Sh R C D) := by unfold Sh; infer_instance
theorem side_ev (R : Int) : shape_side.f R = some (decide (1 ≤ R ∧ R ≤ 64)) := by
  unfold shape_side.f
  by_cases c : R ≥ 1
  · rw [if_pos c]
    congr 1
    exact decide_eq_decide.2 ⟨fun h => ⟨c, h⟩, fun h => h.2⟩
  · rw [if_neg c, decide_eq_false (by omega)]
theorem mul_small {R C : Int} (h0 : 1 ≤ R) (h1 : R ≤ 64) (h2 : 1 ≤ C) (h3 : C ≤ 64) : 1 ≤ R * C ∧ R * C ≤ 4096 := by
  have a := Int.mul_le_mul h1 h3 (by omega) (by omega)
  have b := Int.mul_le_mul h0 h2 (by omega) (by omega)
  omega
theorem shape_ev (R C : Int) (D : List Int) : shape_Check.f R C D = some (if Sh R C D then 0 else 11) := by
  unfold shape_Check.f
  rw [side_ev, side_ev]
  by_cases c : 1 ≤ R ∧ R ≤ 64
  · by_cases c' : 1 ≤ C ∧ C ≤ 64
    · have hm := mul_small c.1 c.2 c'.1 c'.2
      have hw : wrap64 (R * C) = R * C := w64 (by omega) (by omega)
      rw [decide_eq_true c, decide_eq_true c', hw]
      by_cases c2 : (D.length : Int) = R * C
      · rw [if_pos (show Sh R C D from ⟨c, c', c2⟩)]
        rw [Option.bind_some, if_pos rfl, Option.bind_some, if_pos rfl, if_pos c2]
      · rw [if_neg (show ¬ Sh R C D from fun h => c2 h.2.2)]
        rw [Option.bind_some, if_pos rfl, Option.bind_some, if_pos rfl, if_neg c2]
    · rw [decide_eq_true c, decide_eq_false c', if_neg (show ¬ Sh R C D from fun h => c' h.2.1)]
      rfl
  · rw [decide_eq_false c, if_neg (show ¬ Sh R C D from fun h => c h.1)]
    rfl
def rds : List (List Int × Bool) → Nat → Nat → List Int → Int × Int × List Int × Int
  | [], R, C, D => if Sh R C D then (R, C, D, 0) else (0, 0, [], 33)
  | x :: rs, R, C, D => if x.2 = true ∧ (R = 0 ∨ x.1.length = C) then rds rs (R + 1) x.1.length (D ++ x.1) else (0, 0, [], 33)
theorem map_at (p q : List (List UInt8)) (a : List UInt8) : rdOf ByteArray.empty ((p ++ a :: q).map bs) (p.length : Int) = bs a := by
  unfold rdOf
  rw [Int.toNat_natCast, List.map_append, List.map_cons]
  have := getD_at ByteArray.empty (p.map bs) (q.map bs) (bs a)
  rw [List.length_map] at this
  exact this
theorem read_loop : ∀ (q : List (List UInt8)) (rs : List (List Int × Bool)) (p : List (List UInt8)) (R C : Nat) (D : List Int), F2 (fun l r => Ev (fun k => dump_row.f k (bs l)) r ∧ r.1.length ≤ 70001) q rs → (p ++ q).length ≤ 70001 → R ≤ p.length → D.length ≤ 70001 * p.length →
    Ev (fun k => dump_Read.l0 k ((p ++ q).map bs) ((p ++ q).length : Int) (p.length : Int) (R : Int) (C : Int) D) (rds rs R C D)
  | [], [], p, R, C, D, _, hlen, hR, hD => by
    apply Ev.step
    · intro k
      rw [dump_Read.l0, if_neg (by rw [List.append_nil]; omega), shape_ev, Option.bind_some]
    unfold rds
    by_cases c : Sh R C D
    · rw [if_pos c, if_pos c]
      exact Ev.congr (fun k => if_pos rfl) (Ev.now _)
    · rw [if_neg c, if_neg c]
      exact Ev.congr (fun k => if_neg (by decide)) (Ev.now _)
  | a :: q, r :: rs, p, R, C, D, h, hlen, hR, hD => by
    have hr := map_at p q a
    have hL : ((p ++ a :: q).map bs).length = (p ++ a :: q).length := List.length_map ..
    rw [List.length_append, List.length_cons] at hlen
    have c1 : (p.length : Int) < ((p ++ a :: q).length : Int) := by rw [List.length_append, List.length_cons]; omega
    have c2 : (0 : Int) ≤ (p.length : Int) := by omega
    have hr1 := h.1.2
    have c3 : D.length + r.1.length < 17592186044416 := by omega
    have hi : wrap64 ((p.length : Int) + 1) = ((p ++ [a]).length : Int) := (w64 (by omega) (by omega)).trans (by rw [List.length_append]; rfl)
    have hR1 : wrap64 ((R : Int) + 1) = ((R + 1 : Nat) : Int) := (w64 (by omega) (by omega)).trans (by omega)
    have hlen2 : ((p ++ [a]) ++ q).length ≤ 70001 := by simp only [List.length_append, List.length_cons, List.length_nil]; omega
    have el : p ++ a :: q = (p ++ [a]) ++ q := by simp
    have hp1 : (p ++ [a]).length = p.length + 1 := by simp
    apply Ev.step
    · intro k
      rw [dump_Read.l0, if_pos c1, if_pos c2, if_pos (by rw [hL]; exact c1), hr]
    refine Ev.bind h.1.1 ?_
    unfold rds
    have hgo : Ev (fun k => dump_Read.l0 k ((p ++ a :: q).map bs) ((p ++ a :: q).length : Int) (wrap64 ((p.length : Int) + 1)) (wrap64 ((R : Int) + 1)) (r.1.length : Int) (D ++ r.1)) (rds rs (R + 1) r.1.length (D ++ r.1)) := by
      rw [hi, hR1, el]
      exact read_loop q rs (p ++ [a]) (R + 1) r.1.length (D ++ r.1) h.2 hlen2 (by omega) (by rw [List.length_append]; omega)
    by_cases c : r.2 = true
    · by_cases cR : R = 0
      · rw [if_pos ⟨c, .inl cR⟩]
        exact Ev.congr (fun k => ((if_pos c).trans (if_neg (by omega))).trans (if_pos c3)) hgo
      · by_cases cC : r.1.length = C
        · rw [if_pos ⟨c, .inr cC⟩]
          exact Ev.congr (fun k => (((if_pos c).trans (if_pos (by omega))).trans (if_pos (by omega))).trans (if_pos c3)) hgo
        · rw [if_neg (by omega)]
          exact Ev.congr (fun k => ((if_pos c).trans (if_pos (by omega))).trans (if_neg (by omega))) (Ev.now _)
    · rw [if_neg (fun h => c h.1)]
      exact Ev.congr (fun k => if_neg c) (Ev.now _)
theorem cutsuf (b : List UInt8) (c : UInt8) (hb : b.length < 1000000) : strings_CutSuffix.f (bs (b ++ [c])) ⟨#[10]⟩ = some (if c = 10 then (bs b, true) else (bs (b ++ [c]), false)) := by
  have hz : (bs (b ++ [c])).size = b.length + 1 := by rw [bs_size, List.length_append]; rfl
  have hw : wrap64 (((b.length + 1 : Nat) : Int) - (((⟨#[10]⟩ : ByteArray).size : Nat) : Int)) = (b.length : Int) := (w64 (by show _ ≤ _ - (1 : Int); omega) (by show _ - (1 : Int) ≤ _; omega)).trans (by show _ - (1 : Int) = _; omega)
  unfold strings_CutSuffix.f stringslite_CutSuffix.f stringslite_HasSuffix.f
  rw [hz, hw, if_pos (show ((b.length + 1 : Nat) : Int) ≥ (((⟨#[10]⟩ : ByteArray).size : Nat) : Int) by show _ ≥ (1 : Int); omega), if_pos (show (0 : Int) ≤ (b.length : Int) by omega), if_pos (show (b.length : Int) ≤ ((b.length + 1 : Nat) : Int) by omega), if_pos (show (0 : Int) ≤ (b.length : Int) by omega), if_pos (show (b.length : Int) ≤ ((b.length + 1 : Nat) : Int) by omega), Int.toNat_natCast, bs_extract, bs_extract, bs_toList]
  have e1 : ((b ++ [c]).take (b.length + 1)).drop b.length = [c] := by rw [List.take_of_length_le (by simp), List.drop_left]
  have e2 : ((b ++ [c]).take b.length).drop 0 = b := by rw [List.take_left]; rfl
  have e3 : (⟨#[10]⟩ : ByteArray).toList = [10] := bs_toList [10]
  rw [e1, e2, e3]
  by_cases h : c = 10
  · subst h
    rfl
  · rw [if_neg h]
    have : (([c] : List UInt8) == [10]) = false := by
      rw [beq_eq_false_iff_ne]
      intro e
      exact h (List.cons.inj e).1
    rw [this]
    rfl
theorem read_ends (b : List UInt8) (hb : b.length < 65536) (rs : List (List Int × Bool)) (h : F2 (fun l r => Ev (fun k => dump_row.f k (bs l)) r ∧ r.1.length ≤ 70001) (sp 10 b) rs) : Ev (fun k => dump_Read.f k (bs (b ++ [10]))) (rds rs 0 0 []) := by
  have hn := sp_len 10 b
  have := read_loop (sp 10 b) rs [] 0 0 [] h (by rw [List.nil_append]; omega) (Nat.le_refl _) (Nat.le_refl _)
  refine Ev.congr (fun k => ?_) this
  unfold dump_Read.f
  rw [if_neg (by rw [bs_size, List.length_append, List.length_singleton]; omega), cutsuf b 10 (by omega), if_pos rfl, Option.bind_some]
  refine (if_pos rfl).trans ?_
  have hs : strings_Split.f (bs b) ⟨#[10]⟩ = some ((sp 10 b).map bs) := by
    unfold strings_Split.f
    show (if (bs b).size < 4294967281 then some ((sp 10 (bs b).data.toList).map tb) else none) = _
    rw [if_pos (by rw [bs_size]; omega), bs_data]
    rfl
  rw [hs, Option.bind_some, List.length_map]
  rfl
theorem read_long (s : List UInt8) (h : 65536 < s.length) : Ev (fun k => dump_Read.f k (bs s)) (0, 0, [], 5) := by
  refine Ev.congr (fun k => ?_) (Ev.now _)
  unfold dump_Read.f
  rw [if_pos (by rw [bs_size]; omega)]
theorem read_open (s : List UInt8) (h : s.length ≤ 65536) (hs : ∀ b, s ≠ b ++ [10]) : Ev (fun k => dump_Read.f k (bs s)) (0, 0, [], 33) := by
  refine Ev.congr (fun k => ?_) (Ev.now _)
  unfold dump_Read.f
  rw [if_neg (by rw [bs_size]; omega)]
  rcases List.eq_nil_or_concat s with rfl | ⟨b, c, rfl⟩
  · rfl
  · rw [List.concat_eq_append] at *
    rw [cutsuf b c (by rw [List.length_append] at h; omega), if_neg (fun e => hs b (by rw [e])), Option.bind_some]
    exact if_neg (show ¬ (false = true) by decide)
end Go.Proofs.YtpdjahhimmaonaaDoor.PE
