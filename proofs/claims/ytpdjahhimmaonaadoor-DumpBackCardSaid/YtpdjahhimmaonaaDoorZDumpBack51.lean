/- Matrices come back from their texts, NaNs as the one that is told, and texts from their matrices: for all matrices and texts. -/
import Derived.Test.YtpdjahhimmaonaaDoorZDumpBack34
import Derived.Test.YtpdjahhimmaonaaDoorZDumpBack50
namespace Go.Proofs.YtpdjahhimmaonaaDoor.Pure
open Go.RowKit Go.Proofs.YtpdjahhimmaonaaDoor.PE Go.Proofs.YtpdjahhimmaonaaDoorW.PrintWords Go.Proofs.YtpdjahhimmaonaaDoorW.PrintLast Go.Proofs.YtpdjahhimmaonaaDoorW.PrintMore Go.Proofs.YtpdjahhimmaonaaDoor.Num Go.Proofs.YtpdjahhimmaonaaDoor.Flt
set_option linter.unusedVariables false
theorem aliveB_ev : Ev (fun k => vernierlaw40_alive.f k) true := by
  have h1 := (number_fin (a := 4613937818241073152) (by decide) (by decide) (by decide) (t := 51) (m := 1) (by unfold odd2; decide)).1
  have h2 := (number_fin (a := 4602678819172646912) (by decide) (by decide) (by decide) (t := 52) (m := 0) (by unfold odd2; decide)).1
  have n3 : nume 16 3 = [51] := by unfold nume; rw [dl_low (by decide)]; rfl
  have n1 : nume 16 1 = [49] := by unfold nume; rw [dl_low (by decide)]; rfl
  have m0 : nume 10 0 = [48] := by unfold nume; rw [dl_low (by decide)]; rfl
  have m1 : nume 10 1 = [49] := by unfold nume; rw [dl_low (by decide)]; rfl
  have e1 : tx (fneg 4613937818241073152) (2 * 1 + 1) (fxp 4613937818241073152 + ((51 : Nat) : Int)) = [51, 112, 48] := by
    rw [show fneg 4613937818241073152 = false by decide, show fxp 4613937818241073152 + ((51 : Nat) : Int) = 0 by decide]
    unfold tx pw
    rw [if_neg (by decide), show (0 : Int).toNat = 0 from rfl, m0, show 2 * 1 + 1 = 3 from rfl, n3]
    rfl
  have e2 : tx (fneg 4602678819172646912) (2 * 0 + 1) (fxp 4602678819172646912 + ((52 : Nat) : Int)) = [49, 112, 45, 49] := by
    rw [show fneg 4602678819172646912 = false by decide, show fxp 4602678819172646912 + ((52 : Nat) : Int) = -1 by decide]
    unfold tx pw
    rw [if_pos (by decide), show (-(-1) : Int).toNat = 1 from rfl, m1, show 2 * 0 + 1 = 1 from rfl, n1]
    rfl
  rw [e1] at h1
  rw [e2] at h2
  unfold vernierlaw40_alive.f
  refine Ev.bind h1 (Ev.congr (fun k => if_pos (bs_toList _)) (Ev.bind h2 ?_))
  rw [bs_toList]
  exact Ev.now _
theorem back_text (s : List UInt8) : Ev (fun k => vernierlaw40_DumpBack.j3 k (bs s)) true := by
  obtain ⟨R, C, D, e, hr, h0, h1⟩ := read_any s
  apply Ev.step
  · intro k
    rw [vernierlaw40_DumpBack.j3]
  refine Ev.bind hr ?_
  by_cases c : e = 0
  · subst c
    obtain ⟨hS, ts, ht, hs, hl⟩ := h0 rfl
    have hm := matrix_ev hS ht
    rw [← hs, if_neg (by omega)] at hm
    refine Ev.congr (fun k => if_pos rfl) (Ev.bind hm (Ev.congr (fun k => if_pos rfl) ?_))
    rw [show ((bs s).toList == (bs s).toList) = true from beq_self_eq_true _]
    exact Ev.now _
  · obtain ⟨h2, rfl⟩ := h1 c
    rcases h2 with rfl | rfl
    · exact Ev.congr (fun k => (if_neg c).trans (if_pos rfl)) (Ev.now _)
    · exact Ev.congr (fun k => ((if_neg c).trans (if_neg (show ¬ (5 : Int) = 33 by decide))).trans (if_pos rfl)) (Ev.now _)
theorem want_loop {c : Nat} (hc : 0 < c) (hc' : c ≤ 1000000) {S x5 : ByteArray} {x6 R : Int} {r : Bool} : ∀ (q : List Int) (ts : List (List UInt8)) (p : List Int) (s : List UInt8), Txs q ts → (p ++ q).length ≤ 100000 → s.length ≤ 201 * p.length →
    Ev (fun k => vernierlaw40_DumpBack.l0 k S x5 x6 (bs (s ++ cat c p.length ts)) ((p ++ q).length : Int) R (c : Int) (p ++ q)) r →
    Ev (fun k => vernierlaw40_DumpBack.l0 k S x5 x6 (bs s) (p.length : Int) R (c : Int) (p ++ q)) r
  | [], [], p, s, _, _, _, h => by
    have e : s ++ cat c p.length [] = s := List.append_nil s
    have e2 : (p ++ ([] : List Int)).length = p.length := by rw [List.append_nil]
    rw [e, e2] at h
    exact h
  | a :: q, t :: ts, p, s, ht, hlen, hs, h => by
    have hr := rd_at p q a
    rw [List.length_append, List.length_cons] at hlen
    have hl := ht.1.len
    have c1 : (p.length : Int) < ((p ++ a :: q).length : Int) := by rw [List.length_append, List.length_cons]; omega
    have c2 : (0 : Int) ≤ (p.length : Int) := by omega
    have c3 : (bs s).size + (bs t).size ≤ 9223372036854775807 := by rw [bs_size, bs_size]; omega
    have c4 : ¬ (c : Int) = 0 := by omega
    have c5 : (bs s ++ bs t).size + 1 ≤ 9223372036854775807 := by rw [bs_app, bs_size, List.length_append]; omega
    have hm : Int.tmod (p.length : Int) (c : Int) = ((p.length % c : Nat) : Int) := nat_tmod _ _
    have hw : wrap64 ((c : Int) - 1) = ((c - 1 : Nat) : Int) := (w64 (by omega) (by omega)).trans (by omega)
    have hi : wrap64 ((p.length : Int) + 1) = ((p ++ [a]).length : Int) := (w64 (by omega) (by omega)).trans (by rw [List.length_append]; rfl)
    have hlen2 : ((p ++ [a]) ++ q).length ≤ 100000 := by simp only [List.length_append, List.length_cons, List.length_nil]; omega
    have el : p ++ a :: q = (p ++ [a]) ++ q := by simp
    have en : p.length + 1 = (p ++ [a]).length := by simp
    apply Ev.step
    · intro k
      rw [vernierlaw40_DumpBack.l0, if_pos c1, if_pos c2, hr]
    refine Ev.bind ht.1.text ?_
    refine Ev.congr (fun k => (if_pos c3).trans (if_neg c4)) ?_
    rw [hm, hw, hi]
    unfold cat at h
    by_cases hh : p.length % c = c - 1
    · refine Ev.congr (fun k => (if_pos (by rw [hh])).trans (if_pos c5)) ?_
      rw [if_pos hh, en, el] at h
      have e : (s ++ t ++ [10]) ++ cat c (p ++ [a]).length ts = s ++ (t ++ 10 :: cat c (p ++ [a]).length ts) := by simp
      rw [← e] at h
      have eb : (bs s ++ bs t) ++ (⟨#[10]⟩ : ByteArray) = bs (s ++ t ++ [10]) := by rw [bs_app]; exact bs_app (s ++ t) [10]
      rw [eb, el]
      exact want_loop hc hc' q ts (p ++ [a]) (s ++ t ++ [10]) ht.2 hlen2 (by simp only [List.length_append, List.length_cons, List.length_nil]; omega) h
    · refine Ev.congr (fun k => (if_neg (by omega)).trans (if_pos c5)) ?_
      rw [if_neg hh, en, el] at h
      have e : (s ++ t ++ [32]) ++ cat c (p ++ [a]).length ts = s ++ (t ++ 32 :: cat c (p ++ [a]).length ts) := by simp
      rw [← e] at h
      have eb : (bs s ++ bs t) ++ (⟨#[32]⟩ : ByteArray) = bs (s ++ t ++ [32]) := by rw [bs_app]; exact bs_app (s ++ t) [32]
      rw [eb, el]
      exact want_loop hc hc' q ts (p ++ [a]) (s ++ t ++ [32]) ht.2 hlen2 (by simp only [List.length_append, List.length_cons, List.length_nil]; omega) h
theorem rd_map (p q : List Int) (a : Int) : rd ((p ++ a :: q).map cn) (p.length : Int) = cn a := by
  have := rd_at (p.map cn) (q.map cn) (cn a)
  rw [List.length_map] at this
  rw [List.map_append, List.map_cons]
  exact this
theorem back_loop {S : ByteArray} {R C R' C' : Int} {r : Bool} (hj : Ev (fun k => vernierlaw40_DumpBack.j3 k S) r) : ∀ (q p : List Int), (∀ a ∈ q, 0 ≤ a ∧ a < 18446744073709551616) → (p ++ q).length ≤ 100000 →
    Ev (fun k => vernierlaw40_DumpBack.l1 k S (p.length : Int) R C (p ++ q) R' C' ((p ++ q).map cn)) r
  | [], p, _, hlen => by
    apply Ev.step
    · intro k
      rw [vernierlaw40_DumpBack.l1, if_neg (by rw [List.append_nil]; omega)]
    exact hj
  | a :: q, p, ha, hlen => by
    obtain ⟨h0, h1⟩ := ha a (List.mem_cons_self ..)
    have hr := rd_at p q a
    have hr2 := rd_map p q a
    have hL : ((p ++ a :: q).map cn).length = (p ++ a :: q).length := List.length_map ..
    rw [List.length_append, List.length_cons] at hlen
    have c1 : (p.length : Int) < ((p ++ a :: q).length : Int) := by rw [List.length_append, List.length_cons]; omega
    have c2 : (0 : Int) ≤ (p.length : Int) := by omega
    have hi : wrap64 ((p.length : Int) + 1) = ((p ++ [a]).length : Int) := (w64 (by omega) (by omega)).trans (by rw [List.length_append]; rfl)
    have hlen2 : ((p ++ [a]) ++ q).length ≤ 100000 := by simp only [List.length_append, List.length_cons, List.length_nil]; omega
    have el : p ++ a :: q = (p ++ [a]) ++ q := by simp
    have ih : Ev (fun k => vernierlaw40_DumpBack.l1 k S (wrap64 ((p.length : Int) + 1)) R C (p ++ a :: q) R' C' ((p ++ a :: q).map cn)) r := by
      rw [hi, el]
      exact back_loop hj q (p ++ [a]) (fun x hx => ha x (List.mem_cons_of_mem _ hx)) hlen2
    apply Ev.step
    · intro k
      rw [vernierlaw40_DumpBack.l1, if_pos c1, if_pos c2, if_pos (by rw [hL]; exact c1), hr, hr2]
    by_cases c : cn a = a
    · exact Ev.congr (fun k => if_pos c) ih
    · have h3 : fcls a = 3 := by
        by_cases h : fcls a = 3
        · exact h
        · exact absurd (if_neg h) c
      have hcn : cn a = 9221120237041090560 := if_pos h3
      refine Ev.congr (fun k => if_neg c) (Ev.bind (rclass_ev h0 h1) ?_)
      rw [h3, hcn]
      exact Ev.congr (fun k => (if_pos rfl).trans (if_pos rfl)) ih
theorem DumpBack (a0_0 a0_1 : Int) (l0_2 : List Int) (a1 : ByteArray) (w0 : (Lit.int .i64 a0_0).wf = true) (w1 : (Lit.int .i64 a0_1).wf = true) (y2 : l0_2.length * 8 ≤ 140737488351232) (w2 : ∀ n ∈ l0_2, (Lit.int .u64 n).wf = true) : ∃ k, vernierlaw40_DumpBack.f k a0_0 a0_1 l0_2 a1 = some true := by
  refine Ev.rounds ?_
  obtain ⟨s, rfl⟩ : ∃ s, a1 = bs s := ⟨a1.data.toList, rfl⟩
  have hj := back_text s
  have hr : ∀ a ∈ l0_2, 0 ≤ a ∧ a < 18446744073709551616 := fun a ha => u64_of_wf (w2 a ha)
  unfold vernierlaw40_DumpBack.f
  refine Ev.bind aliveB_ev (Ev.congr (fun k => if_pos rfl) ?_)
  by_cases hS : Sh a0_0 a0_1 l0_2
  case neg =>
    refine Ev.bind (matrix_none hS) ?_
    refine Ev.congr (fun k => ?_) hj
    rw [shape_ev, if_neg hS, Option.bind_some]
    refine (if_neg (by decide)).trans ((if_pos rfl).trans (if_pos ?_))
    exact bs_toList []
  obtain ⟨ts, ht⟩ := txs_any l0_2 hr
  refine Ev.bind (matrix_ev hS ht) ?_
  refine Ev.congr (fun k => by rw [shape_ev, if_pos hS, Option.bind_some, if_pos rfl]) ?_
  have hb := read_back hS ht
  have hm := mul_small hS.1.1 hS.1.2 hS.2.1.1 hS.2.1.2
  have hD := hS.2.2
  obtain ⟨C, rfl⟩ : ∃ n : Nat, a0_1 = n := ⟨a0_1.toNat, by have := hS.2.1.1; omega⟩
  rw [Int.toNat_natCast] at *
  have hC0 := hS.2.1.1
  have hC1 := hS.2.1.2
  generalize hT : cat C 0 ts = T at *
  have hw := fun (x5 : ByteArray) (x6 : Int) (r : Bool) => want_loop (c := C) (by omega) (by omega) (S := bs s) (x5 := x5) (x6 := x6) (R := a0_0) (r := r) l0_2 ts [] [] ht (by rw [List.nil_append]; omega) (Nat.le_refl _)
  simp only [List.nil_append, List.length_nil] at hw
  rw [hT] at hw
  refine hw _ _ _ ?_
  apply Ev.step
  · intro k
    rw [vernierlaw40_DumpBack.l0, if_neg (by omega)]
  by_cases c : (T.length : Int) > 65536
  · rw [if_pos c]
    refine Ev.congr (fun k => (if_pos (by rw [bs_size]; exact c)).trans (if_pos rfl)) ?_
    rw [show ((bs []).toList == ([] : List UInt8)) = true by rw [bs_toList]; rfl]
    exact Ev.now _
  · rw [if_neg c]
    refine Ev.congr (fun k => if_neg (by rw [bs_size]; exact c)) (Ev.bind (hb (by omega)) ?_)
    refine Ev.congr (fun k => (if_pos rfl).trans ((if_pos rfl).trans ((if_pos rfl).trans (if_pos rfl)))) ?_
    apply Ev.step
    · intro k
      rw [vernierlaw40_DumpBack.j1, if_neg (show ¬ (((C : Int) != (C : Int)) = true) by simp)]
    have := back_loop (R := a0_0) (C := (C : Int)) (R' := a0_0) (C' := (C : Int)) hj l0_2 [] hr (by rw [List.nil_append]; omega)
    rw [List.nil_append] at this
    exact this
end Go.Proofs.YtpdjahhimmaonaaDoor.Pure
