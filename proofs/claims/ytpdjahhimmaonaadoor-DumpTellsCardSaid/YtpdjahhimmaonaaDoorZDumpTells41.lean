/- Any number's text is as the page says; it is parsed as that number: for all numbers. -/
import Derived.Test.YtpdjahhimmaonaaDoorZDumpTells40
namespace Go.Proofs.YtpdjahhimmaonaaDoor.Pure
open Go.RowKit Go.Proofs.YtpdjahhimmaonaaDoor.PD Go.Proofs.YtpdjahhimmaonaaDoorW.PrintWords Go.Proofs.YtpdjahhimmaonaaDoorW.PrintLast Go.Proofs.YtpdjahhimmaonaaDoorW.PrintMore Go.Proofs.YtpdjahhimmaonaaDoor.Num Go.Proofs.YtpdjahhimmaonaaDoor.Flt
set_option linter.unusedVariables false
theorem alive40_ev : Ev (fun k => vernierlaw40_alive.f k) true := by
  have h1 := (number_fin (a := 4613937818241073152) (by decide) (by decide) (by decide) (t := 51) (m := 1) (by unfold odd2; decide)).1
  have h2 := (number_fin (a := 4602678819172646912) (by decide) (by decide) (by decide) (t := 52) (m := 0) (by unfold odd2; decide)).1
  have n3 : nume 16 3 = [51] := by unfold nume; rw [dl_low (by decide)]; rfl
  have n1 : nume 16 1 = [49] := by unfold nume; rw [dl_low (by decide)]; rfl
  have m0 : nume 10 0 = [48] := by unfold nume; rw [dl_low (by decide)]; rfl
  have m1 : nume 10 1 = [49] := by unfold nume; rw [dl_low (by decide)]; rfl
  have e1 : tx (fneg 4613937818241073152) (2 * 1 + 1) (fxp 4613937818241073152 + ((51 : Nat) : Int)) = [51, 112, 48] := by
    rw [show fneg 4613937818241073152 = false by decide, show fxp 4613937818241073152 + ((51 : Nat) : Int) = 0 by decide]
    unfold tx pw
    rw [if_neg (by decide), show (0 : Int).toNat = 0 from rfl, m0, show 2 * 1 + 1 = 3 from rfl, n3]
    rfl
  have e2 : tx (fneg 4602678819172646912) (2 * 0 + 1) (fxp 4602678819172646912 + ((52 : Nat) : Int)) = [49, 112, 45, 49] := by
    rw [show fneg 4602678819172646912 = false by decide, show fxp 4602678819172646912 + ((52 : Nat) : Int) = -1 by decide]
    unfold tx pw
    rw [if_pos (by decide), show (-(-1) : Int).toNat = 1 from rfl, m1, show 2 * 0 + 1 = 1 from rfl, n1]
    rfl
  rw [e1] at h1
  rw [e2] at h2
  unfold vernierlaw40_alive.f
  refine Ev.bind h1 (Ev.congr (fun k => if_pos (bs_toList _)) (Ev.bind h2 ?_))
  rw [bs_toList]
  exact Ev.now _
theorem tail_ev {a b : Int} {t : ByteArray} (hn : Ev (fun k => dump_Number.f k a) t) (ht : Ev (fun k => vernierlaw40_text.f k a) t) (e : b = a) :
    Ev (fun k => (dump_Number.f k a).bind fun t183 => (vernierlaw40_text.f k a).bind fun t184 => if t183.toList = t184.toList then (if (b, (0 : Int)).2 = 0 then (some ((b, (0 : Int)).1 == a)) else (some false)) else (some false)) true := by
  subst e
  refine Ev.bind hn (Ev.bind ht (Ev.congr (fun k => (if_pos rfl).trans (if_pos rfl)) ?_))
  rw [show (b == b) = true from beq_self_eq_true b]
  exact Ev.now _
theorem DumpTells (a0 : Int) (w0 : (Lit.int .u64 a0).wf = true) : ∃ k, vernierlaw40_DumpTells.f k a0 = some true := by
  refine Ev.rounds ?_
  obtain ⟨h0, h1⟩ := u64_of_wf w0
  have hc := class_ev h0 h1
  have hr := rclass_ev h0 h1
  unfold vernierlaw40_DumpTells.f
  refine Ev.bind alive40_ev (Ev.congr (fun k => if_pos rfl) ?_)
  have rc := fcls_range a0
  have hcase : fcls a0 = 3 ∨ fcls a0 = 2 ∨ fcls a0 = 0 ∨ fcls a0 = 1 := by omega
  rcases hcase with c | c | c | c
  · refine Ev.bind (number_nan h0 h1 c) (Ev.bind parse_nan (Ev.bind hr ?_))
    rw [c]
    refine Ev.congr (fun k => if_pos rfl) ?_
    exact tail_ev (a := 9221120237041090560) (number_nan (by decide) (by decide) (by decide)) (text_nan (by decide) (by decide) (by decide)) rfl
  · have hv : rinf (fneg a0) = a0 := by
      have hz : rzero (fneg a0) = a0 - a0 % 9223372036854775808 := by
        unfold fneg rzero
        by_cases c : 9223372036854775808 ≤ a0
        · rw [decide_eq_true c, if_pos rfl]; omega
        · rw [decide_eq_false c, if_neg (by decide)]; omega
      have he : fex a0 = 2047 ∧ ffr a0 = 0 := by
        unfold fcls at c
        split at c
        · rename_i h2
          split at c
          · rename_i h3; exact ⟨h2, h3⟩
          · omega
        · split at c <;> omega
      obtain ⟨e1, e2⟩ := he
      unfold fex ffr at *
      unfold rinf
      rw [hz]
      omega
    refine Ev.bind (number_inf h0 h1 c) (Ev.bind (parse_inf (fneg a0)) (Ev.bind hr ?_))
    rw [c]
    refine Ev.congr (fun k => if_neg (by decide)) ?_
    exact tail_ev (number_inf h0 h1 c) (text_inf h0 h1 c) hv
  · have hv : rzero (fneg a0) = a0 := by
      have hz : rzero (fneg a0) = a0 - a0 % 9223372036854775808 := by
        unfold fneg rzero
        by_cases c : 9223372036854775808 ≤ a0
        · rw [decide_eq_true c, if_pos rfl]; omega
        · rw [decide_eq_false c, if_neg (by decide)]; omega
      have he : fex a0 = 0 ∧ ffr a0 = 0 := by
        unfold fcls at c
        split at c
        · split at c <;> omega
        · split at c
          · assumption
          · omega
      obtain ⟨e1, e2⟩ := he
      unfold fex ffr at *
      rw [hz]
      omega
    refine Ev.bind (number_zero h0 h1 c) (Ev.bind (parse_zero (fneg a0)) (Ev.bind hr ?_))
    rw [c]
    refine Ev.congr (fun k => if_neg (by decide)) ?_
    exact tail_ev (number_zero h0 h1 c) (text_zero h0 h1 c) hv
  · have hf : fex a0 ≠ 2047 := fcls_fin.1 (by omega)
    have hm := fman_range a0
    have hx := fxp_range a0
    have hpos : 0 < fman a0 := by
      have ra := fex_range a0
      have rf := ffr_range a0
      unfold fcls at c
      rw [if_neg hf] at c
      unfold fman
      split at c
      · omega
      · rename_i h2
        split
        · rename_i h3
          have : ffr a0 ≠ 0 := fun h => h2 ⟨h3, h⟩
          omega
        · omega
    obtain ⟨t, m, ho⟩ := odd2_ex hpos
    obtain ⟨hn, ht, hM⟩ := number_fin h0 h1 c ho
    have hrnd : rnd (fneg a0) ((2 * m + 1 : Nat) : Int) (fxp a0 + t) 0 = (a0, 0) := by
      have hs := rnd_self h0 h1 hf hpos 0
      have hsh := rnd_shift (fneg a0) (W := ((2 * m + 1 : Nat) : Int)) (by omega) (fxp a0 + t) t 0
      rw [show fxp a0 + (t : Int) - (t : Int) = fxp a0 by omega] at hsh
      rw [← hsh, Int.mul_comm, ← ho]
      exact hs
    refine Ev.bind hn (Ev.bind (parse_fin hM (by omega) (by omega) hrnd) (Ev.bind hr ?_))
    rw [c]
    refine Ev.congr (fun k => if_neg (by decide)) ?_
    exact tail_ev hn (text_fin h0 h1 c ho ht hM) rfl
end Go.Proofs.YtpdjahhimmaonaaDoor.Pure
