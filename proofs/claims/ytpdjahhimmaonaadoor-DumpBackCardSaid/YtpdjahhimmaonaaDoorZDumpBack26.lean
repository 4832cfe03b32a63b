/- strings.Cut at a separator of one byte: what stands ahead of it, what stands behind it, and whether it is there. -/
import Derived.Test.YtpdjahhimmaonaaDoorZDumpBack19
import Derived.Lib.IndexLaws
import Derived.Deep.QuietTactic
import Derived.BigQuiet
namespace Go.Proofs.YtpdjahhimmaonaaDoor.PE
open Go.RowKit Go.Proofs.YtpdjahhimmaonaaDoorW.PrintWords Go.Proofs.YtpdjahhimmaonaaDoorW.PrintLast Go.Proofs.YtpdjahhimmaonaaDoorW.PrintMore
set_option linter.unusedVariables false
set_option linter.unusedSimpArgs false
set_option maxHeartbeats 2000000 in
set_option maxRecDepth 100000 in
theorem lite_Index_one (s : ByteArray) (c : UInt8) (w : World) :
    Calls Tryd.prog 94 #[.string s, .string ⟨#[c]⟩] w fun e w' => e = .returned (.int .i64 (Lib.indexByte s.data.toList c)) ∧ w' = w := by
  go_enter Tryd.func94, Tryd.ntmps94
  go_wp2_with (go_at_call 95; refine (lite_IndexByte _ _ _).mono ?_; rintro e w' ⟨rfl, rfl⟩)
  · have h : ([c] == s.toList) = true := by assumption
    go_ret
    refine ⟨?_, rfl⟩
    have e : s.data.toList = [c] := by rw [← Lib.toList_data]; exact (beq_iff_eq.1 h).symm
    rw [e]
    simp [Lib.indexByte]
  · go_ret
    exact ⟨rfl, rfl⟩
def strings_Cut.f (s sep : ByteArray) : Option (ByteArray × ByteArray × Bool) :=
  match sep.data.toList with
  | [c] => if Lib.indexByte s.data.toList c < 0 then some (s, ⟨#[]⟩, false) else if Lib.indexByte s.data.toList c + 1 ≤ (s.size : Int) then if Lib.indexByte s.data.toList c < 9223372036854775807 then some (s.extract 0 (Lib.indexByte s.data.toList c).toNat, s.extract (Lib.indexByte s.data.toList c + 1).toNat s.size, true) else none else none
  | _ => none
set_option maxHeartbeats 2000000 in
set_option maxRecDepth 100000 in
theorem lite_Cut_one (s : ByteArray) (c : UInt8) (r1 r2 : ByteArray) (r3 : Bool) (w : World) (h : strings_Cut.f s ⟨#[c]⟩ = some (r1, r2, r3)) :
    Calls Tryd.prog 74 #[.string s, .string ⟨#[c]⟩] w fun e w' => e = .returned (.tuple #[.string r1, .string r2, .bool r3]) ∧ Drawn0 w w' := by
  have hi := lite_Index_one s c w
  simp only [strings_Cut.f] at h
  generalize Lib.indexByte s.data.toList c = i at h hi
  by_cases h0 : i < 0
  · rw [if_pos h0] at h
    simp only [Option.some.injEq, Prod.mk.injEq] at h
    obtain ⟨rfl, rfl, rfl⟩ := h
    have e0 : decide (0 ≤ i) = false := decide_eq_false (by omega)
    have e1 : (i ≥ 0) = False := eq_false (by omega)
    go_enter Tryd.func74, Tryd.ntmps74
    go_wp2_with (go_at_call 94; refine hi.mono ?_; rintro e w' ⟨rfl, rfl⟩)
    go_ret3
    exact ⟨rfl, Drawn0.refl _⟩
  rw [if_neg h0] at h
  by_cases h1 : i + 1 ≤ (s.size : Int)
  case neg => rw [if_neg h1] at h; cases h
  rw [if_pos h1] at h
  by_cases h2 : i < 9223372036854775807
  case neg => rw [if_neg h2] at h; cases h
  rw [if_pos h2] at h
  simp only [Option.some.injEq, Prod.mk.injEq] at h
  obtain ⟨rfl, rfl, rfl⟩ := h
  have e0 : decide (0 ≤ i) = true := decide_eq_true (by omega)
  have ew : wrap64 (i + 1) = i + 1 := by unfold wrap64; omega
  have e2 : decide (i ≤ (s.size : Int)) = true := decide_eq_true (by omega)
  have e3 : decide (0 ≤ i + 1) = true := decide_eq_true (by omega)
  have e4 : decide (i + 1 ≤ (s.size : Int)) = true := decide_eq_true h1
  have f0 := eq_true (show 0 ≤ i by omega)
  have f1 := eq_true (show i ≤ (s.size : Int) by omega)
  have f2 := eq_true (show 0 ≤ i + 1 by omega)
  have f3 := eq_true h1
  have f4 := eq_true (show 0 ≤ (s.size : Int) by omega)
  go_enter Tryd.func74, Tryd.ntmps74
  go_wp2_with (go_at_call 94; refine hi.mono ?_; rintro e w' ⟨rfl, rfl⟩)
  go_quiet (fail)
  go_wp2_with fail
  go_ret3
  exact ⟨rfl, Drawn0.step (Drawn0.refl _) _⟩
set_option maxHeartbeats 2000000 in
theorem strings_Cut.calls (a0 : ByteArray) (a1 : ByteArray) (r1 r2 : ByteArray) (r3 : Bool) (w : World) (h : strings_Cut.f a0 a1 = some (r1, r2, r3)) :
    Calls Tryd.prog 55 #[.string a0, .string a1] w fun e w' => e = .returned (.tuple #[.string r1, .string r2, .bool r3]) ∧ Drawn0 w w' := by
  obtain ⟨⟨l⟩⟩ := a1
  match l, h with
  | [c], h =>
    have hc := lite_Cut_one a0 c r1 r2 r3 w h
    go_enter Tryd.func55, Tryd.ntmps55
    go_wp2_with (go_at_call 74; refine hc.mono ?_; rintro e w' ⟨rfl, hd⟩)
    go_ret3
    exact ⟨rfl, hd⟩
  | [], h => simp only [strings_Cut.f] at h; cases h
  | _ :: _ :: _, h => simp only [strings_Cut.f] at h; cases h
end Go.Proofs.YtpdjahhimmaonaaDoor.PE
