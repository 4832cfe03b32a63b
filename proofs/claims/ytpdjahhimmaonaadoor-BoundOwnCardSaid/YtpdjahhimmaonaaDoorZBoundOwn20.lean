/- slices.Clone at []uint64 answers a list's copy in new memory, for lists of at most 2^44 elements. -/
import Derived.Test.YtpdjahhimmaonaaDoorZBoundOwn13
import Derived.WalkSpells
import Derived.Lib.SliceRun
namespace Go.Proofs.YtpdjahhimmaonaaDoor.PD
open Go.RowKit Go.Proofs.YtpdjahhimmaonaaDoorW.PrintWords Go.Proofs.YtpdjahhimmaonaaDoorW.PrintLast Go.Proofs.YtpdjahhimmaonaaDoorW.PrintMore
set_option linter.unusedVariables false
set_option linter.unusedSimpArgs false
def slices_Clone_uint64_uint64.f (l0 : List Int) : Option (List Int) := if l0.length ≤ 17592186044416 then some l0 else none
set_option maxHeartbeats 1000000 in
set_option maxRecDepth 100000 in
theorem slices_Clone_uint64_uint64.calls (A0 : Option Addr) (c0 : Nat) (l0 : List Int) (r : List Int) (w : World) (hr0 : Kd.C (Kd.int .u64) w A0 l0.length l0) (hc0 : l0.length ≤ c0) (h : slices_Clone_uint64_uint64.f l0 = some r) :
  Calls Tryd.prog 108 #[.slice A0 l0.length c0] w fun e w' => ∃ v0_ : Value, e = .returned (v0_) ∧ Kd.R (Kd.int .u64) 22 w' w.heap.size (fun _ => True) v0_ r ∧ Below w.heap.size w w' := by
 unfold slices_Clone_uint64_uint64.f at h
 split at h
 case isFalse => cases h
 case isTrue hlen =>
 obtain rfl : l0 = r := Option.some.inj h
 clear h
 have hR0 := Kd.reads_of_C (d := (0 : Int)) hr0
 have hR : ReadsInt w .u64 A0 l0.length l0 := hR0
 have keq := fun (W : World) (a : Option Addr) (n c : Nat) => Lib.run_eql_slice_nil (P := Tryd.prog) W 30 22 a n c 0 0 Tryd.underlying30
 clear hR0 hr0
 rcases A0 with _ | ad
 ·
  obtain rfl : l0 = [] := by
   rcases Nat.eq_zero_or_pos l0.length with h0 | h0
   ·
    exact List.eq_nil_of_length_eq_zero h0
   ·
    obtain ⟨ad, e, _⟩ := hR.2.2 h0
    cases e
  clear hR
  go_enter Tryd.func108, Tryd.ntmps108
  go_wp2
  go_ret
  exact ⟨_, rfl, Kd.R_nil _ _ _ _ _, Below.refl _ _⟩
 ·
  have HR := Aside0.mk hR
  have HL := Aside0.mk hlen
  clear hR hlen
  go_enter Tryd.func108, Tryd.ntmps108
  go_wp2_with (at_builtin; refine print_append_row (w0 := w) w.heap.size rfl _ _ 30 22 .u64 8 rfl Tryd.underlying30 info22 (by decide) (.slice (some ⟨w.heap.size, 0, none⟩) 0 0) [] l0 (some ad) l0.length c0 rfl rfl (own_lit w w.heap.size 22 .u64 [] (Nat.le_refl _) (by simp)) (HR.out.below ((Below.refl _ _).alloc (Nat.le_refl _) _)) ((Below.refl _ _).alloc (Nat.le_refl _) _) (by simp) (by have := HL.out; simp; omega) ?_; intro v1 w1 ho hb hg hx)
  have HO := Aside0.mk ho
  have HB := Aside0.mk hb
  clear ho hb hg hx
  obtain ⟨A1, c1, rfl⟩ := own_slice HO.out
  go_ret
  exact ⟨_, rfl, Kd.R_of_own (by have := HO.out; simp only [List.nil_append] at this; exact this) (fun _ _ => trivial), HB.out⟩
end Go.Proofs.YtpdjahhimmaonaaDoor.PD
