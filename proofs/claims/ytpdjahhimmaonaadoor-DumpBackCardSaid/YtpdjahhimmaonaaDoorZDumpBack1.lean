/- A row's arguments, read: slices of whole numbers, and what a struct's parts weigh. -/
import Derived.Test.YtpdjahhimmaonaaDoorRows
import Derived.WalkKit
import Derived.ProofKit
import Derived.OpenShut
import Derived.Below
import Derived.SizedLaws
import Derived.JoinedCond
import Derived.Deep.CondSized
import Derived.ChangeArms
import Derived.Deep.Strs
import Derived.Test.YtpdjahhimmaonaaDoorZDumpBack0
namespace Go.Proofs.YtpdjahhimmaonaaDoor.RowIn
open Go.ChangeShapes Go.WideShapes Go.ChangeAt Go.RowKit Go.Proofs.YtpdjahhimmaonaaDoorW.PrintWords
set_option linter.unusedVariables false
section
variable {H : Type} {enc : TypeId × Value → H} {P : Program} {W : World} {base fuel : Nat} {t e : TypeId} {k : IntKind} {cs : List Value} {x : DataW H × List MemPlace}
theorem bulk_one (d : DataW H) : 1 ≤ Rows.uptoBulk d := by
  cases d with
  | lit l => cases l <;> simp [Rows.uptoBulk]
  | nil => simp [Rows.uptoBulk]
  | ptr d => simp [Rows.uptoBulk]
  | slice elems spare => simp [Rows.uptoBulk]
  | agg parts => simp [Rows.uptoBulk]
  | iface t d => simp [Rows.uptoBulk]
  | map entries => simp [Rows.uptoBulk]
  | held h => simp [Rows.uptoBulk]
theorem bulk_len : ∀ l : List (DataW H), l.length ≤ Rows.uptoBulkAll l
  | [] => by simp [Rows.uptoBulkAll]
  | y :: r => by
    have := bulk_len r
    have := bulk_one y
    simp only [Rows.uptoBulkAll, List.length_cons]
    omega
def light (P : Program) (t : TypeId) (d : DataW H) : Prop := (DataW.weights P t d).all (· ≤ reachBytes) = true
theorem light_of {ts : List TypeId} {ds : List (DataW H)} (h : (DataW.weightsEach P ts ds).all (· ≤ reachBytes) = true) {j : Nat} {d : DataW H} (ht : ts[j]? = some t) (hd : ds[j]? = some d) : light P t d := by
  refine List.all_eq_true.2 fun n hn => ?_
  exact List.all_eq_true.1 h n (DataW.weights_mem_each ht hd n hn)
theorem light_part {fs : Array Field} {l : List (DataW H)} (hu : P.underlying t = some (.struct fs)) (h : light P t (DataW.agg l)) {j : Nat} {d : DataW H} {f : Field} (hf : fs[j]? = some f) (hd : l[j]? = some d) : light P f.type d := by
  have h' : (DataW.weightsEach P (fs.toList.map (·.type)) l).all (· ≤ reachBytes) = true := by simpa [light, DataW.weights, hu] using h
  exact light_of (j := j) h' (by simp [hf]) hd
theorem ints_in (ht : P.underlying t = some (.slice e)) (he : P.underlying e = some (.int k)) (hc : P.cellsOf e = 1) (h : DataW.trod enc P W base (fun _ => true) true fuel t cs = some x) :
    ∃ a cap l, cs = [.slice a l.length cap] ∧ Kd.C (Kd.int k) W a l.length l ∧ l.length ≤ cap ∧ (∀ n ∈ l, (Lit.int k n).wf = true) ∧ l.length ≤ Rows.uptoBulk x.1 ∧ (light P t x.1 → l.length * P.bytesOf e ≤ 140737488351232) := by
  rcases open_ints ht he hc h with ⟨rfl, rfl⟩ | ⟨ad, len, cap, zs, rfl, _, hl, hm, hz, rfl, hcell, hw⟩
  · obtain ⟨l, hll, hr0, _, _, _⟩ := ReadsInt.ofRowC (k := k) (w := W) (a := none) (len := 0) (cap := 0) (zs := []) (.inl ⟨rfl, rfl, rfl, rfl⟩)
    have : l = [] := List.length_eq_zero_iff.1 hll.symm
    subst this
    exact ⟨none, 0, [], rfl, Kd.C_of_reads (d := (0 : Int)) (h1 := fun _ => rfl) hr0, by simp, by simp, by simp, by simp⟩
  · have hz' : zs.length = cap := by simpa using hz
    obtain ⟨l, hll, hr0, _, hw0, hc0⟩ := ReadsInt.ofRowC (k := k) (w := W) (a := some ad) (len := len) (cap := cap) (zs := zs) (.inr ⟨ad, rfl, hl, hm, hz', hcell, hw⟩)
    have hb : zs.length ≤ Rows.uptoBulk (DataW.slice (H := H) (lits k (zs.take len)) (lits k (zs.drop len))) := by
      have h1 := bulk_len (H := H) (lits k (zs.take len))
      have h2 := bulk_len (H := H) (lits k (zs.drop len))
      simp only [Rows.uptoBulk]
      simp only [lits, List.length_map, List.length_take, List.length_drop] at h1 h2 ⊢
      omega
    refine ⟨some ad, cap, l, by rw [hll], Kd.C_of_reads (d := (0 : Int)) (h1 := fun _ => rfl) (hll ▸ hr0), hc0, hw0, ?_, ?_⟩
    · have : l.length ≤ zs.length := by omega
      exact Nat.le_trans this hb
    · intro hlt
      have z : ((lits (H := H) k (zs.take len)).length + (lits (H := H) k (zs.drop len)).length) * P.bytesOf e ≤ reachBytes := by
        have := List.all_eq_true.1 hlt (((lits (H := H) k (zs.take len)).length + (lits (H := H) k (zs.drop len)).length) * P.bytesOf e) (by simp [DataW.weights, ht])
        simpa using this
      have h1 : (lits (H := H) k (zs.take len)).length + (lits (H := H) k (zs.drop len)).length = zs.length := by
        simp [lits]
        omega
      rw [h1] at z
      have : l.length ≤ zs.length := by omega
      exact Nat.le_trans (Nat.mul_le_mul_right _ this) z
end
end Go.Proofs.YtpdjahhimmaonaaDoor.RowIn
