/- make([]T, n, c) of whole numbers makes a row of n zeros of the call's own, with a capacity of c. -/
import Derived.Test.YtpdjahhimmaonaaDoorZBoundOwn13
import Derived.Laws.MakeOwn
namespace Go.Proofs.YtpdjahhimmaonaaDoor.PD
open Go.RowKit Go.Proofs.YtpdjahhimmaonaaDoorW.PrintWords Go.Proofs.YtpdjahhimmaonaaDoorW.PrintLast Go.Proofs.YtpdjahhimmaonaaDoorW.PrintMore
set_option linter.unusedVariables false
set_option linter.unusedSimpArgs false
theorem support_MakeCap.calls {P : Program} {ops : Array Oper} {rest : List Oper} {o : Oper} {a : Act} {Q : Exit → Act → World → Prop} {w0 W : World} (base e : Nat) (hgd : o.guard = none) {N : Tmp} (hd : o.dst = some N) (t : TypeId) (x y : Operand) (ho : o.op = .makeSlice t x y)
  (n c : Int) (hx : a.eval x = .int .i64 n) (hy : a.eval y = .int .i64 c) (ht : P.underlying t = some (.slice e)) (k : IntKind) (hinfo : (P.info? e).map (fun i => (i.zero, i.size, i.bytes)) = some (some (.int k 0), 1, 8))
  (h0 : 0 ≤ n) (hnc : n ≤ c) (hl : c.toNat ≤ 35184372088832) (HB : Below base w0 W) (hbase : base ≤ W.heap.size)
  (h : ∀ v1 w1, (Kd.int k).R e w1 base (fun _ => True) v1 (List.replicate n.toNat 0) → Below base w0 w1 → W.grownBy w1 none → (∃ b, v1.ownBlock = some b ∧ W.heap.size ≤ b) → wpList P ops Q rest (a.put o.dst v1) w1) : wpList P ops Q (o :: rest) a W := by
 obtain ⟨i0, hi, hzz⟩ := Option.map_eq_some_iff.1 hinfo
 simp only [Prod.mk.injEq] at hzz
 obtain ⟨hz0, hz1, hz2⟩ := hzz
 have hr := run_make (P := P) W t e i0 (.int k 0) ht hi hz0 .i64 .i64 n c h0 hnc (by rw [hz2]; omega) (by omega)
 rw [hz1] at hr
 have hcells : (madeCells (Value.int k 0).cells (c.toNat * 1)).toList = nums k (List.replicate c.toNat 0) := by
  apply List.ext_getElem
  ·
   simp [nums, size_madeCells]
  ·
   intro i h1 h2
   simp [nums, madeCells, Value.cells, Nat.mod_one]
 have hrun : (execOp a.eval o).run P W = .ok (.value (.slice (some ⟨W.heap.size, 0, none⟩) n.toNat c.toNat)) (W.alloc (.cells (madeCells (Value.int k 0).cells (c.toNat * 1)) e)) := by
  simp [execOp, ho, hx, hy, hr]
 have hown : (W.alloc (.cells (madeCells (Value.int k 0).cells (c.toNat * 1)) e)).ownsRow base e 1 (.slice (some ⟨W.heap.size, 0, none⟩) n.toNat c.toNat) (List.replicate n.toNat (0 : Int)).length (nums k (List.replicate n.toNat 0)) := by
  refine ⟨by simp [nums], .inr ⟨W.heap.size, c.toNat, _, by simp, hbase, heap_alloc_new W _, by simp; omega, by simp only [maxLen]; omega, by simp [size_madeCells], ?_⟩⟩
  rw [hcells]
  simp only [nums, List.map_replicate, List.length_replicate, List.take_replicate, Nat.mul_one]
  congr 1
  omega
 refine Kd.event_run hgd hrun (h _ _ (Kd.R_of_own hown (fun _ _ => trivial)) (HB.alloc hbase _) (World.grownBy_alloc W _ none) ⟨W.heap.size, by simp [Value.ownBlock], Nat.le_refl _⟩)
end Go.Proofs.YtpdjahhimmaonaaDoor.PD
