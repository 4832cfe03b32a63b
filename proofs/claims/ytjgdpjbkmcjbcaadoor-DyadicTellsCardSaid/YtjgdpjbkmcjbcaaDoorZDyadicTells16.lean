/- Parts of a proof. -/
import Derived.Test.YtjgdpjbkmcjbcaaDoorZDyadicTells13
import Derived.Laws.MakeOwn
import Derived.Shelf.Spec.TrailingZeros
section
namespace Go.Proofs.YtjgdpjbkmcjbcaaDoor.PG
open Go.RowKit Go.Proofs.YtjgdpjbkmcjbcaaDoorW.PrintWords Go.Proofs.YtjgdpjbkmcjbcaaDoorW.PrintLast Go.Proofs.YtjgdpjbkmcjbcaaDoorW.PrintMore
set_option linter.unusedVariables false
set_option linter.unusedSimpArgs false
theorem support_MakeCap.calls {P : Program} {ops : Array Oper} {rest : List Oper} {o : Oper} {a : Act} {Q : Exit → Act → World → Prop} {w0 W : World} (base e : Nat) (hgd : o.guard = none) {N : Tmp} (hd : o.dst = some N) (t : TypeId) (x y : Operand) (ho : o.op = .makeSlice t x y)
  (n c : Int) (hx : a.eval x = .int .i64 n) (hy : a.eval y = .int .i64 c) (ht : P.underlying t = some (.slice e)) (k : IntKind) (hinfo : (P.info? e).map (fun i => (i.zero, i.size, i.bytes)) = some (some (.int k 0), 1, 8))
  (h0 : 0 ≤ n) (hnc : n ≤ c) (hl : c.toNat ≤ 35184372088832) (HB : Below base w0 W) (hbase : base ≤ W.heap.size)
  (h : ∀ v1 w1, (Kd.int k).R e w1 base (fun _ => True) v1 (List.replicate n.toNat 0) → Below base w0 w1 → W.grownBy w1 none → (∃ b, v1.ownBlock = some b ∧ W.heap.size ≤ b) → wpList P ops Q rest (a.put o.dst v1) w1) : wpList P ops Q (o :: rest) a W := by
 obtain ⟨i0, hi, hzz⟩ := Option.map_eq_some_iff.1 hinfo
 simp only [Prod.mk.injEq] at hzz
 obtain ⟨hz0, hz1, hz2⟩ := hzz
 have hr := run_make (P := P) W t e i0 (.int k 0) ht hi hz0 .i64 .i64 n c h0 hnc (by rw [hz2]; omega) (by omega)
 rw [hz1] at hr
 have hcells : (madeCells (Value.int k 0).cells (c.toNat * 1)).toList = nums k (List.replicate c.toNat 0) := by
  apply List.ext_getElem
  ·
   simp [nums, size_madeCells]
  ·
   intro i h1 h2
   simp [nums, madeCells, Value.cells, Nat.mod_one]
 have hrun : (execOp a.eval o).run P W = .ok (.value (.slice (some ⟨W.heap.size, 0, none⟩) n.toNat c.toNat)) (W.alloc (.cells (madeCells (Value.int k 0).cells (c.toNat * 1)) e)) := by
  simp [execOp, ho, hx, hy, hr]
 have hown : (W.alloc (.cells (madeCells (Value.int k 0).cells (c.toNat * 1)) e)).ownsRow base e 1 (.slice (some ⟨W.heap.size, 0, none⟩) n.toNat c.toNat) (List.replicate n.toNat (0 : Int)).length (nums k (List.replicate n.toNat 0)) := by
  refine ⟨by simp [nums], .inr ⟨W.heap.size, c.toNat, _, by simp, hbase, heap_alloc_new W _, by simp; omega, by simp only [maxLen]; omega, by simp [size_madeCells], ?_⟩⟩
  rw [hcells]
  simp only [nums, List.map_replicate, List.length_replicate, List.take_replicate, Nat.mul_one]
  congr 1
  omega
 refine Kd.event_run hgd hrun (h _ _ (Kd.R_of_own hown (fun _ _ => trivial)) (HB.alloc hbase _) (World.grownBy_alloc W _ none) ⟨W.heap.size, by simp [Value.ownBlock], Nat.le_refl _⟩)
end Go.Proofs.YtjgdpjbkmcjbcaaDoor.PG
end
section
namespace Go.Proofs.YtjgdpjbkmcjbcaaDoor.PG
open Go.RowKit Go.Proofs.YtjgdpjbkmcjbcaaDoorW.PrintWords Go.Proofs.YtjgdpjbkmcjbcaaDoorW.PrintLast Go.Proofs.YtjgdpjbkmcjbcaaDoorW.PrintMore
set_option linter.unusedVariables false
def Tz (w : World) : Prop := Go.Proofs.TabAt 0 Lib.deBruijn64tab w
theorem Tz.of {w W : World} (h : Tz w) (hb : Below w.heap.size w W) : Tz W := fun i hi => pw_cell_below hb (h i hi)
theorem tz_ {w W W1 : World} (h : Aside0 (Tz w)) (hb : Aside0 (Below w.heap.size w W))
  (s : Below w.heap.size w W → Below w.heap.size w W1 := by intro h_; repeat (first | (with_reducible first | exact h_ | apply below_alloc | apply pw_below_drewN | apply below_drew1 | refine below_set ?_ (Aside0.out (by assumption))) | exact h_)) : Tz W1 := h.out.of (s hb.out)
theorem tz0_ {w W1 : World} (h : Aside0 (Tz w)) (s : Below w.heap.size w w → Below w.heap.size w W1 := by intro h_; repeat (first | (with_reducible first | exact h_ | apply below_alloc | apply pw_below_drewN | apply below_drew1) | exact h_)) : Tz W1 := h.out.of (s (Below.refl _ _))
end Go.Proofs.YtjgdpjbkmcjbcaaDoor.PG
end
