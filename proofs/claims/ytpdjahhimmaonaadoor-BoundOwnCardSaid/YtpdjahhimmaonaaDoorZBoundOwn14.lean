/- Parts of a proof. -/
import Derived.Test.YtpdjahhimmaonaaDoorZBoundOwn12
import Derived.Shelf.Spec.TrailingZeros
section
namespace Go.Proofs.YtpdjahhimmaonaaDoor.PD
open Go.RowKit Go.Proofs.YtpdjahhimmaonaaDoorW.PrintWords Go.Proofs.YtpdjahhimmaonaaDoorW.PrintLast Go.Proofs.YtpdjahhimmaonaaDoorW.PrintMore
set_option linter.unusedVariables false
theorem rl_ {α : Type} {d : Kd α} {e base : Nat} {W W1 : World} {ok : Nat → Prop} {v : Value} {xs : List α} (h : Aside0 (d.R e W base ok v xs))
  (s : d.R e W base ok v xs → d.R e W1 base ok v xs := by intro h_; (with_reducible repeat (first | apply Kd.R_alloc | apply Kd.R_drewN | apply Kd.R_drew)); exact h_) : d.R e W1 base ok v xs := s h.out
theorem bl_ {g : Nat} {o : Obj} {W W1 : World} (h : Aside0 (W.heap[g]? = some o))
  (s : W.heap[g]? = some o → W1.heap[g]? = some o := by intro h_; (with_reducible repeat (first | refine blk_drewN ?_ _ | refine blk_drew ?_ | refine blk_alloc ?_ _)); exact h_) : W1.heap[g]? = some o := s h.out
theorem bw_ {w W W1 : World} (h : Aside0 (Below w.heap.size w W))
  (s : Below w.heap.size w W → Below w.heap.size w W1 := by intro h_; repeat (first | (with_reducible first | exact h_ | apply below_alloc | apply pw_below_drewN | apply below_drew1 | refine below_set ?_ (Aside0.out (by assumption))) | exact h_)) : Below w.heap.size w W1 := s h.out
theorem cl_ {α : Type} {d : Kd α} {W W1 : World} {A : Option Addr} {n : Nat} {xs : List α} (h : d.C W A n xs)
  (s : d.C W A n xs → d.C W1 A n xs := by intro h_; repeat (first | exact h_ | (with_reducible refine Kd.C_alloc ?_ _) | (with_reducible refine Kd.C_drewN ?_ _) | (with_reducible refine Kd.C_drew ?_))) : d.C W1 A n xs := s h
theorem gl_ {P : Program} {ops : Array Oper} {Q : Exit → Act → World → Prop} {rest : List Oper} {oi : Oper} {a : Act} {w : World} (N : Option Tmp) (hd : oi.dst = N) (hg : oi.guard = none) {f : FuncId} {fn : Func} {as0 : Array Operand} {ts : Array TypeId} (hf : P.funcs[f]? = some fn) (hname : (fn.name == "runtime.NumGoroutine") = false) (hb : fn.body.isSome = true) (args : Array Value)
  (hop : oi.op = .call { callee := .value (.func f), args := as0, argTypes := ts })
  (h : Calls P f args w fun e w' => ∃ v, e = .returned v ∧ wpList P ops Q rest (a.put N v) w') (hargs : as0.map a.eval = args := by (try simp only [List.map_toArray, List.map_cons, List.map_nil]); first | done | rfl | (simp only [List.length_drop, List.length_take]; rfl)) : wpList P ops Q (oi :: rest) a w :=
 goesL_ N hd hg hf hname hb args hop hargs h
end Go.Proofs.YtpdjahhimmaonaaDoor.PD
end
section
namespace Go.Proofs.YtpdjahhimmaonaaDoor.PD
open Go.RowKit Go.Proofs.YtpdjahhimmaonaaDoorW.PrintWords Go.Proofs.YtpdjahhimmaonaaDoorW.PrintLast Go.Proofs.YtpdjahhimmaonaaDoorW.PrintMore
set_option linter.unusedVariables false
theorem nl_ {g g2 : Nat} {o : Obj} {W W1 : World} (hg : g2 = W1.heap.size) (h : Aside0 (W.heap[g]? = some o))
  (s : W.heap[g]? = some o → W1.heap[g]? = some o := by intro h_; (with_reducible repeat (first | refine blk_drewN ?_ _ | refine blk_drew ?_ | refine blk_alloc ?_ _)); exact h_) : Aside0 (g ≠ g2) := ⟨by rw [hg]; exact Nat.ne_of_lt (blk_lt (s h.out))⟩
theorem ng_ {g g2 : Nat} {o : Obj} {W W1 : World} (hg : g2 = W1.heap.size) (h : Aside0 (W.heap[g]? = some o))
  (s : W.heap[g]? = some o → W1.heap[g]? = some o := by intro h_; (with_reducible repeat (first | refine blk_drewN ?_ _ | refine blk_drew ?_ | refine blk_alloc ?_ _)); exact h_) : Aside0 (g2 ≠ g) := ⟨by rw [hg]; exact Nat.ne_of_gt (blk_lt (s h.out))⟩
theorem gw_ {g2 : Nat} {w W W1 : World} (hg : g2 = W1.heap.size) (h : Aside0 (Below w.heap.size w W))
  (s : Below w.heap.size w W → Below w.heap.size w W1 := by intro h_; repeat (first | (with_reducible first | exact h_ | apply below_alloc | apply pw_below_drewN | apply below_drew1 | refine below_set ?_ (Aside0.out (by assumption))) | exact h_)) : Aside0 (w.heap.size ≤ g2) := ⟨by rw [hg]; exact below_size (s h.out)⟩
theorem bk_ {g : Nat} {o : Obj} {W W1 W2 : World} (h : Aside0 (W.heap[g]? = some o)) (hb : Below W1.heap.size W1 W2)
  (s : W.heap[g]? = some o → W1.heap[g]? = some o := by intro h_; (with_reducible repeat (first | refine blk_drewN ?_ _ | refine blk_drew ?_ | refine blk_alloc ?_ _)); exact h_) : Aside0 (W2.heap[g]? = some o) := ⟨blk_below (s h.out) hb⟩
theorem bs_ {w W W1 W2 : World} (h : Aside0 (Below w.heap.size w W)) (hb : Below W1.heap.size W1 W2)
  (s : Below w.heap.size w W → Below w.heap.size w W1 := by intro h_; repeat (first | (with_reducible first | exact h_ | apply below_alloc | apply pw_below_drewN | apply below_drew1 | refine below_set ?_ (Aside0.out (by assumption))) | exact h_)) : Aside0 (Below w.heap.size w W2) := ⟨below_step (s h.out) hb⟩
theorem rb_ {α : Type} {d : Kd α} {e base : Nat} {W W1 W2 : World} {ok : Nat → Prop} {v : Value} {xs : List α} (h : Aside0 (d.R e W base ok v xs)) (hb : Below W1.heap.size W1 W2)
  (s : d.R e W base ok v xs → d.R e W1 base ok v xs := by intro h_; (with_reducible repeat (first | apply Kd.R_alloc | apply Kd.R_drewN | apply Kd.R_drew)); exact h_) : Aside0 (d.R e W2 base ok v xs) := ⟨Kd.R_below (s h.out) hb⟩
theorem bz_ {g : Nat} {o : Obj} {W W1 : World} (h : W.heap[g]? = some o)
  (s : W.heap[g]? = some o → W1.heap[g]? = some o := by intro h_; (with_reducible repeat (first | refine blk_drewN ?_ _ | refine blk_drew ?_ | refine blk_alloc ?_ _)); exact h_) : W1.heap[g]? = some o := s h
theorem c2_ {W : World} {g : Nat} {t : TypeId} {x y : Value} (h : Aside0 (W.heap[g]? = some (.cells #[x, y] t (0, 0)))) :
  W.cell? ⟨g, 0, none⟩ = some x ∧ W.cell? ⟨g, 1, none⟩ = some y ∧ W.frozen? ⟨g, 0, none⟩ = false ∧ W.frozen? ⟨g, 1, none⟩ = false :=
 ⟨(blk_cell h.out 0).trans rfl, (blk_cell h.out 1).trans rfl, blk_frozen h.out 0, blk_frozen h.out 1⟩
theorem c3_ {W : World} {g : Nat} {t : TypeId} {x y z : Value} (h : Aside0 (W.heap[g]? = some (.cells #[x, y, z] t (0, 0)))) :
  W.cell? ⟨g, 0, none⟩ = some x ∧ W.cell? ⟨g, 1, none⟩ = some y ∧ W.cell? ⟨g, 2, none⟩ = some z ∧ W.frozen? ⟨g, 0, none⟩ = false ∧ W.frozen? ⟨g, 1, none⟩ = false ∧ W.frozen? ⟨g, 2, none⟩ = false :=
 ⟨(blk_cell h.out 0).trans rfl, (blk_cell h.out 1).trans rfl, (blk_cell h.out 2).trans rfl, blk_frozen h.out 0, blk_frozen h.out 1, blk_frozen h.out 2⟩
theorem rz_ {α : Type} {d : Kd α} {e base : Nat} {W W1 : World} {ok : Nat → Prop} {v : Value} {xs : List α} (h : d.R e W base ok v xs)
  (s : d.R e W base ok v xs → d.R e W1 base ok v xs := by intro h_; (with_reducible repeat (first | apply Kd.R_alloc | apply Kd.R_drewN | apply Kd.R_drew)); exact h_) : d.R e W1 base ok v xs := s h
theorem vz_ {α : Type} {d : Kd α} {e base : Nat} {W W1 : World} {ok : Nat → Prop} {v : Value} {xs : List α} (h : d.V e W base ok v xs)
  (s : d.V e W base ok v xs → d.V e W1 base ok v xs := by intro h_; (with_reducible repeat (first | apply Kd.V_alloc | apply Kd.V_drewN | apply Kd.V_drew)); exact h_) : d.V e W1 base ok v xs := s h
theorem dr_ {w W : World} (h : Drawn0 w W := by repeat (first | exact Drawn0.refl _ | apply Drawn0.step)) : Drawn0 w W := h
theorem rf_ {p : Prop} (h : p := by first | rfl | (simp; done) | (simp [*]; done)) : p := h
theorem er_ {p : Prop} (h : p := by first | rfl | (simp [errW_none, errW_some] <;> rfl) | (simp [*, errW_none, errW_some] <;> rfl)) : p := h
theorem ol_ {p : Prop} (h : p := by first | omega | exact Nat.le_refl _) : p := h
theorem sp_ : (∀ (a : Act) (d : Tmp) (v : Value), a.put (some d) v = { a with tmps := a.tmps.setIfInBounds d v }) ∧ (∀ (a : Act) (v : Value), a.put none v = a) ∧
  (∀ (l : List Value) (i : Nat) (x : Value), l.toArray.setIfInBounds i x = (l.set i x).toArray) ∧ (∀ (x y : Value) (l : List Value), (x :: l).set 0 y = y :: l) ∧ (∀ (x y : Value) (l : List Value) (n : Nat), (x :: l).set (n + 1) y = x :: l.set n y) ∧
  (∀ n : Int, IntKind.i64.wrap n = wrap64 n) ∧ (∀ n : Int, IntKind.i32.wrap n = wrap32 n) :=
 ⟨fun _ _ _ => rfl, fun _ _ => rfl, fun l i x => List.setIfInBounds_toArray l i x, fun _ _ _ => rfl, fun _ _ _ _ => rfl, i64_w, i32_w⟩
theorem nq_ {a b : Act} (h : a = b := by first | (simp only [putAll, sp_]; done) | (simp only [putAll, sp_]; rfl)) : a = b := h
theorem bo_ {α β : Type} {x : Option α} {f : α → Option β} {b : β} (h : x.bind f = some b) : ∃ a, Aside0 (x = some a) ∧ f a = some b :=
 let ⟨a, h1, h2⟩ := Option.bind_eq_some_iff.mp h; ⟨a, ⟨h1⟩, h2⟩
theorem q1_ {α : Type} [BEq α] [LawfulBEq α] {a b : α} (h : a = b) : (a == b) = true ∧ (a != b) = false := ⟨beq_iff_eq.mpr h, bne_eq_false_iff_eq.mpr h⟩
theorem q0_ {α : Type} [BEq α] [LawfulBEq α] {a b : α} (h : ¬ a = b) : (a == b) = false ∧ (a != b) = true := ⟨beq_eq_false_iff_ne.mpr h, bne_iff_ne.mpr h⟩
theorem nt_ : ¬ (false = true) := by decide
theorem cf_ {W : World} {g g2 c c2 : Nat} {n n2 : _} {u : Value} (h : Aside0 (g2 ≠ g)) : (W.setCell ⟨g, c, n⟩ u).cell? ⟨g2, c2, n2⟩ = W.cell? ⟨g2, c2, n2⟩ := cell_far h.out u
theorem k2_ {W : World} {g : Nat} {t : TypeId} {x0 x1 : Value} (h : Aside0 (W.heap[g]? = some (.cells #[x0, x1] t (0, 0)))) : W.cell? ⟨g, 0, none⟩ = some x0 ∧ W.cell? ⟨g, 1, none⟩ = some x1 :=
 ⟨(blk_cell h.out 0).trans rfl, (blk_cell h.out 1).trans rfl⟩
theorem k3_ {W : World} {g : Nat} {t : TypeId} {x0 x1 x2 : Value} (h : Aside0 (W.heap[g]? = some (.cells #[x0, x1, x2] t (0, 0)))) : W.cell? ⟨g, 0, none⟩ = some x0 ∧ W.cell? ⟨g, 1, none⟩ = some x1 ∧ W.cell? ⟨g, 2, none⟩ = some x2 :=
 ⟨(blk_cell h.out 0).trans rfl, (blk_cell h.out 1).trans rfl, (blk_cell h.out 2).trans rfl⟩
theorem k4_ {W : World} {g : Nat} {t : TypeId} {x0 x1 x2 x3 : Value} (h : Aside0 (W.heap[g]? = some (.cells #[x0, x1, x2, x3] t (0, 0)))) : W.cell? ⟨g, 0, none⟩ = some x0 ∧ W.cell? ⟨g, 1, none⟩ = some x1 ∧ W.cell? ⟨g, 2, none⟩ = some x2 ∧ W.cell? ⟨g, 3, none⟩ = some x3 :=
 ⟨(blk_cell h.out 0).trans rfl, (blk_cell h.out 1).trans rfl, (blk_cell h.out 2).trans rfl, (blk_cell h.out 3).trans rfl⟩
theorem k5_ {W : World} {g : Nat} {t : TypeId} {x0 x1 x2 x3 x4 : Value} (h : Aside0 (W.heap[g]? = some (.cells #[x0, x1, x2, x3, x4] t (0, 0)))) : W.cell? ⟨g, 0, none⟩ = some x0 ∧ W.cell? ⟨g, 1, none⟩ = some x1 ∧ W.cell? ⟨g, 2, none⟩ = some x2 ∧ W.cell? ⟨g, 3, none⟩ = some x3 ∧ W.cell? ⟨g, 4, none⟩ = some x4 :=
 ⟨(blk_cell h.out 0).trans rfl, (blk_cell h.out 1).trans rfl, (blk_cell h.out 2).trans rfl, (blk_cell h.out 3).trans rfl, (blk_cell h.out 4).trans rfl⟩
theorem k6_ {W : World} {g : Nat} {t : TypeId} {x0 x1 x2 x3 x4 x5 : Value} (h : Aside0 (W.heap[g]? = some (.cells #[x0, x1, x2, x3, x4, x5] t (0, 0)))) : W.cell? ⟨g, 0, none⟩ = some x0 ∧ W.cell? ⟨g, 1, none⟩ = some x1 ∧ W.cell? ⟨g, 2, none⟩ = some x2 ∧ W.cell? ⟨g, 3, none⟩ = some x3 ∧ W.cell? ⟨g, 4, none⟩ = some x4 ∧ W.cell? ⟨g, 5, none⟩ = some x5 :=
 ⟨(blk_cell h.out 0).trans rfl, (blk_cell h.out 1).trans rfl, (blk_cell h.out 2).trans rfl, (blk_cell h.out 3).trans rfl, (blk_cell h.out 4).trans rfl, (blk_cell h.out 5).trans rfl⟩
theorem od_ {p : Prop} [Decidable p] (h : decide p = true := by first | (with_reducible assumption) | assumption) : p := of_decide_eq_true h
theorem er0_ {p : Prop} (h : p := by first | rfl | (simp [errW_none, errW_some] <;> rfl)) : p := h
theorem kk2_ {W : World} {g g2 : Nat} {t t2 : TypeId} {x0 x1 y0 y1 : Value} (h : Aside0 (W.heap[g]? = some (.cells #[x0, x1] t (0, 0)))) (h2 : Aside0 (W.heap[g2]? = some (.cells #[y0, y1] t2 (0, 0)))) : W.cell? ⟨g, 0, none⟩ = some x0 ∧ W.cell? ⟨g, 1, none⟩ = some x1 ∧ W.cell? ⟨g2, 0, none⟩ = some y0 ∧ W.cell? ⟨g2, 1, none⟩ = some y1 :=
 ⟨(blk_cell h.out 0).trans rfl, (blk_cell h.out 1).trans rfl, (blk_cell h2.out 0).trans rfl, (blk_cell h2.out 1).trans rfl⟩
theorem kk3_ {W : World} {g g2 : Nat} {t t2 : TypeId} {x0 x1 x2 y0 y1 y2 : Value} (h : Aside0 (W.heap[g]? = some (.cells #[x0, x1, x2] t (0, 0)))) (h2 : Aside0 (W.heap[g2]? = some (.cells #[y0, y1, y2] t2 (0, 0)))) : W.cell? ⟨g, 0, none⟩ = some x0 ∧ W.cell? ⟨g, 1, none⟩ = some x1 ∧ W.cell? ⟨g, 2, none⟩ = some x2 ∧ W.cell? ⟨g2, 0, none⟩ = some y0 ∧ W.cell? ⟨g2, 1, none⟩ = some y1 ∧ W.cell? ⟨g2, 2, none⟩ = some y2 :=
 ⟨(blk_cell h.out 0).trans rfl, (blk_cell h.out 1).trans rfl, (blk_cell h.out 2).trans rfl, (blk_cell h2.out 0).trans rfl, (blk_cell h2.out 1).trans rfl, (blk_cell h2.out 2).trans rfl⟩
end Go.Proofs.YtpdjahhimmaonaaDoor.PD
end
section
namespace Go.Proofs.YtpdjahhimmaonaaDoor.PD
open Go.RowKit Go.Proofs.YtpdjahhimmaonaaDoorW.PrintWords Go.Proofs.YtpdjahhimmaonaaDoorW.PrintLast Go.Proofs.YtpdjahhimmaonaaDoorW.PrintMore
set_option linter.unusedVariables false
def Tz (w : World) : Prop := Go.Proofs.TabAt 0 Lib.deBruijn64tab w
theorem Tz.of {w W : World} (h : Tz w) (hb : Below w.heap.size w W) : Tz W := fun i hi => pw_cell_below hb (h i hi)
theorem tz_ {w W W1 : World} (h : Aside0 (Tz w)) (hb : Aside0 (Below w.heap.size w W))
  (s : Below w.heap.size w W → Below w.heap.size w W1 := by intro h_; repeat (first | (with_reducible first | exact h_ | apply below_alloc | apply pw_below_drewN | apply below_drew1 | refine below_set ?_ (Aside0.out (by assumption))) | exact h_)) : Tz W1 := h.out.of (s hb.out)
theorem tz0_ {w W1 : World} (h : Aside0 (Tz w)) (s : Below w.heap.size w w → Below w.heap.size w W1 := by intro h_; repeat (first | (with_reducible first | exact h_ | apply below_alloc | apply pw_below_drewN | apply below_drew1) | exact h_)) : Tz W1 := h.out.of (s (Below.refl _ _))
end Go.Proofs.YtpdjahhimmaonaaDoor.PD
end
