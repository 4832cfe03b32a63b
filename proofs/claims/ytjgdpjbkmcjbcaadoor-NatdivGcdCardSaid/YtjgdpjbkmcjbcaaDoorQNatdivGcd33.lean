/- A range over slices.Backward at []uint64, its rounds counted: round j is walked at the j-th place from the end. -/
import Derived.Test.YtjgdpjbkmcjbcaaDoorQNatdivGcd12
import Derived.Test.YtjgdpjbkmcjbcaaDoorQNatdivGcd25
import Derived.RangeFuncNested
import Derived.RangeFuncBound
import Derived.RangeFuncCalls
import Derived.RangeFuncLeaves
import Derived.Shelf.Abstract
import Derived.Shelf.RegionOpen
import Derived.OwnWalkIn
import Derived.TacticsInMore
import Derived.LoopNIn
import Derived.LoopIn
import Derived.Lib.Hide
import Derived.Outline
namespace Go.Proofs.YtjgdpjbkmcjbcaaDoor.PD
open Go.RowKit Go.Shelf Go.Proofs.YtjgdpjbkmcjbcaaDoorW.PrintWords Go.Proofs.YtjgdpjbkmcjbcaaDoorW.PrintLast Go.Proofs.YtjgdpjbkmcjbcaaDoorW.PrintMore
set_option linter.unusedVariables false
set_option linter.unusedSimpArgs false
attribute [local go_sem] Oper.semAt_some
set_option maxRecDepth 100000 in
set_option maxHeartbeats 2000000 in
theorem back_count (F : Fence) (n : Nat) (h7 : F.fn 104) (hro : F.round = none) (hn : 1 ≤ n) (l Bs : Nat) (A0 : Option Addr) (N cap : Nat) (zs : List Int) (J : Nat → World → Prop) (W : World) (hmx : N ≤ 9223372036854775807)
    (hc : ∀ j W', J j W' → W'.cell? ⟨Bs, 0, none⟩ = some (.slice A0 N cap) ∧ ReadsInt W' .u64 A0 N zs)
    (hY : ∀ (j : Nat) W', j < N → J j W' → YieldAt F (n - 1) Tryd.prog l #[.int .i64 ((N : Int) - 1 - j), .int .u64 (rd zs ((N : Int) - 1 - j))] W' fun e W'' => e = .returned (.bool true) ∧ J (j + 1) W'') (h0 : J 0 W) :
    CallsIn F n Tryd.prog 104 #[.func (.yield l) #[] #[], .pointer (some ⟨Bs, 0, none⟩)] W fun e W' => (∃ v, e = .returned v) ∧ J N W' := by
  have Hc := Lib.hid hc
  have HY := Lib.hid hY
  have hBs := (hc 0 W h0).1
  clear hc hY
  refine callsIn_of_wp Tryd.func104 rfl h7 ?_ hro
  simp only [Tryd.ntmps104, List.size_toArray, List.length_cons, List.length_nil, Nat.reduceAdd, Nat.reduceSub, Array.replicate_succ, Array.replicate_zero, List.push_toArray, List.append_toArray, List.nil_append, List.cons_append]
  gi_wp2
  gi_loopw [3] (fun i wr => ∃ k : Nat, k ≤ N ∧ i = .int .i64 ((N : Int) - 1 - k) ∧ J k wr) (fun i _ => (intOf i + 1).toNat)
  case atStart => exact ⟨0, Nat.zero_le _, by simp, h0⟩
  case round =>
    obtain ⟨k, hk, rfl, hJs⟩ := hrel
    obtain ⟨hBs', hR⟩ := Hc.out k wr hJs
    by_cases hlt : k < N
    · obtain ⟨i, hi⟩ : ∃ i : Int, i = (N : Int) - 1 - k := ⟨_, rfl⟩
      have hy0 := HY.out k wr hlt hJs
      rw [← hi] at hy0
      obtain ⟨fn, tmps, assign, body, hy, hR1⟩ := hy0
      have hb0 : 0 ≤ i := by omega
      have hb1 : i < (N : Int) := by omega
      have hb2 : i ≤ 9223372036854775807 := by omega
      obtain ⟨ad, he, hcell⟩ := hR.at_ i hb0 hb1
      cases he
      have Hi0 := Lib.hid hi
      have Hlt := Lib.hid hlt
      rw [← hi]
      clear hi hlt hBs
      gi_wp2
      refine hR1.mono ?_
      rintro e W3 ⟨rfl, hJ3⟩
      gi_wp2
      go_roundw
      case rel => exact ⟨k + 1, Hlt.out, by have := Hi0.out; congr 1; omega, hJ3⟩
      case measure => simp [intOf]; omega
    · obtain rfl : k = N := by omega
      have hm : (k : Int) - 1 - (k : Int) = -1 := by omega
      rw [hm]
      clear hBs
      gi_wp2
      go_end0
      exact ⟨⟨_, rfl⟩, hJs⟩
set_option maxHeartbeats 1000000 in
theorem backwardR_in (F : Fence) (n : Nat) (h5 : F.fn 64) (hro : F.round = none) (a : Option Addr) (len cap : Nat) (w : World) :
    CallsIn F n Tryd.prog 64 #[.slice a len cap] w fun e w' => e = .returned (.func (.func 104) #[] #[.pointer (some ⟨w.heap.size, 0, none⟩)]) ∧ w' = w.alloc (.cells #[.slice a len cap] 22) := by
  refine callsIn_of_wp Tryd.func64 rfl h5 ?_ hro
  simp only [Tryd.ntmps64, List.size_toArray, List.length_cons, List.length_nil, Nat.reduceAdd, Nat.reduceSub, Array.replicate_succ, Array.replicate_zero, List.push_toArray, List.append_toArray, List.nil_append, List.cons_append]
  gi_wp2
  go_ret
  exact ⟨rfl, rfl⟩
theorem range_back {n : Nat} {g : Operand} {ps : Array Tmp} {assign body : Code} {Q : Exit → Act → World → Prop} {a : Act} {w : World} (h1 : 2 ≤ n) (Bs : Nat) (hg : a.eval g = .func (.func 104) #[] #[.pointer (some ⟨Bs, 0, none⟩)])
    (A0 : Option Addr) (N cap : Nat) (zs : List Int) (hmx : N ≤ 9223372036854775807) (hps : ps.size = 2) (I : Nat → World → Prop) (hI : OwnFrom w.heap.size I)
    (hc : ∀ j W', I j W' → W'.cell? ⟨Bs, 0, none⟩ = some (.slice A0 N cap) ∧ ReadsInt W' .u64 A0 N zs) (h0 : I 0 w) (a₁ : Nat → Act)
    (hassign : ∀ (l j : Nat) (W : World) (K : Act → World → Prop), j < N → K (a₁ j) W → assign.wpIn (Fence.wide.inRound l) (n - 1 - 1) Tryd.prog (Exit.then K (fun _ _ _ => False))
      { tmps := (ps.zip #[.int .i64 ((N : Int) - 1 - j), .int .u64 (rd zs ((N : Int) - 1 - j))]).foldl (fun t (p, v) => t.setIfInBounds p v) a.tmps, defers := [] } W)
    (hbody : ∀ (l j : Nat) (W : World), j < N → I j W → body.wpIn (Fence.wide.inRound l) (n - 1 - 1) Tryd.prog (fun e _ W' => e = .normal ∧ KeepsFrom w.heap.size W W' ∧ I (j + 1) W') (a₁ j) W)
    (hdone : ∀ (D : Nat) (W : World), w.heap.size ≤ D → I N W → W.heap[D]? = some (.deferred (some [])) → Q .normal { a with defers := { target := .collected D, args := #[] } :: a.defers } W) :
    (Code.rangeFunc g ps assign body).wpIn Fence.wide n Tryd.prog Q a w := by
  refine wpIn_rangeFunc fun fn hfn => ?_
  obtain ⟨rec, hrec⟩ : ∃ rec : LoopState → Loop, rec = fun st => { state := st, pending := none, fn, tmps := a.tmps, params := ps, assign, body, defers := w.heap.size } := ⟨_, rfl⟩
  obtain ⟨W1, hW1⟩ : ∃ W1, (w.alloc (.deferred (some []))).alloc (.loop (rec .ready)) = W1 := ⟨_, rfl⟩
  have hL : W1.heap[w.heap.size + 1]? = some (.loop (rec .ready)) := by
    rw [← hW1]
    have := World.alloc_heap_new (w.alloc (.deferred (some []))) (.loop (rec .ready))
    rwa [World.size_alloc] at this
  have hD : W1.heap[w.heap.size]? = some (.deferred (some [])) := by
    rw [← hW1]
    exact (Below.heap_alloc _ _ _ (by simp)).trans (World.alloc_heap_new w _)
  have hI1 : I 0 W1 := by rw [← hW1]; exact hI.alloc _ (hI.alloc _ h0)
  refine ⟨w.heap.size + 1, [{ target := .collected w.heap.size, args := #[] }], W1, { target := .fn (.func 104) #[.pointer (some ⟨Bs, 0, none⟩)], args := #[.func (.yield (w.heap.size + 1)) #[] #[]] }, W1, 104,
    #[.func (.yield (w.heap.size + 1)) #[] #[], .pointer (some ⟨Bs, 0, none⟩)], W1, ?_, ?_, fun _ _ => trivial, ?_, fun _ => by omega, ?_⟩
  · rw [← hW1, hrec]
    exact run_enterLoop_outer _ _ _ _ _
  · simp only [resolve, hg]
    simp [go_sem]
  · simp [invoke, go_sem, enters_of Tryd.func104 (by kernel_rfl) rfl]
  · refine (back_count Fence.wide (n - 1) trivial rfl (by omega) (w.heap.size + 1) Bs A0 N cap zs (fun j W => I j W ∧ W.heap[w.heap.size + 1]? = some (.loop (rec .ready)) ∧ W.heap[w.heap.size]? = some (.deferred (some []))) W1 hmx (fun j W h => hc j W h.1) ?_ ⟨hI1, hL, hD⟩).mono ?_
    · rintro j W hj ⟨hi, hl, hd⟩
      have hlt : w.heap.size + 1 < W.heap.size := (Array.getElem?_eq_some_iff.1 hl).1
      have hy := run_yield (P := Tryd.prog) (args := #[.int .i64 ((N : Int) - 1 - j), .int .u64 (rd zs ((N : Int) - 1 - j))]) hl (by rw [hrec]; simpa using hps.symm)
      rw [hrec] at hy
      refine ⟨fn, _, assign, body, hy, roundIn_of_wpIn hfn (hassign _ j W _ hj ?_)⟩
      have hl2 : (W.putObj (w.heap.size + 1) (.loop (rec .busy))).heap[w.heap.size + 1]? = some (.loop (rec .busy)) := World.putObj_heap_same hlt
      have hd2 : (W.putObj (w.heap.size + 1) (.loop (rec .busy))).heap[w.heap.size]? = some (.deferred (some [])) := (World.putObj_heap_other (by omega)).trans hd
      refine ⟨_, ?_, wpIn_mono (hbody _ j (W.putObj (w.heap.size + 1) (.loop (rec .busy))) hj (hI.putObj _ hi (by omega) hl rfl)) ?_⟩
      · have := run_beginRound (P := Tryd.prog) hl (by rw [hrec])
        rw [hrec] at this ⊢
        exact this
      · rintro e a3 W3 ⟨rfl, hk, hi3⟩
        have hl3 := hk.same _ _ (by omega) hl2 rfl
        have hd3 := hk.same _ _ (Nat.le_refl _) hd2 rfl
        have hr := run_endRound (P := Tryd.prog) none hl3
        rw [hrec] at hr hl3
        refine ⟨_, _, hr, rfl, hI.putObj _ hi3 (by omega) (by rw [hrec] at *; exact hl3) rfl, ?_, (World.putObj_heap_other (by omega)).trans hd3⟩
        rw [hrec]
        exact World.putObj_heap_same (Array.getElem?_eq_some_iff.1 hl3).1
    · rintro e W2 ⟨⟨v, rfl⟩, hi, hl, hd⟩
      have hr := run_endLoop (P := Tryd.prog) hl (by rw [hrec]; simp)
      rw [hrec] at hr hl
      exact ⟨none, _, hr, hdone _ _ (Nat.le_refl _) (hI.putObj _ hi (by omega) hl rfl) ((World.putObj_heap_other (by omega)).trans hd)⟩
theorem lift_op {F : Fence} {n : Nat} {P : Program} {o : Oper} {a : Act} {w : World} {K : Act → World → Prop} {Q : Exit → Act → World → Prop} (hF : F = Fence.wide ∨ ∃ l, F = Fence.wide.inRound l) (hnd : ∀ c, o.op ≠ .defer c)
    (h : o.wp P a w K (fun _ _ _ => False)) : o.wpIn F n P a w K Q := by
  have hfn : ∀ f, F.fn f := by rcases hF with rfl | ⟨l, rfl⟩ <;> exact fun _ => trivial
  have hdep : F.depth = none := by rcases hF with rfl | ⟨l, rfl⟩ <;> rfl
  have hcalls : ∀ {f : FuncId} {args : Array Value} {w : World} {R : Ending → World → Prop}, Calls P f args w R → CallsIn F (n - 1) P f args w R := by
    intro f args w R h
    rcases hF with rfl | ⟨l, rfl⟩
    · exact callsIn_wide.2 h
    · exact CallsIn.inRound l (callsIn_wide.2 h)
  have hrows : ∀ {row : String} {args : Array Value} {w : World} {R : Value → World → Prop}, Rows P row args w R → RowsIn F (n - 1) P row args w R := by
    intro row args w R h c cs _
    obtain ⟨v, w', r, s⟩ := h c cs
    refine ⟨v, w', r, ?_⟩
    rcases hF with rfl | ⟨l, rfl⟩
    · exact stepsIn_wide.2 s
    · exact stepsIn_wide.2 s
  have hsem : o.semAt F.round a.eval = execOp a.eval o := by
    rcases hF with rfl | ⟨l, rfl⟩
    · rfl
    · exact Oper.semAt_some _ _ _ hnd
  unfold Oper.wpIn
  refine ⟨fun f _ => hfn f, ?_⟩
  rw [hsem]
  unfold Oper.wp at h
  generalize (execOp a.eval o).run P w = r at *
  cases r with
  | ok x w' =>
    cases x <;> simp only [Oper.upon] at h <;> simp only [Oper.uponIn]
    case value => exact h
    case skip => exact h
    case defer => exact h
    case enter f args =>
      refine ⟨fun hs => by rw [hdep] at hs; simp at hs, (hcalls h).mono fun e w'' he => ?_⟩
      cases e with
      | returned v => exact he
      | panicked c => exact he.elim
      | outgrown => obtain ⟨_, _, hf⟩ := he; exact hf.elim
    case row row args => exact ⟨fun hs => by rw [hdep] at hs; simp at hs, hrows h⟩
  | halt x w' => cases x <;> simp only [Oper.upon] at h
theorem lift_any {F : Fence} {n : Nat} {P : Program} {md : Region.Mode} {ops : Array Oper} {Q : Exit → Act → World → Prop} (hF : F = Fence.wide ∨ ∃ l, F = Fence.wide.inRound l) (hnd : ∀ (j : Nat) (o : Oper) c, ops[j]? = some o → o.op ≠ .defer c) :
    ∀ (fuel : Nat) (listed : Array Bool) (a : Act) (w : World), wpAny P md ops (fun e a w => e = .normal ∧ Q .normal a w) fuel listed a w → wpAnyIn F n P md ops Q fuel listed a w
  | 0, _, _, _, h => ⟨h.1, h.2.2⟩
  | fuel + 1, listed, a, w, h => by
    have hfn : ∀ f, F.fn f := by rcases hF with rfl | ⟨l, rfl⟩ <;> exact fun _ => trivial
    refine ⟨fun h0 => (h.1 h0).2, fun i hi => ?_⟩
    have h2 := h.2 i hi
    unfold wpOp at h2
    unfold wpOpIn
    split
    · rename_i ho
      simp only [ho] at h2
      exact lift_any hF hnd fuel _ _ _ h2
    · rename_i o ho
      simp only [ho] at h2
      split
      · rename_i hw
        simp only [hw, if_true] at h2
        rcases h2 with h2 | ⟨_, _, _, hf, _⟩
        · refine lift_op hF (fun c => hnd i o c ho) ?_
          have h3 := Oper.wp_mono (K' := wpAnyIn F n P md ops Q fuel (listed.setIfInBounds i true)) (fun a w h => lift_any hF hnd fuel _ a w h) h2
          exact wp_exit h3
        · cases hf
      · rename_i hw
        simp only [hw] at h2
        exact ⟨fun f _ => hfn f, lift_any hF hnd fuel _ _ _ h2⟩
  where
  wp_exit {P : Program} {o : Oper} {a : Act} {w : World} {K : Act → World → Prop} {R : Act → World → Prop} (h : o.wp P a w K (fun e a w => e = .normal ∧ R a w)) : o.wp P a w K (fun _ _ _ => False) := by
    unfold Oper.wp at *
    generalize (execOp a.eval o).run P w = r at *
    cases r with
    | ok x w' =>
      cases x <;> simp only [Oper.upon] at h ⊢
      case value => exact h
      case skip => exact h
      case defer => exact h
      case enter f args =>
        refine Calls.mono h fun e w'' he => ?_
        cases e with
        | returned v => exact he
        | panicked c => exact absurd he.1 (by simp)
        | outgrown => obtain ⟨_, _, hf, _⟩ := he; cases hf
      case row row args => exact h
    | halt x w' => cases x <;> simp only [Oper.upon] at h ⊢ <;> exact absurd h.1 (by simp)
theorem startR_ {F : Fence} {m : Nat} {P : Program} {ops : Array Oper} {Q : Exit → Act → World → Prop} {S : World → Prop} {ds : List Nat} {id n : Nat} {a : Act} {w : World} (l : Array Bool) (hF : F = Fence.wide ∨ ∃ l, F = Fence.wide.inRound l) (hm : P.follows .mixedOrders = true) (hnd : noDefer ops.toList = true) (hn : ops.size = n) (hl : Array.replicate n false = l) (hS : S w.drew)
    (h : S w.drew → wpAnyLast P .any ops (fun e a w => e = .normal ∧ Q .normal a w) S ds n l a w.drew) : (Code.region id ops true).wpIn F m P Q a w := by
  subst hn
  subst hl
  exact wpIn_region_any hm (lift_any hF (fun j o c ho => noDefer_spec hnd j o c (by simpa using ho)) _ _ _ _ (wpAny_of_last _ _ _ _ (h hS)))
end Go.Proofs.YtjgdpjbkmcjbcaaDoor.PD
