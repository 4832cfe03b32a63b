/- bound.Value answers what its Lean function answers: a stop on the way is recovered; what it makes is new. -/
import Derived.Test.YtpdjahhimmaonaaDoorZBoundOwn44
import Derived.Test.YtpdjahhimmaonaaDoorZBoundOwn45
import Derived.Recover
import Derived.Defers
namespace Go.Proofs.YtpdjahhimmaonaaDoor.PD
open Go.RowKit Go.Proofs.YtpdjahhimmaonaaDoorW.PrintWords Go.Proofs.YtpdjahhimmaonaaDoorW.PrintLast Go.Proofs.YtpdjahhimmaonaaDoorW.PrintMore
set_option linter.unusedVariables false
set_option linter.unusedSimpArgs false
def stopped (e : Int) : List PanicEntry := [{ v := .iface 79 (.agg #[.int .i64 e]), recovered := false }]
section
variable {P : Program} {ops : Array Oper} {Q : Exit → Act → World → Prop}
theorem gp_ {rest : List Oper} {oi : Oper} {a : Act} {w : World} (N : Option Tmp) (hd : oi.dst = N) (hg : oi.guard = none) {f : FuncId} {fn : Func} {as0 : Array Operand} {ts : Array TypeId} (hf : P.funcs[f]? = some fn) (hname : (fn.name == "runtime.NumGoroutine") = false) (hb : fn.body.isSome = true) (args : Array Value)
  (hop : oi.op = .call { callee := .value (.func f), args := as0, argTypes := ts }) (hargs : as0.map a.eval = args)
  (h : Calls P f args w fun e w' => ∃ ch, e = .panicked ch ∧ Q (.panic ch) a w') : wpList P ops Q (oi :: rest) a w := by
 refine wpList_plain hg fun K hK => ?_
 have he := enters_ hf hname hb args w
 have hrun : (execOp a.eval oi).run P w = .ok (.enter f args) w := by
  unfold execOp
  simp [hop, resolve, Deferred.ofValue, invoke, Act.eval, hargs, he]
 unfold Oper.wp
 rw [hrun, Oper.upon_enter]
 refine h.mono fun e w'' hh => ?_
 obtain ⟨ch, rfl, hk⟩ := hh
 exact hk
theorem gpo_ {oi : Oper} {N : Option Tmp} {a : Act} {w : World} {K : Act → World → Prop} {f : FuncId} {fn : Func} {as0 : Array Operand} {ts : Array TypeId} (hf : P.funcs[f]? = some fn) (hname : (fn.name == "runtime.NumGoroutine") = false) (hb : fn.body.isSome = true) (args : Array Value)
  (hw : Region.wanted oi (yielded ops a.tmps) = true) (hop : oi.op = .call { callee := .value (.func f), args := as0, argTypes := ts }) (hargs : as0.map a.eval = args)
  (h : Calls P f args w fun e w' => ∃ ch, e = .panicked ch ∧ Q (.panic ch) a w') : if Region.wanted oi (yielded ops a.tmps) = true then Oper.wp P oi a w K Q else K (a.put N undef) w := by
 rw [if_pos hw]
 have he := enters_ hf hname hb args w
 have hrun : (execOp a.eval oi).run P w = .ok (.enter f args) w := by
  unfold execOp
  simp [hop, resolve, Deferred.ofValue, invoke, Act.eval, hargs, he]
 unfold Oper.wp
 rw [hrun, Oper.upon_enter]
 refine h.mono fun e w'' hh => ?_
 obtain ⟨ch, rfl, hk⟩ := hh
 exact hk
end
theorem fs_put3 {w W : World} {g b t e : Nat} {A : Option Addr} {c : Nat} {l : List Int} {ok : Nat → Prop} {x z c0 c1 c2 : Value} (hb : Below w.heap.size w W) (ge : w.heap.size ≤ g) (bk : W.heap[g]? = some (.cells #[c0, c1, c2] t (0, 0)))
  (R : Kd.R (Kd.int .u64) e W b ok (.slice A l.length c) l) (ht : ∀ q, q ∈ e :: (Kd.int .u64).E → q ≠ t) : FS [.bk g #[x, .slice A l.length c, z] t, .sv A c l, .bel w] (((W.setCell ⟨g, 0, none⟩ x).setCell ⟨g, 1, none⟩ (.slice A l.length c)).setCell ⟨g, 2, none⟩ z) := by
 refine FS.snoc (FS.snoc (FS.snoc FS.nil ?_) ?_) ?_
 ·
  exact below_set (below_set (below_set hb ge) ge) ge
 ·
  exact svR (Kd.R_far (p := ⟨g, 2, none⟩) (Kd.R_far (p := ⟨g, 1, none⟩) (Kd.R_far (p := ⟨g, 0, none⟩) (Kd.R_types R bk ht) (fun _ h => h.2) _) (fun _ h => h.2) _) (fun _ h => h.2) _)
 ·
  exact blk_put (blk_put (blk_put bk 0 x rfl) 1 _ rfl) 2 z rfl
theorem Fc.below' {W W' : World} {f : Fc} (h : f.at W) (hb : Below W.heap.size W W') : f.at W' := f.below hb h
theorem vC {W : World} {A : Option Addr} {c : Nat} {l : List Int} {e b : Nat} (h : (Fc.sv A c l).at W) : Kd.V (Kd.int .u64) e W b (fun _ => True) (.slice A l.length c) l := by
 obtain ⟨h1, h2⟩ := h
 exact Kd.V_mono (Kd.V_mk h1 (Kd.C_F (Kd.heap_int .u64) h2)) (fun _ _ => trivial)
set_option maxHeartbeats 2000000 in
set_option maxRecDepth 100000 in
theorem bound_must.pan (a0_0 : Bool) (A0_1 : Option Addr) (n0_1 c0_1 : Nat) (a0_2 : Int) (a1 : Int) (hne : a1 ≠ 0) (w : World) :
  Calls Tryd.prog 44 #[.agg #[.bool a0_0, .slice A0_1 n0_1 c0_1, .int .i64 a0_2], .int .i64 a1] w fun e w' => e = .panicked (stopped a1) ∧ Below w.heap.size w w' := by
 have hu1 := Tryd.underlying32
 have hu2 := Tryd.underlying66
 have hu3 := Tryd.underlying79
 have hb0 : (a1 == 0) = false := beq_eq_false_iff_ne.mpr hne
 have hb1 : (a1 != 0) = true := bne_iff_ne.mpr hne
 have hpn : ∀ (t : TypeId) (v : Value) (w : World), (Instr.panic (.iface t v)).run Tryd.prog w = .halt (.panic (.iface t v)) w := fun _ _ _ => rfl
 have HB := Aside0.mk (Below.refl w.heap.size w)
 go_enter Tryd.func44, Tryd.ntmps44
 go_wp2_with (first | ((with_reducible refine gate_dst (N := 2) rfl ?_); refine box_event ?hg (N := 2) ?hd (cs := #[.bool a0_0, .slice A0_1 n0_1 c0_1, .int .i64 a0_2]) (t := 32) ?hr ?_; (case hd => rfl); (case hg => rfl); (case hr => first | (go_simp; done) | (go_simp; rfl)); intro g1 hg w1 hbox hb; have HB2 := Aside0.mk (below_step HB.out hb); clear HB hb hbox hg; have HB := HB2; clear HB2) | ((with_reducible refine gate_dst (N := 4) rfl ?_); refine box_event ?hg (N := 4) ?hd (cs := #[.bool false, .slice none 0 0, .int .i64 0]) (t := 66) ?hr ?_; (case hd => rfl); (case hg => rfl); (case hr => first | (go_simp; done) | (go_simp; rfl)); intro g2 hg w2 hbox hb; have HB2 := Aside0.mk (below_step HB.out hb); clear HB hb hbox hg; have HB := HB2; clear HB2))
 exact ⟨rfl, rfl, HB.out⟩
def bound_num_times.o0 : Nat → List (S66) → Int → Int → Bool → List Int → Int → Option (Int × Bool × List Int × Int)
 | 0, _, _, _, _, _, _ => none
 | k + 1, l1, n, x9, x0, x1, x2 => if x9 < n then (if 0 ≤ x9 then (if x9 < (l1.length : Int) then ((dyadic_Mul.f k x0 x1 x2 ((rd_T66 l1 x9).f0.f0) ((rd_T66 l1 x9).f0.f1) ((rd_T66 l1 x9).f0.f2)).bind fun bt => (if bt.2.2.2 = 0 then bound_num_times.o0 k l1 n (wrap64 (x9 + 1)) bt.1 bt.2.1 bt.2.2.1 else some (bt.2.2.2, false, [], 0))) else none) else none) else some (0, x0, x1, x2)
def bound_num_times.o (k : Nat) (a0 : Bool) (a1 : List Int) (a2 : Int) (l1 : List (S66)) : Option (Int × Bool × List Int × Int) := if l1 = [] then none else bound_num_times.o0 k l1 (l1.length : Int) 0 a0 a1 a2
theorem bound_num_times.o0_ret : ∀ k l1 n x9 x0 x1 x2 r1 r2 r3, bound_num_times.o0 k l1 n x9 x0 x1 x2 = some (0, r1, r2, r3) → bound_num_times.l0 k l1 n x9 x0 x1 x2 = some (r1, r2, r3)
 | 0, _, _, _, _, _, _, _, _, _, h => by simp [bound_num_times.o0] at h
 | k + 1, l1, n, x9, x0, x1, x2, r1, r2, r3, h => by
  unfold bound_num_times.o0 at h
  unfold bound_num_times.l0
  by_cases c1 : x9 < n
  ·
   rw [if_pos c1] at h ⊢
   by_cases c2 : 0 ≤ x9
   ·
    rw [if_pos c2] at h ⊢
    by_cases c3 : x9 < (l1.length : Int)
    ·
     rw [if_pos c3] at h ⊢
     replace h := bx_ h
     obtain ⟨⟨t1, t2, t3, t4⟩, A, h⟩ := h
     rw [A.out]
     dsimp only at h
     by_cases z : t4 = 0
     ·
      rw [if_pos z] at h
      subst z
      rw [Option.bind_some]
      dsimp only
      rw [show bound_must.f t1 t2 t3 0 = some (t1, t2, t3) from if_pos rfl, Option.bind_some]
      exact bound_num_times.o0_ret k _ _ _ _ _ _ _ _ _ h
     ·
      rw [if_neg z] at h
      exact absurd (congrArg Prod.fst (Option.some.inj h)) z
    ·
     rw [if_neg c3] at h; cases h
   ·
    rw [if_neg c2] at h; cases h
  ·
   rw [if_neg c1] at h ⊢
   have e := Option.some.inj h
   rw [Prod.mk.injEq] at e
   rw [e.2]
theorem bound_num_times.o_ret {k : Nat} {a0 : Bool} {a1 : List Int} {a2 : Int} {l1 : List (S66)} {r1 : Bool} {r2 : List Int} {r3 : Int} (h : bound_num_times.o k a0 a1 a2 l1 = some (0, r1, r2, r3)) : bound_num_times.f k a0 a1 a2 l1 = some (r1, r2, r3) := by
 unfold bound_num_times.o at h
 unfold bound_num_times.f
 by_cases c : l1 = []
 ·
  rw [if_pos c] at h; cases h
 ·
  rw [if_neg c] at h ⊢
  exact bound_num_times.o0_ret _ _ _ _ _ _ _ _ _ _ h
set_option maxHeartbeats 4000000 in
set_option maxRecDepth 100000 in
theorem bound_num_times.pan (k : Nat) (a0_0 : Bool) (A0_1 : Option Addr) (c0_1 : Nat) (l0_1 : List Int) (a0_2 : Int) (A1 : Option Addr) (c1 : Nat) (l1 : List (S66)) (e : Int) (q0 : Bool) (q1 : List Int) (q2 : Int) (w : World) (hr0 : Kd.C (Kd.int .u64) w A0_1 l0_1.length l0_1) (hc0 : l0_1.length ≤ c0_1) (hr1 : Kd.C k66 w A1 l1.length l1) (hc1 : l1.length ≤ c1) (ht_ : Tz w) (hne : e ≠ 0) (h : bound_num_times.o k a0_0 l0_1 a0_2 l1 = some (e, q0, q1, q2)) :
  Calls Tryd.prog 41 #[.agg #[.bool a0_0, .slice A0_1 l0_1.length c0_1, .int .i64 a0_2], .slice A1 l1.length c1] w fun e' w' => e' = .panicked (stopped e) ∧ Below w.heap.size w w' := by
 have hu66 := Tryd.underlying66
 have hu32 := Tryd.underlying32
 have HT := Aside0.mk ht_
 have HR1 := Aside0.mk hr1
 have HNE := Aside0.mk hne
 have HF := Aside0.mk (FS.snoc (FS.snoc (FS.nil (W := w)) (f := .bel w) (Below.refl _ _)) (svC hr0 hc0))
 clear ht_ hr0 hc0 hr1 hc1 hne
 unfold bound_num_times.o at h
 by_cases hl : l1 = []
 ·
  rw [if_pos hl] at h; cases h
 rw [if_neg hl] at h
 clear hl
 have H' := Aside0.mk h
 clear h
 go_enter Tryd.func41, Tryd.ntmps41
 go_wp2_with (first | ((with_reducible refine gate_dst (N := 2) rfl ?_); refine box_event ?hg (N := 2) ?hd (cs := #[.bool a0_0, .slice A0_1 l0_1.length c0_1, .int .i64 a0_2]) (t := 66) ?hr ?_; (case hd => rfl); (case hg => rfl); (case hr => first | (go_simp; done) | (go_simp; rfl)); intro g1 hg w1 hbox hb; have GE1 := Aside0.mk (show w.heap.size ≤ g1 by rw [hg]; exact below_size ((fs_ HF).bel 1)); have HF2 := Aside0.mk (FS.snoc (f := .bk g1 #[.bool a0_0, .slice A0_1 l0_1.length c0_1, .int .i64 a0_2] 66) (fsb_ HF hb).out hbox); clear HF hg hbox hb; have HF := HF2; clear HF2) | ((with_reducible refine gate_dst (N := 4) rfl ?_); refine box_event ?hg (N := 4) ?hd (cs := #[.bool false, .slice none 0 0, .int .i64 0]) (t := 66) ?hr ?_; (case hd => rfl); (case hg => rfl); (case hr => first | (go_simp; done) | (go_simp; rfl)); intro g2 hg w2 hbox hb; have HF2 := fsb_ HF hb; clear HF hg hbox hb; have HF := HF2; clear HF2))
 go_loopg [9] k (fun kq v9 w' => ∃ (x9 : Int) (x0 : Bool) (x1 : List Int) (x2 : Int) (A : Option Addr) (c : Nat), v9 = .int .i64 x9 ∧ Aside0 (bound_num_times.o0 kq l1 (l1.length : Int) x9 x0 x1 x2 = some (e, q0, q1, q2)) ∧ Aside0 (kq ≤ k) ∧ Aside0 (FS [.bk g1 #[.bool x0, .slice A x1.length c, .int .i64 x2] 66, .sv A c x1, .bel w] w'))
 case atStart => exact ⟨0, a0_0, l0_1, a0_2, A0_1, c0_1, (by first | rfl | (simp; done) | (simp [*]; done)), H', ⟨Nat.le_refl _⟩, ⟨fs_ HF⟩⟩
 case round =>
  clear H'
  obtain ⟨x9, x0, x1, x2, A, c, rfl, HA, HK1, HF⟩ := hrel
  cases gk with
  | zero => exact absurd HA.out (by simp [bound_num_times.o0])
  | succ k1 =>
   have H := HA.out
   clear HA
   simp only [bound_num_times.o0] at H
   by_cases c5 : x9 < (l1.length : Int)
   ·
    rw [if_pos c5] at H
    by_cases c6 : 0 ≤ x9
    ·
     rw [if_pos c6, if_pos c5] at H
     replace H := bx_ H
     obtain ⟨⟨t1, t2, t3, t4⟩, A8, H⟩ := H
     dsimp only at H
     obtain ⟨ad, A_1, c_1, ee, hx0, hx1, hx2, hl1, hi1⟩ := at_T66 HR1.out x9 c6 c5
     cases ee
     have HBw := HF.out.bel 2
     replace hx0 := (HBw.cell (World.block_lt_of_cell? w _ hx0)).trans hx0
     replace hx1 := (HBw.cell (World.block_lt_of_cell? w _ hx1)).trans hx1
     replace hx2 := (HBw.cell (World.block_lt_of_cell? w _ hx2)).trans hx2
     have HE := Aside0.mk (show (Fc.sv A_1 c_1 ((rd_T66 l1 x9).f0.f1)).at w from ⟨hl1, hi1⟩)
     clear hl1 hi1 HBw
     have p1 := eq_true c6
     have p2 := eq_true c5
     have p2b : decide (x9 < (l1.length : Int)) = true := decide_eq_true c5
     have p1b : decide (0 ≤ x9) = true := decide_eq_true c6
     clear c5 c6
     obtain ⟨ha0, ha1, ha2⟩ := HF.out.c3 0
     by_cases z : t4 = 0
     ·
      rw [if_pos z] at H
      subst z
      have H' := Aside0.mk H
      clear H
      have HMU := Aside0.mk (show bound_must.f t1 t2 t3 0 = some (t1, t2, t3) from if_pos rfl)
      go_wp2_with (first | ((with_reducible refine gate_dst (N := 6) rfl ?_); refine box_event ?hg (N := 6) ?hd (cs := #[.bool false, .slice none 0 0, .int .i64 0]) (t := 66) ?hr ?_; (case hd => rfl); (case hg => rfl); (case hr => first | (go_simp; done) | (go_simp; rfl)); intro g6 hg w6 hbox hb; have HP := Aside0.mk (fs_ HF); have HS := Aside0.mk hb; have GE := Aside0.mk (Nat.le_of_eq hg.symm); have BK := Aside0.mk hbox; have hz0 : w6.cell? ⟨g6, 0, none⟩ = some (.bool false) := (blk_cell BK.out 0).trans rfl; have hf0 := blk_frozen BK.out 0; have hz1 : w6.cell? ⟨g6, 1, none⟩ = some (.slice none 0 0) := (blk_cell BK.out 1).trans rfl; have hf1 := blk_frozen BK.out 1; have hz2 : w6.cell? ⟨g6, 2, none⟩ = some (.int .i64 0) := (blk_cell BK.out 2).trans rfl; have hf2 := blk_frozen BK.out 2; clear HF hg hbox hb) | ((with_reducible refine gate_store (t := 66) (p := 6) rfl ?_); refine store_event (t := 66) (p := 6) (v := ?vo_w7) (w1 := (((w6.setCell ⟨g6, 0, none⟩ (.bool ((rd_T66 l1 x9).f0.f0))).setCell ⟨g6, 1, none⟩ (.slice A_1 ((rd_T66 l1 x9).f0.f1).length c_1)).setCell ⟨g6, 2, none⟩ (.int .i64 ((rd_T66 l1 x9).f0.f2)))) ?hg ?ho ?hn ?hr ?_; (case ho => rfl); (case hg => rfl); (case hn => rfl); (case hr => first | (go_simp; done) | (go_simp; rfl)); intro w7 hw; have HF := fs_store3 HP HS GE BK hw; clear HP HS GE BK hw hz0 hf0 hz1 hf1 hz2 hf2; (try clear ha0); (try clear ha1); (try clear ha2); obtain ⟨hb0, hb1, hb2⟩ := HF.out.c3 0; obtain ⟨ha0, ha1, ha2⟩ := HF.out.c3 1) | ((with_reducible refine gate_callee (f := 68) rfl ?_); refine goesL_ (some 17) rfl rfl Tryd.func68 (by kernel_rfl) rfl #[.agg #[.bool x0, .slice A x1.length c, .int .i64 x2], .agg #[.bool ((rd_T66 l1 x9).f0.f0), .slice A_1 ((rd_T66 l1 x9).f0.f1).length c_1, .int .i64 ((rd_T66 l1 x9).f0.f2)]] rfl (by (try simp only [List.map_toArray, List.map_cons, List.map_nil]); first | done | rfl) ?_; (with_reducible refine (dyadic_Mul.calls k1 x0 (fun _ => True) _ _ x1 x2 ((rd_T66 l1 x9).f0.f0) (fun _ => True) _ _ ((rd_T66 l1 x9).f0.f1) ((rd_T66 l1 x9).f0.f2) t1 t2 t3 0 _ ?side1 ?side2 ?sidet A8.out).mono ?_); (case sidet => exact tz_ HT (Aside0.mk ((fs_ HF).bel 3))); (case side1 => exact vC ((fs_ HF).sv 2)); (case side2 => exact vC (Fc.below' HE.out ((fs_ HF).bel 3))); rintro e w8 ⟨v8, rfl, ho0, hb⟩; refine ⟨_, rfl, ?_⟩; obtain ⟨A8_, c8_, rfl⟩ := Kd.R_slice ho0; have HM := HF; have HBM := Aside0.mk hb; have HRM := Aside0.mk ho0; clear hb ho0; (try clear ha0); (try clear ha1); (try clear ha2); (try clear hb0); (try clear hb1); (try clear hb2)) | ((with_reducible refine gate_callee (f := 44) rfl ?_); refine goesL_ (some 20) rfl rfl Tryd.func44 (by kernel_rfl) rfl #[.agg #[.bool t1, .slice A8_ t2.length c8_, .int .i64 t3], .int .i64 0] rfl (by (try simp only [List.map_toArray, List.map_cons, List.map_nil]); first | done | rfl) ?_; (with_reducible refine (bound_must.calls t1 (fun k_ => w7.heap.size ≤ k_) (.slice A8_ t2.length c8_) t2 t3 0 t1 t2 t3 w7 _ ?side1 ?side2 HMU.out).mono ?_); (case side1 => exact HBM.out); (case side2 => exact HRM.out); rintro e w9 ⟨v9_, rfl, ho0, hb, hkp⟩; refine ⟨_, rfl, ?_⟩; obtain ⟨A9, c9, rfl⟩ := Kd.R_slice ho0; have HR9 := Aside0.mk ho0; have HF2 := Aside0.mk (FS.snoc (FS.snoc (FS.snoc FS.nil (f := .bel w) ((HM.out.below hb).bel 3)) (f := .sv A c x1) ((HM.out.below hb).sv 2)) (f := .bk g1 #[.bool x0, .slice A x1.length c, .int .i64 x2] 66) ((HM.out.below hb).bk 1)); clear HF HM HBM HRM hb ho0 hkp; have HF := HF2; clear HF2; obtain ⟨ha0, ha1, ha2⟩ := HF.out.c3 0; have hf0 := blk_frozen (HF.out.bk 0) 0; have hf1 := blk_frozen (HF.out.bk 0) 1; have hf2 := blk_frozen (HF.out.bk 0) 2))
      go_roundg k1
      case measure => have := HK1.out; omega
      case rel => exact ⟨(wrap64 (x9 + 1)), t1, t2, t3, A9, c9, (by first | rfl | (simp; done) | (simp [*]; done)), H', ⟨by have := HK1.out; omega⟩, ⟨fs_put3 (HF.out.bel 2) GE1.out (HF.out.bk 0) HR9.out (by decide)⟩⟩
     ·
      rw [if_neg z] at H
      have He : t4 = e := congrArg Prod.fst (Option.some.inj H)
      subst He
      clear H
      go_wp2_with (first | ((with_reducible refine gate_dst (N := 6) rfl ?_); refine box_event ?hg (N := 6) ?hd (cs := #[.bool false, .slice none 0 0, .int .i64 0]) (t := 66) ?hr ?_; (case hd => rfl); (case hg => rfl); (case hr => first | (go_simp; done) | (go_simp; rfl)); intro g6 hg w6 hbox hb; have HP := Aside0.mk (fs_ HF); have HS := Aside0.mk hb; have GE := Aside0.mk (Nat.le_of_eq hg.symm); have BK := Aside0.mk hbox; have hz0 : w6.cell? ⟨g6, 0, none⟩ = some (.bool false) := (blk_cell BK.out 0).trans rfl; have hf0 := blk_frozen BK.out 0; have hz1 : w6.cell? ⟨g6, 1, none⟩ = some (.slice none 0 0) := (blk_cell BK.out 1).trans rfl; have hf1 := blk_frozen BK.out 1; have hz2 : w6.cell? ⟨g6, 2, none⟩ = some (.int .i64 0) := (blk_cell BK.out 2).trans rfl; have hf2 := blk_frozen BK.out 2; clear HF hg hbox hb) | ((with_reducible refine gate_store (t := 66) (p := 6) rfl ?_); refine store_event (t := 66) (p := 6) (v := ?vo_w7) (w1 := (((w6.setCell ⟨g6, 0, none⟩ (.bool ((rd_T66 l1 x9).f0.f0))).setCell ⟨g6, 1, none⟩ (.slice A_1 ((rd_T66 l1 x9).f0.f1).length c_1)).setCell ⟨g6, 2, none⟩ (.int .i64 ((rd_T66 l1 x9).f0.f2)))) ?hg ?ho ?hn ?hr ?_; (case ho => rfl); (case hg => rfl); (case hn => rfl); (case hr => first | (go_simp; done) | (go_simp; rfl)); intro w7 hw; have HF := fs_store3 HP HS GE BK hw; clear HP HS GE BK hw hz0 hf0 hz1 hf1 hz2 hf2; (try clear ha0); (try clear ha1); (try clear ha2); obtain ⟨hb0, hb1, hb2⟩ := HF.out.c3 0; obtain ⟨ha0, ha1, ha2⟩ := HF.out.c3 1) | ((with_reducible refine gate_callee (f := 68) rfl ?_); refine goesL_ (some 17) rfl rfl Tryd.func68 (by kernel_rfl) rfl #[.agg #[.bool x0, .slice A x1.length c, .int .i64 x2], .agg #[.bool ((rd_T66 l1 x9).f0.f0), .slice A_1 ((rd_T66 l1 x9).f0.f1).length c_1, .int .i64 ((rd_T66 l1 x9).f0.f2)]] rfl (by (try simp only [List.map_toArray, List.map_cons, List.map_nil]); first | done | rfl) ?_; (with_reducible refine (dyadic_Mul.calls k1 x0 (fun _ => True) _ _ x1 x2 ((rd_T66 l1 x9).f0.f0) (fun _ => True) _ _ ((rd_T66 l1 x9).f0.f1) ((rd_T66 l1 x9).f0.f2) t1 t2 t3 t4 _ ?side1 ?side2 ?sidet A8.out).mono ?_); (case sidet => exact tz_ HT (Aside0.mk ((fs_ HF).bel 3))); (case side1 => exact vC ((fs_ HF).sv 2)); (case side2 => exact vC (Fc.below' HE.out ((fs_ HF).bel 3))); rintro e w8 ⟨v8, rfl, ho0, hb⟩; refine ⟨_, rfl, ?_⟩; obtain ⟨A8_, c8_, rfl⟩ := Kd.R_slice ho0; have HM := HF; have HBM := Aside0.mk hb; have HRM := Aside0.mk ho0; clear hb ho0; (try clear ha0); (try clear ha1); (try clear ha2); (try clear hb0); (try clear hb1); (try clear hb2)) | ((with_reducible refine gate_callee (f := 44) rfl ?_); refine gp_ (some 20) rfl rfl Tryd.func44 (by kernel_rfl) rfl #[.agg #[.bool t1, .slice A8_ t2.length c8_, .int .i64 t3], .int .i64 t4] rfl (by (try simp only [List.map_toArray, List.map_cons, List.map_nil]); first | done | rfl) ?_; (with_reducible refine (bound_must.pan t1 _ _ _ t3 t4 z _).mono ?_); rintro e w9 ⟨rfl, hb⟩; refine ⟨_, rfl, ?_⟩; have HBP := Aside0.mk hb; clear hb))
      exact ⟨rfl, rfl, below_step ((HM.out.below HBM.out).bel 3) HBP.out⟩
    ·
     rw [if_neg c6] at H; cases H
   ·
    rw [if_neg c5] at H
    exact absurd (congrArg Prod.fst (Option.some.inj H)).symm HNE.out
def bound_num_plus.o0 : Nat → List (S66) → Int → Int → Bool → List Int → Int → Option (Int × Bool × List Int × Int)
 | 0, _, _, _, _, _, _ => none
 | k + 1, l1, n, x9, x0, x1, x2 => if x9 < n then (if 0 ≤ x9 then (if x9 < (l1.length : Int) then ((dyadic_Add.f k x0 x1 x2 ((rd_T66 l1 x9).f0.f0) ((rd_T66 l1 x9).f0.f1) ((rd_T66 l1 x9).f0.f2)).bind fun bt => (if bt.2.2.2 = 0 then bound_num_plus.o0 k l1 n (wrap64 (x9 + 1)) bt.1 bt.2.1 bt.2.2.1 else some (bt.2.2.2, false, [], 0))) else none) else none) else some (0, x0, x1, x2)
def bound_num_plus.o (k : Nat) (a0 : Bool) (a1 : List Int) (a2 : Int) (l1 : List (S66)) : Option (Int × Bool × List Int × Int) := if l1 = [] then none else bound_num_plus.o0 k l1 (l1.length : Int) 0 a0 a1 a2
theorem bound_num_plus.o0_ret : ∀ k l1 n x9 x0 x1 x2 r1 r2 r3, bound_num_plus.o0 k l1 n x9 x0 x1 x2 = some (0, r1, r2, r3) → bound_num_plus.l0 k l1 n x9 x0 x1 x2 = some (r1, r2, r3)
 | 0, _, _, _, _, _, _, _, _, _, h => by simp [bound_num_plus.o0] at h
 | k + 1, l1, n, x9, x0, x1, x2, r1, r2, r3, h => by
  unfold bound_num_plus.o0 at h
  unfold bound_num_plus.l0
  by_cases c1 : x9 < n
  ·
   rw [if_pos c1] at h ⊢
   by_cases c2 : 0 ≤ x9
   ·
    rw [if_pos c2] at h ⊢
    by_cases c3 : x9 < (l1.length : Int)
    ·
     rw [if_pos c3] at h ⊢
     replace h := bx_ h
     obtain ⟨⟨t1, t2, t3, t4⟩, A, h⟩ := h
     rw [A.out]
     dsimp only at h
     by_cases z : t4 = 0
     ·
      rw [if_pos z] at h
      subst z
      rw [Option.bind_some]
      dsimp only
      rw [show bound_must.f t1 t2 t3 0 = some (t1, t2, t3) from if_pos rfl, Option.bind_some]
      exact bound_num_plus.o0_ret k _ _ _ _ _ _ _ _ _ h
     ·
      rw [if_neg z] at h
      exact absurd (congrArg Prod.fst (Option.some.inj h)) z
    ·
     rw [if_neg c3] at h; cases h
   ·
    rw [if_neg c2] at h; cases h
  ·
   rw [if_neg c1] at h ⊢
   have e := Option.some.inj h
   rw [Prod.mk.injEq] at e
   rw [e.2]
theorem bound_num_plus.o_ret {k : Nat} {a0 : Bool} {a1 : List Int} {a2 : Int} {l1 : List (S66)} {r1 : Bool} {r2 : List Int} {r3 : Int} (h : bound_num_plus.o k a0 a1 a2 l1 = some (0, r1, r2, r3)) : bound_num_plus.f k a0 a1 a2 l1 = some (r1, r2, r3) := by
 unfold bound_num_plus.o at h
 unfold bound_num_plus.f
 by_cases c : l1 = []
 ·
  rw [if_pos c] at h; cases h
 ·
  rw [if_neg c] at h ⊢
  exact bound_num_plus.o0_ret _ _ _ _ _ _ _ _ _ _ h
set_option maxHeartbeats 4000000 in
set_option maxRecDepth 100000 in
theorem bound_num_plus.pan (k : Nat) (a0_0 : Bool) (A0_1 : Option Addr) (c0_1 : Nat) (l0_1 : List Int) (a0_2 : Int) (A1 : Option Addr) (c1 : Nat) (l1 : List (S66)) (e : Int) (q0 : Bool) (q1 : List Int) (q2 : Int) (w : World) (hr0 : Kd.C (Kd.int .u64) w A0_1 l0_1.length l0_1) (hc0 : l0_1.length ≤ c0_1) (hr1 : Kd.C k66 w A1 l1.length l1) (hc1 : l1.length ≤ c1) (ht_ : Tz w) (hne : e ≠ 0) (h : bound_num_plus.o k a0_0 l0_1 a0_2 l1 = some (e, q0, q1, q2)) :
  Calls Tryd.prog 43 #[.agg #[.bool a0_0, .slice A0_1 l0_1.length c0_1, .int .i64 a0_2], .slice A1 l1.length c1] w fun e' w' => e' = .panicked (stopped e) ∧ Below w.heap.size w w' := by
 have hu66 := Tryd.underlying66
 have hu32 := Tryd.underlying32
 have HT := Aside0.mk ht_
 have HR1 := Aside0.mk hr1
 have HNE := Aside0.mk hne
 have HF := Aside0.mk (FS.snoc (FS.snoc (FS.nil (W := w)) (f := .bel w) (Below.refl _ _)) (svC hr0 hc0))
 clear ht_ hr0 hc0 hr1 hc1 hne
 unfold bound_num_plus.o at h
 by_cases hl : l1 = []
 ·
  rw [if_pos hl] at h; cases h
 rw [if_neg hl] at h
 clear hl
 have H' := Aside0.mk h
 clear h
 go_enter Tryd.func43, Tryd.ntmps43
 go_wp2_with (first | ((with_reducible refine gate_dst (N := 2) rfl ?_); refine box_event ?hg (N := 2) ?hd (cs := #[.bool a0_0, .slice A0_1 l0_1.length c0_1, .int .i64 a0_2]) (t := 66) ?hr ?_; (case hd => rfl); (case hg => rfl); (case hr => first | (go_simp; done) | (go_simp; rfl)); intro g1 hg w1 hbox hb; have GE1 := Aside0.mk (show w.heap.size ≤ g1 by rw [hg]; exact below_size ((fs_ HF).bel 1)); have HF2 := Aside0.mk (FS.snoc (f := .bk g1 #[.bool a0_0, .slice A0_1 l0_1.length c0_1, .int .i64 a0_2] 66) (fsb_ HF hb).out hbox); clear HF hg hbox hb; have HF := HF2; clear HF2) | ((with_reducible refine gate_dst (N := 4) rfl ?_); refine box_event ?hg (N := 4) ?hd (cs := #[.bool false, .slice none 0 0, .int .i64 0]) (t := 66) ?hr ?_; (case hd => rfl); (case hg => rfl); (case hr => first | (go_simp; done) | (go_simp; rfl)); intro g2 hg w2 hbox hb; have HF2 := fsb_ HF hb; clear HF hg hbox hb; have HF := HF2; clear HF2))
 go_loopg [9] k (fun kq v9 w' => ∃ (x9 : Int) (x0 : Bool) (x1 : List Int) (x2 : Int) (A : Option Addr) (c : Nat), v9 = .int .i64 x9 ∧ Aside0 (bound_num_plus.o0 kq l1 (l1.length : Int) x9 x0 x1 x2 = some (e, q0, q1, q2)) ∧ Aside0 (kq ≤ k) ∧ Aside0 (FS [.bk g1 #[.bool x0, .slice A x1.length c, .int .i64 x2] 66, .sv A c x1, .bel w] w'))
 case atStart => exact ⟨0, a0_0, l0_1, a0_2, A0_1, c0_1, (by first | rfl | (simp; done) | (simp [*]; done)), H', ⟨Nat.le_refl _⟩, ⟨fs_ HF⟩⟩
 case round =>
  clear H'
  obtain ⟨x9, x0, x1, x2, A, c, rfl, HA, HK1, HF⟩ := hrel
  cases gk with
  | zero => exact absurd HA.out (by simp [bound_num_plus.o0])
  | succ k1 =>
   have H := HA.out
   clear HA
   simp only [bound_num_plus.o0] at H
   by_cases c5 : x9 < (l1.length : Int)
   ·
    rw [if_pos c5] at H
    by_cases c6 : 0 ≤ x9
    ·
     rw [if_pos c6, if_pos c5] at H
     replace H := bx_ H
     obtain ⟨⟨t1, t2, t3, t4⟩, A8, H⟩ := H
     dsimp only at H
     obtain ⟨ad, A_1, c_1, ee, hx0, hx1, hx2, hl1, hi1⟩ := at_T66 HR1.out x9 c6 c5
     cases ee
     have HBw := HF.out.bel 2
     replace hx0 := (HBw.cell (World.block_lt_of_cell? w _ hx0)).trans hx0
     replace hx1 := (HBw.cell (World.block_lt_of_cell? w _ hx1)).trans hx1
     replace hx2 := (HBw.cell (World.block_lt_of_cell? w _ hx2)).trans hx2
     have HE := Aside0.mk (show (Fc.sv A_1 c_1 ((rd_T66 l1 x9).f0.f1)).at w from ⟨hl1, hi1⟩)
     clear hl1 hi1 HBw
     have p1 := eq_true c6
     have p2 := eq_true c5
     have p2b : decide (x9 < (l1.length : Int)) = true := decide_eq_true c5
     have p1b : decide (0 ≤ x9) = true := decide_eq_true c6
     clear c5 c6
     obtain ⟨ha0, ha1, ha2⟩ := HF.out.c3 0
     by_cases z : t4 = 0
     ·
      rw [if_pos z] at H
      subst z
      have H' := Aside0.mk H
      clear H
      have HMU := Aside0.mk (show bound_must.f t1 t2 t3 0 = some (t1, t2, t3) from if_pos rfl)
      go_wp2_with (first | ((with_reducible refine gate_dst (N := 6) rfl ?_); refine box_event ?hg (N := 6) ?hd (cs := #[.bool false, .slice none 0 0, .int .i64 0]) (t := 66) ?hr ?_; (case hd => rfl); (case hg => rfl); (case hr => first | (go_simp; done) | (go_simp; rfl)); intro g6 hg w6 hbox hb; have HP := Aside0.mk (fs_ HF); have HS := Aside0.mk hb; have GE := Aside0.mk (Nat.le_of_eq hg.symm); have BK := Aside0.mk hbox; have hz0 : w6.cell? ⟨g6, 0, none⟩ = some (.bool false) := (blk_cell BK.out 0).trans rfl; have hf0 := blk_frozen BK.out 0; have hz1 : w6.cell? ⟨g6, 1, none⟩ = some (.slice none 0 0) := (blk_cell BK.out 1).trans rfl; have hf1 := blk_frozen BK.out 1; have hz2 : w6.cell? ⟨g6, 2, none⟩ = some (.int .i64 0) := (blk_cell BK.out 2).trans rfl; have hf2 := blk_frozen BK.out 2; clear HF hg hbox hb) | ((with_reducible refine gate_store (t := 66) (p := 6) rfl ?_); refine store_event (t := 66) (p := 6) (v := ?vo_w7) (w1 := (((w6.setCell ⟨g6, 0, none⟩ (.bool ((rd_T66 l1 x9).f0.f0))).setCell ⟨g6, 1, none⟩ (.slice A_1 ((rd_T66 l1 x9).f0.f1).length c_1)).setCell ⟨g6, 2, none⟩ (.int .i64 ((rd_T66 l1 x9).f0.f2)))) ?hg ?ho ?hn ?hr ?_; (case ho => rfl); (case hg => rfl); (case hn => rfl); (case hr => first | (go_simp; done) | (go_simp; rfl)); intro w7 hw; have HF := fs_store3 HP HS GE BK hw; clear HP HS GE BK hw hz0 hf0 hz1 hf1 hz2 hf2; (try clear ha0); (try clear ha1); (try clear ha2); obtain ⟨hb0, hb1, hb2⟩ := HF.out.c3 0; obtain ⟨ha0, ha1, ha2⟩ := HF.out.c3 1) | ((with_reducible refine gate_callee (f := 69) rfl ?_); refine goesL_ (some 17) rfl rfl Tryd.func69 (by kernel_rfl) rfl #[.agg #[.bool x0, .slice A x1.length c, .int .i64 x2], .agg #[.bool ((rd_T66 l1 x9).f0.f0), .slice A_1 ((rd_T66 l1 x9).f0.f1).length c_1, .int .i64 ((rd_T66 l1 x9).f0.f2)]] rfl (by (try simp only [List.map_toArray, List.map_cons, List.map_nil]); first | done | rfl) ?_; (with_reducible refine (dyadic_Add.calls k1 x0 (fun _ => True) _ _ x1 x2 ((rd_T66 l1 x9).f0.f0) (fun _ => True) _ _ ((rd_T66 l1 x9).f0.f1) ((rd_T66 l1 x9).f0.f2) t1 t2 t3 0 _ ?side1 ?side2 ?sidet A8.out).mono ?_); (case sidet => exact tz_ HT (Aside0.mk ((fs_ HF).bel 3))); (case side1 => exact vC ((fs_ HF).sv 2)); (case side2 => exact vC (Fc.below' HE.out ((fs_ HF).bel 3))); rintro e w8 ⟨v8, rfl, ho0, hb⟩; refine ⟨_, rfl, ?_⟩; obtain ⟨A8_, c8_, rfl⟩ := Kd.R_slice ho0; have HM := HF; have HBM := Aside0.mk hb; have HRM := Aside0.mk ho0; clear hb ho0; (try clear ha0); (try clear ha1); (try clear ha2); (try clear hb0); (try clear hb1); (try clear hb2)) | ((with_reducible refine gate_callee (f := 44) rfl ?_); refine goesL_ (some 20) rfl rfl Tryd.func44 (by kernel_rfl) rfl #[.agg #[.bool t1, .slice A8_ t2.length c8_, .int .i64 t3], .int .i64 0] rfl (by (try simp only [List.map_toArray, List.map_cons, List.map_nil]); first | done | rfl) ?_; (with_reducible refine (bound_must.calls t1 (fun k_ => w7.heap.size ≤ k_) (.slice A8_ t2.length c8_) t2 t3 0 t1 t2 t3 w7 _ ?side1 ?side2 HMU.out).mono ?_); (case side1 => exact HBM.out); (case side2 => exact HRM.out); rintro e w9 ⟨v9_, rfl, ho0, hb, hkp⟩; refine ⟨_, rfl, ?_⟩; obtain ⟨A9, c9, rfl⟩ := Kd.R_slice ho0; have HR9 := Aside0.mk ho0; have HF2 := Aside0.mk (FS.snoc (FS.snoc (FS.snoc FS.nil (f := .bel w) ((HM.out.below hb).bel 3)) (f := .sv A c x1) ((HM.out.below hb).sv 2)) (f := .bk g1 #[.bool x0, .slice A x1.length c, .int .i64 x2] 66) ((HM.out.below hb).bk 1)); clear HF HM HBM HRM hb ho0 hkp; have HF := HF2; clear HF2; obtain ⟨ha0, ha1, ha2⟩ := HF.out.c3 0; have hf0 := blk_frozen (HF.out.bk 0) 0; have hf1 := blk_frozen (HF.out.bk 0) 1; have hf2 := blk_frozen (HF.out.bk 0) 2))
      go_roundg k1
      case measure => have := HK1.out; omega
      case rel => exact ⟨(wrap64 (x9 + 1)), t1, t2, t3, A9, c9, (by first | rfl | (simp; done) | (simp [*]; done)), H', ⟨by have := HK1.out; omega⟩, ⟨fs_put3 (HF.out.bel 2) GE1.out (HF.out.bk 0) HR9.out (by decide)⟩⟩
     ·
      rw [if_neg z] at H
      have He : t4 = e := congrArg Prod.fst (Option.some.inj H)
      subst He
      clear H
      go_wp2_with (first | ((with_reducible refine gate_dst (N := 6) rfl ?_); refine box_event ?hg (N := 6) ?hd (cs := #[.bool false, .slice none 0 0, .int .i64 0]) (t := 66) ?hr ?_; (case hd => rfl); (case hg => rfl); (case hr => first | (go_simp; done) | (go_simp; rfl)); intro g6 hg w6 hbox hb; have HP := Aside0.mk (fs_ HF); have HS := Aside0.mk hb; have GE := Aside0.mk (Nat.le_of_eq hg.symm); have BK := Aside0.mk hbox; have hz0 : w6.cell? ⟨g6, 0, none⟩ = some (.bool false) := (blk_cell BK.out 0).trans rfl; have hf0 := blk_frozen BK.out 0; have hz1 : w6.cell? ⟨g6, 1, none⟩ = some (.slice none 0 0) := (blk_cell BK.out 1).trans rfl; have hf1 := blk_frozen BK.out 1; have hz2 : w6.cell? ⟨g6, 2, none⟩ = some (.int .i64 0) := (blk_cell BK.out 2).trans rfl; have hf2 := blk_frozen BK.out 2; clear HF hg hbox hb) | ((with_reducible refine gate_store (t := 66) (p := 6) rfl ?_); refine store_event (t := 66) (p := 6) (v := ?vo_w7) (w1 := (((w6.setCell ⟨g6, 0, none⟩ (.bool ((rd_T66 l1 x9).f0.f0))).setCell ⟨g6, 1, none⟩ (.slice A_1 ((rd_T66 l1 x9).f0.f1).length c_1)).setCell ⟨g6, 2, none⟩ (.int .i64 ((rd_T66 l1 x9).f0.f2)))) ?hg ?ho ?hn ?hr ?_; (case ho => rfl); (case hg => rfl); (case hn => rfl); (case hr => first | (go_simp; done) | (go_simp; rfl)); intro w7 hw; have HF := fs_store3 HP HS GE BK hw; clear HP HS GE BK hw hz0 hf0 hz1 hf1 hz2 hf2; (try clear ha0); (try clear ha1); (try clear ha2); obtain ⟨hb0, hb1, hb2⟩ := HF.out.c3 0; obtain ⟨ha0, ha1, ha2⟩ := HF.out.c3 1) | ((with_reducible refine gate_callee (f := 69) rfl ?_); refine goesL_ (some 17) rfl rfl Tryd.func69 (by kernel_rfl) rfl #[.agg #[.bool x0, .slice A x1.length c, .int .i64 x2], .agg #[.bool ((rd_T66 l1 x9).f0.f0), .slice A_1 ((rd_T66 l1 x9).f0.f1).length c_1, .int .i64 ((rd_T66 l1 x9).f0.f2)]] rfl (by (try simp only [List.map_toArray, List.map_cons, List.map_nil]); first | done | rfl) ?_; (with_reducible refine (dyadic_Add.calls k1 x0 (fun _ => True) _ _ x1 x2 ((rd_T66 l1 x9).f0.f0) (fun _ => True) _ _ ((rd_T66 l1 x9).f0.f1) ((rd_T66 l1 x9).f0.f2) t1 t2 t3 t4 _ ?side1 ?side2 ?sidet A8.out).mono ?_); (case sidet => exact tz_ HT (Aside0.mk ((fs_ HF).bel 3))); (case side1 => exact vC ((fs_ HF).sv 2)); (case side2 => exact vC (Fc.below' HE.out ((fs_ HF).bel 3))); rintro e w8 ⟨v8, rfl, ho0, hb⟩; refine ⟨_, rfl, ?_⟩; obtain ⟨A8_, c8_, rfl⟩ := Kd.R_slice ho0; have HM := HF; have HBM := Aside0.mk hb; have HRM := Aside0.mk ho0; clear hb ho0; (try clear ha0); (try clear ha1); (try clear ha2); (try clear hb0); (try clear hb1); (try clear hb2)) | ((with_reducible refine gate_callee (f := 44) rfl ?_); refine gp_ (some 20) rfl rfl Tryd.func44 (by kernel_rfl) rfl #[.agg #[.bool t1, .slice A8_ t2.length c8_, .int .i64 t3], .int .i64 t4] rfl (by (try simp only [List.map_toArray, List.map_cons, List.map_nil]); first | done | rfl) ?_; (with_reducible refine (bound_must.pan t1 _ _ _ t3 t4 z _).mono ?_); rintro e w9 ⟨rfl, hb⟩; refine ⟨_, rfl, ?_⟩; have HBP := Aside0.mk hb; clear hb))
      exact ⟨rfl, rfl, below_step ((HM.out.below HBM.out).bel 3) HBP.out⟩
    ·
     rw [if_neg c6] at H; cases H
   ·
    rw [if_neg c5] at H
    exact absurd (congrArg Prod.fst (Option.some.inj H)).symm HNE.out
set_option maxHeartbeats 2000000 in
set_option maxRecDepth 100000 in
theorem bound_Value1.pan (g8 g9 : Nat) (x0 x1 x2 y0 : Value) (e : Int) (older : List PanicEntry) (w : World) (hne : g8 ≠ g9) (b8 : w.heap[g8]? = some (.cells #[x0, x1, x2] 32 (0, 0))) (b9 : w.heap[g9]? = some (.cells #[y0] 24 (0, 0))) :
  CallsD Tryd.prog 40 #[.pointer (some ⟨g8, 0, none⟩), .pointer (some ⟨g9, 0, none⟩)] (.panicking ({ v := .iface 79 (.agg #[.int .i64 e]), recovered := false } :: older)) w fun e' u' w' =>
   e' = .returned (.tuple #[]) ∧ u' = .panicking ({ v := .iface 79 (.agg #[.int .i64 e]), recovered := true } :: older) ∧ w'.heap[g8]? = some (.cells #[.bool false, .slice none 0 0, .int .i64 0] 32 (0, 0)) ∧ w'.heap[g9]? = some (.cells #[.int .i64 e] 24 (0, 0)) ∧
   ∀ w0 : World, Below w0.heap.size w0 w → w0.heap.size ≤ g8 → w0.heap.size ≤ g9 → Below w0.heap.size w0 w' := by
 have hu1 := Tryd.underlying32
 have hu3 := Tryd.underlying79
 have hu4 := Tryd.underlying24
 have ta1 : ∀ (v : Value) (w : World), (Instr.typeAssert (.iface 79 v) 20 79 true).run Tryd.prog w = .ok (.tuple #[v, .bool true]) w := fun _ _ => by kernel_rfl
 refine callsD_of_wpS Tryd.func40 rfl fun c₀ cs hu => ?_
 simp only [Tryd.ntmps40, List.size_toArray, List.length_cons, List.length_nil, Nat.reduceAdd, Nat.reduceSub, Array.replicate_succ, Array.replicate_zero, List.push_toArray, List.append_toArray, List.nil_append, List.cons_append]
 apply wpS_seq
 apply wpS_region
 simp [wpOpsS, go_sem, recoverD, hu, hu1, hu3, hu4, ta1, Exit.thenS]
 have d8 : g8 ≠ w.heap.size := Nat.ne_of_lt (blk_lt b8)
 have d9 : g9 ≠ w.heap.size := Nat.ne_of_lt (blk_lt b9)
 have bs := blk_new w (.cells #[.int .i64 e] 79 (0, 0))
 have hbw : Below w.heap.size w (w.alloc (.cells #[.int .i64 e] 79 (0, 0))) := below_alloc (Below.refl _ _) _
 have hball : ∀ w0 : World, Below w0.heap.size w0 w → Below w0.heap.size w0 (w.alloc (.cells #[.int .i64 e] 79 (0, 0))) := fun w0 h => below_step h hbw
 replace b8 := blk_below b8 hbw
 replace b9 := blk_below b9 hbw
 clear hbw
 generalize w.alloc (.cells #[.int .i64 e] 79 (0, 0)) = W1 at b8 b9 bs hball ⊢
 generalize w.heap.size = gs at d8 d9 bs ⊢
 have d8' := d8.symm
 have d9' := d9.symm
 have hne' := hne.symm
 have hs0 : W1.cell? ⟨gs, 0, none⟩ = some (.int .i64 e) := (blk_cell bs 0).trans rfl
 have h80 : W1.cell? ⟨g8, 0, none⟩ = some x0 := (blk_cell b8 0).trans rfl
 have h81 : W1.cell? ⟨g8, 1, none⟩ = some x1 := (blk_cell b8 1).trans rfl
 have h82 : W1.cell? ⟨g8, 2, none⟩ = some x2 := (blk_cell b8 2).trans rfl
 have h90 : W1.cell? ⟨g9, 0, none⟩ = some y0 := (blk_cell b9 0).trans rfl
 have f80 := blk_frozen b8 0
 have f81 := blk_frozen b8 1
 have f82 := blk_frozen b8 2
 have f90 := blk_frozen b9 0
 refine wpS_of_wp ?_
 go_wp2
 go_region
 refine ⟨rfl, _, rfl, _, results_none rfl _ _ _, rfl, rfl, ?_, ?_, fun w0 hb h8 h9 => ?_⟩
 ·
  exact blk_drew (blk_far (blk_put (blk_put (blk_put b8 0 _ rfl) 1 _ rfl) 2 _ rfl) hne _)
 ·
  exact blk_drew (blk_put (blk_far (blk_far (blk_far b9 hne' _) hne' _) hne' _) 0 _ rfl)
 ·
  exact below_drew1 (below_set (below_set (below_set (below_set (hball w0 hb) h8) h8) h8) h9)
set_option maxHeartbeats 2000000 in
set_option maxRecDepth 100000 in
theorem bound_Value1.idle (g8 g9 : Nat) (w : World) :
  CallsD Tryd.prog 40 #[.pointer (some ⟨g8, 0, none⟩), .pointer (some ⟨g9, 0, none⟩)] .returning w fun e' u' w' => e' = .returned (.tuple #[]) ∧ u' = .returning ∧ Below w.heap.size w w' := by
 have hu1 := Tryd.underlying32
 have hu3 := Tryd.underlying79
 have hu4 := Tryd.underlying24
 have ta0 : ∀ (w : World), (Instr.typeAssert .nilIface 20 79 true).run Tryd.prog w = .ok (.tuple #[.agg #[.int .i64 0], .bool false]) w := fun _ => by kernel_rfl
 refine callsD_of_wpS Tryd.func40 rfl fun c₀ cs hu => ?_
 simp only [Tryd.ntmps40, List.size_toArray, List.length_cons, List.length_nil, Nat.reduceAdd, Nat.reduceSub, Array.replicate_succ, Array.replicate_zero, List.push_toArray, List.append_toArray, List.nil_append, List.cons_append]
 apply wpS_seq
 apply wpS_region
 simp [wpOpsS, go_sem, recoverD, hu, hu1, hu3, hu4, ta0, Exit.thenS]
 refine wpS_of_wp ?_
 go_wp2
 exact ⟨rfl, _, by rw [← hu], _, results_none rfl _ _ _, rfl, rfl, below_alloc (Below.refl _ _) _⟩
def bound_Value.f (k : Nat) (a0_0 : Bool) (l0_1 : List Int) (a0_2 : Int) (a0_3 : Bool) (l0_4 : List Int) (a0_5 : Int) (a1_0 : Bool) (l1_1 : List Int) (a1_2 : Int) (a2_0 : Bool) (l2_1 : List Int) (a2_2 : Int) (a3 : Bool) : Option (Bool × List Int × Int × Int) :=
 if a3 = true then none else (bound_checked.f k ([(⟨a0_0, l0_1, a0_2⟩ : S32), (⟨a0_3, l0_4, a0_5⟩ : S32), (⟨a1_0, l1_1, a1_2⟩ : S32), (⟨a2_0, l2_1, a2_2⟩ : S32)] : List (S32))).bind fun e => (if e = 0 then ((bound_num_times.o k a0_0 l0_1 a0_2 ([(⟨(⟨a1_0, l1_1, a1_2⟩ : S32)⟩ : S66), (⟨(⟨a2_0, l2_1, a2_2⟩ : S32)⟩ : S66)] : List (S66))).bind fun t => (if t.1 = 0 then ((bound_num_plus.o k t.2.1 t.2.2.1 t.2.2.2 ([(⟨(⟨a0_3, l0_4, a0_5⟩ : S32)⟩ : S66)] : List (S66))).bind fun s => (if s.1 = 0 then ((dyadic_Norm.f k s.2.1 s.2.2.1 s.2.2.2).bind fun n => (if n.2.2.2 = 0 then some (n.1, n.2.1, n.2.2.1, 0) else some (false, [], 0, n.2.2.2))) else some (false, [], 0, s.1))) else some (false, [], 0, t.1))) else some (false, [], 0, e))
theorem bound_Value.cases {k : Nat} {a0 : Bool} {a1 : List Int} {a2 : Int} {l1 l2 : List (S66)} {r : Bool × List Int × Int × Int}
  (h : ((bound_num_times.o k a0 a1 a2 l1).bind fun t => (if t.1 = 0 then ((bound_num_plus.o k t.2.1 t.2.2.1 t.2.2.2 l2).bind fun s => (if s.1 = 0 then ((dyadic_Norm.f k s.2.1 s.2.2.1 s.2.2.2).bind fun n => (if n.2.2.2 = 0 then some (n.1, n.2.1, n.2.2.1, 0) else some (false, [], 0, n.2.2.2))) else some (false, [], 0, s.1))) else some (false, [], 0, t.1))) = some r) :
  ∃ (tc : Int) (t1 : Bool) (t2 : List Int) (t3 : Int), Aside0 (bound_num_times.o k a0 a1 a2 l1 = some (tc, t1, t2, t3)) ∧ ∃ (sc : Int) (s1 : Bool) (s2 : List Int) (s3 : Int), Aside0 (tc ≠ 0 → r = (false, [], 0, tc)) ∧ Aside0 (tc = 0 → bound_num_plus.o k t1 t2 t3 l2 = some (sc, s1, s2, s3)) ∧ Aside0 (tc = 0 → sc ≠ 0 → r = (false, [], 0, sc)) ∧
   Aside0 (tc = 0 → sc = 0 → ∃ (n1 : Bool) (n2 : List Int) (n3 : Int) (nc : Int), dyadic_Norm.f k s1 s2 s3 = some (n1, n2, n3, nc) ∧ (nc ≠ 0 → r = (false, [], 0, nc)) ∧ (nc = 0 → r = (n1, n2, n3, 0))) := by
 replace h := bx_ h
 obtain ⟨⟨tc, t1, t2, t3⟩, A, h⟩ := h
 dsimp only at h
 by_cases z : tc = 0
 ·
  rw [if_pos z] at h
  replace h := bx_ h
  obtain ⟨⟨sc, s1, s2, s3⟩, B, h⟩ := h
  dsimp only at h
  refine ⟨tc, t1, t2, t3, A, sc, s1, s2, s3, ⟨fun q => absurd z q⟩, ⟨fun _ => B.out⟩, ⟨fun _ q => ?_⟩, ⟨fun _ q => ?_⟩⟩
  ·
   rw [if_neg q] at h
   exact (Option.some.inj h).symm
  ·
   rw [if_pos q] at h
   replace h := bx_ h
   obtain ⟨⟨n1, n2, n3, nc⟩, C, h⟩ := h
   dsimp only at h
   refine ⟨n1, n2, n3, nc, C.out, fun q => ?_, fun q => ?_⟩
   ·
    rw [if_neg q] at h
    exact (Option.some.inj h).symm
   ·
    rw [if_pos q] at h
    exact (Option.some.inj h).symm
 ·
  rw [if_neg z] at h
  exact ⟨tc, t1, t2, t3, A, 0, false, [], 0, ⟨fun _ => (Option.some.inj h).symm⟩, ⟨fun q => absurd q z⟩, ⟨fun q => absurd q z⟩, ⟨fun q => absurd q z⟩⟩
theorem fldnum (w : World) (v0 v1 v2 : Value) : Sem.run Tryd.prog (Instr.field 66 (.agg #[v0, v1, v2]) 0) w = .ok (.agg #[v0, v1, v2]) w := by
 have hu := Tryd.underlying66
 have hv := Tryd.underlying32
 unfold Instr.field asAgg
 go_simp
theorem val_res {T : Array Value} {W : World} {g8 g9 : Nat} {b : Bool} {s : Value} {x c : Int} (h8 : T[8]? = some (.pointer (some ⟨g8, 0, none⟩))) (h9 : T[9]? = some (.pointer (some ⟨g9, 0, none⟩))) (b8 : W.heap[g8]? = some (.cells #[.bool b, s, .int .i64 x] 32 (0, 0))) (b9 : W.heap[g9]? = some (.cells #[.int .i64 c] 24 (0, 0))) :
  (results Tryd.f16 T).run Tryd.prog W = .ok (.tuple #[.agg #[.bool b, s, .int .i64 x], .int .i64 c]) W := by
 have hc9 : W.cell? ⟨g9, 0, none⟩ = some (.int .i64 c) := (blk_cell b9 0).trans rfl
 have hu4 := Tryd.underlying24
 have h1 : T[8]?.getD undef = .pointer (some ⟨g8, 0, none⟩) := by rw [h8]; rfl
 have h2 : T[9]?.getD undef = .pointer (some ⟨g9, 0, none⟩) := by rw [h9]; rfl
 have e8 := run_loadVar_row (P := Tryd.prog) W g8 32 32 #[.bool b, s, .int .i64 x] (0, 0) _ b8 Tryd.underlying32 rfl (by kernel_rfl)
 have e9 : (loadVar 24 ⟨g9, 0, none⟩).run Tryd.prog W = .ok (.int .i64 c) W := by simp [go_sem, hc9, hu4]
 simp [results, show Tryd.f16.results = #[ResultVar.cell 8 32, ResultVar.cell 9 24] from rfl, h1, h2, asAddr, e8, e9]
theorem tail_pan {T : Array Value} {w W : World} {g8 g9 : Nat} {x0 x1 x2 y0 : Value} {ec : Int} (h8 : T[8]? = some (.pointer (some ⟨g8, 0, none⟩))) (h9 : T[9]? = some (.pointer (some ⟨g9, 0, none⟩))) (b8 : W.heap[g8]? = some (.cells #[x0, x1, x2] 32 (0, 0))) (b9 : W.heap[g9]? = some (.cells #[y0] 24 (0, 0))) (hne : g8 ≠ g9)
  (hb : Below w.heap.size w W) (ge8 : w.heap.size ≤ g8) (ge9 : w.heap.size ≤ g9) : Leaves Tryd.prog Tryd.f16 T (fun e w' => ∃ v1_ : Value, e = .returned (.tuple #[.agg #[.bool false, v1_, .int .i64 0], .int .i64 ec]) ∧ Kd.R (Kd.int .u64) 22 w' w.heap.size (fun _ => True) v1_ [] ∧ Below w.heap.size w w') [{ target := .fn (.func 40) #[.pointer (some ⟨g8, 0, none⟩), .pointer (some ⟨g9, 0, none⟩)], args := #[] }] (.panicking (stopped ec)) W := by
 refine leaves_cons (f := 40) (args := #[.pointer (some ⟨g8, 0, none⟩), .pointer (some ⟨g9, 0, none⟩)]) (by simp) (by simp [go_sem]) ?_
 refine (bound_Value1.pan g8 g9 x0 x1 x2 y0 ec [] W hne b8 b9).mono ?_
 rintro e u' w' ⟨rfl, rfl, c8, c9, hbl⟩
 exact ⟨_, val_res h8 h9 c8 c9, _, rfl, Kd.R_nil _ _ _ _ _, hbl w hb ge8 ge9⟩
theorem tail_ok {T : Array Value} {w W : World} {g8 g9 : Nat} {b : Bool} {A : Option Addr} {c : Nat} {l : List Int} {x ec : Int} {b0 : Nat} (h8 : T[8]? = some (.pointer (some ⟨g8, 0, none⟩))) (h9 : T[9]? = some (.pointer (some ⟨g9, 0, none⟩))) (b8 : W.heap[g8]? = some (.cells #[.bool b, .slice A l.length c, .int .i64 x] 32 (0, 0))) (b9 : W.heap[g9]? = some (.cells #[.int .i64 ec] 24 (0, 0)))
  (hb : Below w.heap.size w W) (R : Kd.R (Kd.int .u64) 22 W b0 (fun _ => True) (.slice A l.length c) l) (hb0 : w.heap.size ≤ b0) : Leaves Tryd.prog Tryd.f16 T (fun e w' => ∃ v1_ : Value, e = .returned (.tuple #[.agg #[.bool b, v1_, .int .i64 x], .int .i64 ec]) ∧ Kd.R (Kd.int .u64) 22 w' w.heap.size (fun _ => True) v1_ l ∧ Below w.heap.size w w') [{ target := .fn (.func 40) #[.pointer (some ⟨g8, 0, none⟩), .pointer (some ⟨g9, 0, none⟩)], args := #[] }] .returning W := by
 refine leaves_cons (f := 40) (args := #[.pointer (some ⟨g8, 0, none⟩), .pointer (some ⟨g9, 0, none⟩)]) (by simp) (by simp [go_sem]) ?_
 refine (bound_Value1.idle g8 g9 W).mono ?_
 rintro e u' w' ⟨rfl, rfl, hbl⟩
 exact ⟨_, val_res h8 h9 (blk_below b8 hbl) (blk_below b9 hbl), _, rfl, Kd.R_lower (Kd.R_below R hbl) hb0, below_step hb hbl⟩
theorem size3 (cs : Array Value) (h : cs.size = 3) : ∃ x y z, cs = #[x, y, z] := by
 obtain ⟨l⟩ := cs
 match l, h with
 | [x, y, z], _ => exact ⟨x, y, z, rfl⟩
theorem region_vals {P : Program} {ops : Array Oper} {Q : Exit → Act → World → Prop} {id last : Nat} {t0 : Array Value} {df : List Deferred} {w0 w : World} {n0 : Nat} (hm : P.follows .mixedOrders = true) (deps : Nat → List Nat) (keep : Nat → Bool) (dst : Nat → Nat) (hinj : ∀ i j, i ≠ j → dst i ≠ dst j) (hlt : ∀ i, i < last → dst i < n0) (hB : factsB ops last deps (fun _ => []) keep dst = true)
  (F : Nat → Value → World → Prop) (hn : t0.size = n0) (hb : Below w0.heap.size w0 w.drew) (hF : ∀ i, i < last → ∀ v W W', F i v W → Below W.heap.size W W' → F i v W')
  (hop : ∀ i o, i < last → ops[i]? = some o → ∀ (T : Array Value) (W : World), T.size = n0 → (∀ j, keep j = true → T[j]? = t0[j]?) → Below w0.heap.size w0 W → (∀ k ∈ deps i, ∃ v, T[dst k]? = some v ∧ F k v W) →
   wpOp P ops Q i (fun a' w' => ∃ v, a' = ⟨T.setIfInBounds (dst i) v, df⟩ ∧ Below W.heap.size W w' ∧ F i v w') ⟨T, df⟩ W)
  (hlast : ∀ o, ops[last]? = some o → ∀ (T : Array Value) (W : World), T.size = n0 → (∀ j, keep j = true → T[j]? = t0[j]?) → Below w0.heap.size w0 W → (∀ k, k < last → ∃ v, T[dst k]? = some v ∧ F k v W) → wpOp P ops Q last (fun a' w' => Q .normal a' w') ⟨T, df⟩ W) :
  (Code.region id ops true).wp P Q ⟨t0, df⟩ w := by
 refine region_facts (w0 := w0) hm deps (fun _ => []) keep dst hB (fun i T W => ∃ v, T[dst i]? = some v ∧ F i v W) hn hb ?_ ?_ hlast
 ·
  intro i hi T W j v W' hne h hbl
  obtain ⟨u, hu, hf⟩ := h
  refine ⟨u, ?_, hF i hi u W W' hf hbl⟩
  rw [Array.getElem?_setIfInBounds_ne (Ne.symm (hinj i j (hne i (by simp))))]
  exact hu
 ·
  intro i o hi ho T W hT hk hbl hd
  refine wpOp_mono (fun a' w' hq => ?_) (hop i o hi ho T W hT hk hbl hd)
  obtain ⟨v, rfl, h1, h2⟩ := hq
  exact ⟨v, rfl, h1, v, Array.getElem?_setIfInBounds_self_of_lt (by rw [hT]; exact hlt i hi), h2⟩
set_option maxHeartbeats 4000000 in
set_option maxRecDepth 100000 in
theorem bound_Value.calls (k : Nat) (a0_0 : Bool) (A0_1 : Option Addr) (c0_1 : Nat) (l0_1 : List Int) (a0_2 : Int) (a0_3 : Bool) (A0_4 : Option Addr) (c0_4 : Nat) (l0_4 : List Int) (a0_5 : Int) (a1_0 : Bool) (A1_1 : Option Addr) (c1_1 : Nat) (l1_1 : List Int) (a1_2 : Int) (a2_0 : Bool) (A2_1 : Option Addr) (c2_1 : Nat) (l2_1 : List Int) (a2_2 : Int) (a3 : Bool) (r1 : Bool) (r2 : List Int) (r3 : Int) (r4 : Int) (w : World) (hr0_1 : Kd.C (Kd.int .u64) w A0_1 l0_1.length l0_1) (hc0_1 : l0_1.length ≤ c0_1) (hr0_4 : Kd.C (Kd.int .u64) w A0_4 l0_4.length l0_4) (hc0_4 : l0_4.length ≤ c0_4) (hr1_1 : Kd.C (Kd.int .u64) w A1_1 l1_1.length l1_1) (hc1_1 : l1_1.length ≤ c1_1) (hr2_1 : Kd.C (Kd.int .u64) w A2_1 l2_1.length l2_1) (hc2_1 : l2_1.length ≤ c2_1) (ht_ : Tz w) (h : bound_Value.f k a0_0 l0_1 a0_2 a0_3 l0_4 a0_5 a1_0 l1_1 a1_2 a2_0 l2_1 a2_2 a3 = some (r1, r2, r3, r4)) :
  Calls Tryd.prog 16 #[.agg #[.bool a0_0, .slice A0_1 l0_1.length c0_1, .int .i64 a0_2, .bool a0_3, .slice A0_4 l0_4.length c0_4, .int .i64 a0_5], .agg #[.bool a1_0, .slice A1_1 l1_1.length c1_1, .int .i64 a1_2], .agg #[.bool a2_0, .slice A2_1 l2_1.length c2_1, .int .i64 a2_2], .bool a3] w fun e w' => ∃ v1_ : Value, e = .returned (.tuple #[.agg #[.bool r1, v1_, .int .i64 r3], .int .i64 r4]) ∧ Kd.R (Kd.int .u64) 22 w' w.heap.size (fun _ => True) v1_ r2 ∧ Below w.heap.size w w' := by
 have hu1 := Tryd.underlying32
 have hu2 := Tryd.underlying66
 have hu3 := Tryd.underlying34
 have hu4 := Tryd.underlying24
 have hmf : ∀ (fn : Fn) (first cap : Array Value) (w : World), (Instr.makeFunc fn first cap).run Tryd.prog w = .ok (.func fn first cap) w := fun _ _ _ _ => rfl
 have hfl := fldnum
 have HT := Aside0.mk ht_
 have HF := Aside0.mk (((((FS.nil (W := w)).snoc (f := .bel w) (Below.refl _ _)).snoc (svC hr0_1 hc0_1)).snoc (svC hr0_4 hc0_4)).snoc (svC hr1_1 hc1_1) |>.snoc (svC hr2_1 hc2_1))
 clear ht_ hr0_1 hr0_4 hr1_1 hr2_1 hc0_1 hc0_4 hc1_1 hc2_1
 unfold bound_Value.f at h
 cases a3 with
 | true => rw [if_pos rfl] at h; cases h
 | false =>
  rw [if_neg (by decide)] at h
  replace h := bx_ h
  obtain ⟨e0, B1, h⟩ := h
  by_cases z0 : e0 = 0
  ·
   subst z0
   rw [if_pos rfl] at h
   replace h := bound_Value.cases h
   obtain ⟨tc, t1, t2, t3, C1, sc, s1, s2, s3, C2, C3, C4, C5⟩ := h
   go_enter_defers Tryd.func16, Tryd.ntmps16
   go_wp2_with (first | ((with_reducible refine gate_dst (N := 4) rfl ?_); refine box_event ?hg (N := 4) ?hd (cs := #[.bool a0_0, .slice A0_1 l0_1.length c0_1, .int .i64 a0_2, .bool a0_3, .slice A0_4 l0_4.length c0_4, .int .i64 a0_5]) (t := 34) ?hr ?_; (case hd => rfl); (case hg => rfl); (case hr => first | (go_simp; done) | (go_simp; rfl)); intro gb hg w21 hbox hb; have HF2 := Aside0.mk (FS.snoc (f := .bk gb #[.bool a0_0, .slice A0_1 l0_1.length c0_1, .int .i64 a0_2, .bool a0_3, .slice A0_4 l0_4.length c0_4, .int .i64 a0_5] 34) (fsb_ HF hb).out hbox); clear HF hg hbox hb; have HF := HF2; clear HF2) | ((with_reducible refine gate_dst (N := 5) rfl ?_); refine box_event ?hg (N := 5) ?hd (cs := #[.bool a1_0, .slice A1_1 l1_1.length c1_1, .int .i64 a1_2]) (t := 32) ?hr ?_; (case hd => rfl); (case hg => rfl); (case hr => first | (go_simp; done) | (go_simp; rfl)); intro gx hg w22 hbox hb; have HF2 := Aside0.mk (FS.snoc (f := .bk gx #[.bool a1_0, .slice A1_1 l1_1.length c1_1, .int .i64 a1_2] 32) (fsb_ HF hb).out hbox); clear HF hg hbox hb; have HF := HF2; clear HF2) | ((with_reducible refine gate_dst (N := 6) rfl ?_); refine box_event ?hg (N := 6) ?hd (cs := #[.bool a2_0, .slice A2_1 l2_1.length c2_1, .int .i64 a2_2]) (t := 32) ?hr ?_; (case hd => rfl); (case hg => rfl); (case hr => first | (go_simp; done) | (go_simp; rfl)); intro gy hg w23 hbox hb; have HF2 := Aside0.mk (FS.snoc (f := .bk gy #[.bool a2_0, .slice A2_1 l2_1.length c2_1, .int .i64 a2_2] 32) (fsb_ HF hb).out hbox); clear HF hg hbox hb; have HF := HF2; clear HF2) | ((with_reducible refine gate_dst (N := 8) rfl ?_); refine box_event ?hg (N := 8) ?hd (cs := #[.bool false, .slice none 0 0, .int .i64 0]) (t := 32) ?hr ?_; (case hd => rfl); (case hg => rfl); (case hr => first | (go_simp; done) | (go_simp; rfl)); intro g8 hg w24 hbox hb; have GE8 := Aside0.mk (show w.heap.size ≤ g8 by rw [hg]; exact below_size ((fs_ HF).bel 7)); have HF2 := Aside0.mk (FS.snoc (f := .bk g8 #[.bool false, .slice none 0 0, .int .i64 0] 32) (fsb_ HF hb).out hbox); clear HF hg hbox hb; have HF := HF2; clear HF2) | ((with_reducible refine gate_dst (N := 9) rfl ?_); refine box_event ?hg (N := 9) ?hd (cs := #[.int .i64 0]) (t := 24) ?hr ?_; (case hd => rfl); (case hg => rfl); (case hr => first | (go_simp; done) | (go_simp; rfl)); intro g9 hg w25 hbox hb; have GE9 := Aside0.mk (show w.heap.size ≤ g9 by rw [hg]; exact below_size ((fs_ HF).bel 8)); have N89 := Aside0.mk (show g8 ≠ g9 by rw [hg]; exact Nat.ne_of_lt (blk_lt ((fs_ HF).bk 0))); have HF2 := Aside0.mk (FS.snoc (f := .bk g9 #[.int .i64 0] 24) (fsb_ HF hb).out hbox); clear HF hg hbox hb; have HF := HF2; clear HF2; have n89 := N89.out; have n98 := N89.out.symm; have hgb0 : w25.cell? ⟨gb, 0, none⟩ = some (.bool a0_0) := (blk_cell (HF.out.bk 4) 0).trans rfl; have hgb1 : w25.cell? ⟨gb, 1, none⟩ = some (.slice A0_1 l0_1.length c0_1) := (blk_cell (HF.out.bk 4) 1).trans rfl; have hgb2 : w25.cell? ⟨gb, 2, none⟩ = some (.int .i64 a0_2) := (blk_cell (HF.out.bk 4) 2).trans rfl; have hgb3 : w25.cell? ⟨gb, 3, none⟩ = some (.bool a0_3) := (blk_cell (HF.out.bk 4) 3).trans rfl; have hgb4 : w25.cell? ⟨gb, 4, none⟩ = some (.slice A0_4 l0_4.length c0_4) := (blk_cell (HF.out.bk 4) 4).trans rfl; have hgb5 : w25.cell? ⟨gb, 5, none⟩ = some (.int .i64 a0_5) := (blk_cell (HF.out.bk 4) 5).trans rfl; have hgx0 : w25.cell? ⟨gx, 0, none⟩ = some (.bool a1_0) := (blk_cell (HF.out.bk 3) 0).trans rfl; have hgx1 : w25.cell? ⟨gx, 1, none⟩ = some (.slice A1_1 l1_1.length c1_1) := (blk_cell (HF.out.bk 3) 1).trans rfl; have hgx2 : w25.cell? ⟨gx, 2, none⟩ = some (.int .i64 a1_2) := (blk_cell (HF.out.bk 3) 2).trans rfl; have hgy0 : w25.cell? ⟨gy, 0, none⟩ = some (.bool a2_0) := (blk_cell (HF.out.bk 2) 0).trans rfl; have hgy1 : w25.cell? ⟨gy, 1, none⟩ = some (.slice A2_1 l2_1.length c2_1) := (blk_cell (HF.out.bk 2) 1).trans rfl; have hgy2 : w25.cell? ⟨gy, 2, none⟩ = some (.int .i64 a2_2) := (blk_cell (HF.out.bk 2) 2).trans rfl; have hg80 : w25.cell? ⟨g8, 0, none⟩ = some (.bool false) := (blk_cell (HF.out.bk 1) 0).trans rfl; have fg80 := blk_frozen (HF.out.bk 1) 0; have hg81 : w25.cell? ⟨g8, 1, none⟩ = some (.slice none 0 0) := (blk_cell (HF.out.bk 1) 1).trans rfl; have fg81 := blk_frozen (HF.out.bk 1) 1; have hg82 : w25.cell? ⟨g8, 2, none⟩ = some (.int .i64 0) := (blk_cell (HF.out.bk 1) 2).trans rfl; have fg82 := blk_frozen (HF.out.bk 1) 2; have hg90 : w25.cell? ⟨g9, 0, none⟩ = some (.int .i64 0) := (blk_cell (HF.out.bk 0) 0).trans rfl; have fg90 := blk_frozen (HF.out.bk 0) 0) | ((with_reducible refine gate_dst (N := 21) rfl ?_); refine Kd.N_lit k32 _ 32 ?hg (N' := 21) ?hd (xs := ([(⟨a0_0, l0_1, a0_2⟩ : S32), (⟨a0_3, l0_4, a0_5⟩ : S32), (⟨a1_0, l1_1, a1_2⟩ : S32), (⟨a2_0, l2_1, a2_2⟩ : S32)] : List (S32))) (inner := [.bool a0_0, .slice A0_1 l0_1.length c0_1, .int .i64 a0_2, .bool a0_3, .slice A0_4 l0_4.length c0_4, .int .i64 a0_5, .bool a1_0, .slice A1_1 l1_1.length c1_1, .int .i64 a1_2, .bool a2_0, .slice A2_1 l2_1.length c2_1, .int .i64 a2_2]) (ok := fun _ => True) (okp := fun k => k < w25.heap.size) ?hr ?hp (fun _ _ => trivial) trivial (Below.refl _ _) (Nat.le_refl _) (by simp) ?_; (case hd => rfl); (case hg => rfl); (case hr => first | (go_simp; done) | (go_simp; rfl)); (case hp => have HQ := HF.out; exact (Reps.c3 (k32_mkF _ _ (⟨a0_0, l0_1, a0_2⟩ : S32) (HQ.sv 8).1 (Kd.C_F (Kd.heap_int .u64) (HQ.sv 8).2)) (Reps.c3 (k32_mkF _ _ (⟨a0_3, l0_4, a0_5⟩ : S32) (HQ.sv 7).1 (Kd.C_F (Kd.heap_int .u64) (HQ.sv 7).2)) (Reps.c3 (k32_mkF _ _ (⟨a1_0, l1_1, a1_2⟩ : S32) (HQ.sv 6).1 (Kd.C_F (Kd.heap_int .u64) (HQ.sv 6).2)) (Reps.c3 (k32_mkF _ _ (⟨a2_0, l2_1, a2_2⟩ : S32) (HQ.sv 5).1 (Kd.C_F (Kd.heap_int .u64) (HQ.sv 5).2)) (Reps.none _ _)))))); intro v547 w26 ho20 hb hg_ hnew_; clear hg_ hnew_; obtain ⟨An, cn, rfl⟩ := Kd.N_slice ho20; have HN1 := Aside0.mk (Kd.N_reads' ho20).2.2; have HN2 := Aside0.mk (Kd.N_reads' ho20).2.1; have HF2 := fsb_ HF hb; clear HF hb ho20; have HF := HF2; clear HF2) | ((with_reducible refine gate_callee (f := 39) rfl ?_); refine goesL_ (some 22) rfl rfl Tryd.func39 (by kernel_rfl) rfl #[.slice An ([(⟨a0_0, l0_1, a0_2⟩ : S32), (⟨a0_3, l0_4, a0_5⟩ : S32), (⟨a1_0, l1_1, a1_2⟩ : S32), (⟨a2_0, l2_1, a2_2⟩ : S32)] : List (S32)).length cn] rfl (by (try simp only [List.map_toArray, List.map_cons, List.map_nil]); first | done | rfl) ?_; (with_reducible refine (bound_checked.calls k _ _ ([(⟨a0_0, l0_1, a0_2⟩ : S32), (⟨a0_3, l0_4, a0_5⟩ : S32), (⟨a1_0, l1_1, a1_2⟩ : S32), (⟨a2_0, l2_1, a2_2⟩ : S32)] : List (S32)) 0 _ ?s0 ?s1 B1.out).mono ?_); (case s0 => exact HN1.out); (case s1 => exact HN2.out); rintro e w27 ⟨rfl, hb⟩; refine ⟨_, rfl, ?_⟩; have HF2 := fsb_ HF hb; clear HF hb HN1 HN2; have HF := HF2; clear HF2; (try clear hgb0); (try clear hgb1); (try clear hgb2); (try clear hgb3); (try clear hgb4); (try clear hgb5); (try clear hgx0); (try clear hgx1); (try clear hgx2); (try clear hgy0); (try clear hgy1); (try clear hgy2); (try clear hg80); (try clear fg80); (try clear hg81); (try clear fg81); (try clear hg82); (try clear fg82); (try clear hg90); (try clear fg90); have hgb0 : w27.cell? ⟨gb, 0, none⟩ = some (.bool a0_0) := (blk_cell (HF.out.bk 4) 0).trans rfl; have hgb1 : w27.cell? ⟨gb, 1, none⟩ = some (.slice A0_1 l0_1.length c0_1) := (blk_cell (HF.out.bk 4) 1).trans rfl; have hgb2 : w27.cell? ⟨gb, 2, none⟩ = some (.int .i64 a0_2) := (blk_cell (HF.out.bk 4) 2).trans rfl; have hgb3 : w27.cell? ⟨gb, 3, none⟩ = some (.bool a0_3) := (blk_cell (HF.out.bk 4) 3).trans rfl; have hgb4 : w27.cell? ⟨gb, 4, none⟩ = some (.slice A0_4 l0_4.length c0_4) := (blk_cell (HF.out.bk 4) 4).trans rfl; have hgb5 : w27.cell? ⟨gb, 5, none⟩ = some (.int .i64 a0_5) := (blk_cell (HF.out.bk 4) 5).trans rfl; have hgx0 : w27.cell? ⟨gx, 0, none⟩ = some (.bool a1_0) := (blk_cell (HF.out.bk 3) 0).trans rfl; have hgx1 : w27.cell? ⟨gx, 1, none⟩ = some (.slice A1_1 l1_1.length c1_1) := (blk_cell (HF.out.bk 3) 1).trans rfl; have hgx2 : w27.cell? ⟨gx, 2, none⟩ = some (.int .i64 a1_2) := (blk_cell (HF.out.bk 3) 2).trans rfl; have hgy0 : w27.cell? ⟨gy, 0, none⟩ = some (.bool a2_0) := (blk_cell (HF.out.bk 2) 0).trans rfl; have hgy1 : w27.cell? ⟨gy, 1, none⟩ = some (.slice A2_1 l2_1.length c2_1) := (blk_cell (HF.out.bk 2) 1).trans rfl; have hgy2 : w27.cell? ⟨gy, 2, none⟩ = some (.int .i64 a2_2) := (blk_cell (HF.out.bk 2) 2).trans rfl; have hg80 : w27.cell? ⟨g8, 0, none⟩ = some (.bool false) := (blk_cell (HF.out.bk 1) 0).trans rfl; have fg80 := blk_frozen (HF.out.bk 1) 0; have hg81 : w27.cell? ⟨g8, 1, none⟩ = some (.slice none 0 0) := (blk_cell (HF.out.bk 1) 1).trans rfl; have fg81 := blk_frozen (HF.out.bk 1) 1; have hg82 : w27.cell? ⟨g8, 2, none⟩ = some (.int .i64 0) := (blk_cell (HF.out.bk 1) 2).trans rfl; have fg82 := blk_frozen (HF.out.bk 1) 2; have hg90 : w27.cell? ⟨g9, 0, none⟩ = some (.int .i64 0) := (blk_cell (HF.out.bk 0) 0).trans rfl; have fg90 := blk_frozen (HF.out.bk 0) 0))
   rename_i K HK
   skip
   refine region_boxes (w0 := w27) (last := 12) (n0 := 64) (tb := 66) (nb := 3) (by kernel_rfl) (fun i => match i with | 0 => .val 28 | 1 => .val 29 | 2 => .val 30 | 3 => .val 31 | 4 => .val 32 | 5 => .val 33 | 6 => .val 34 | 7 => .box 11 | 8 => .box 12 | 9 => .box 13 | 10 => .put 11 | 11 => .put 12 | 12 => .put 13 | _ => .val 0) (fun i => match i with | 1 => [0] | 3 => [2] | 5 => [4] | 6 => [5] | 10 => [7, 1] | 11 => [8, 3] | 12 => [9, 6] | _ => []) (fun i => match i with | 10 => [7] | 11 => [8] | 12 => [9] | _ => []) (fun j => decide (j ∉ [11, 12, 13, 28, 29, 30, 31, 32, 33, 34])) (fun j => j == 11 || j == 12 || j == 13) (fun _ => false) (by kernel_rfl) (fun _ => True) (fun i v W => match i with | 0 => v = .agg #[.bool a1_0, .slice A1_1 l1_1.length c1_1, .int .i64 a1_2] | 1 => v = .agg #[.bool a1_0, .slice A1_1 l1_1.length c1_1, .int .i64 a1_2] | 2 => v = .agg #[.bool a2_0, .slice A2_1 l2_1.length c2_1, .int .i64 a2_2] | 3 => v = .agg #[.bool a2_0, .slice A2_1 l2_1.length c2_1, .int .i64 a2_2] | 4 => v = .pointer (some ⟨gb, 3, none⟩) | 5 => v = .agg #[.bool a0_3, .slice A0_4 l0_4.length c0_4, .int .i64 a0_5] | 6 => v = .agg #[.bool a0_3, .slice A0_4 l0_4.length c0_4, .int .i64 a0_5] | _ => True) (fun i cs W => match i with | 10 => cs = #[.bool a1_0, .slice A1_1 l1_1.length c1_1, .int .i64 a1_2] | 11 => cs = #[.bool a2_0, .slice A2_1 l2_1.length c2_1, .int .i64 a2_2] | 12 => cs = #[.bool a0_3, .slice A0_4 l0_4.length c0_4, .int .i64 a0_5] | _ => True) rfl ?hbx ?h0 (below_drew1 (Below.refl _ _)) trivial (fun _ _ _ _ => trivial) ?hF1 ?hF2 ?hH1 ?hH2 ?hop ?hend
   case hbx =>
    intro i hi
    obtain rfl | rfl | rfl | rfl | rfl | rfl | rfl | rfl | rfl | rfl | rfl | rfl | rfl : i = 0 ∨ i = 1 ∨ i = 2 ∨ i = 3 ∨ i = 4 ∨ i = 5 ∨ i = 6 ∨ i = 7 ∨ i = 8 ∨ i = 9 ∨ i = 10 ∨ i = 11 ∨ i = 12 := by omega
    all_goals rfl
   case h0 =>
    refine Boxes.none (fun s hs => ?_)
    have hs2 : s = 11 ∨ s = 12 ∨ s = 13 := by simpa [or_assoc] using hs
    rcases hs2 with rfl | rfl | rfl
    all_goals rfl
   case hF1 =>
    intro i hi v W W' hf hb
    obtain rfl | rfl | rfl | rfl | rfl | rfl | rfl | rfl | rfl | rfl | rfl | rfl | rfl : i = 0 ∨ i = 1 ∨ i = 2 ∨ i = 3 ∨ i = 4 ∨ i = 5 ∨ i = 6 ∨ i = 7 ∨ i = 8 ∨ i = 9 ∨ i = 10 ∨ i = 11 ∨ i = 12 := by omega
    all_goals exact hf
   case hF2 =>
    intro i hi v W g cs vs hf hc
    obtain rfl | rfl | rfl | rfl | rfl | rfl | rfl | rfl | rfl | rfl | rfl | rfl | rfl : i = 0 ∨ i = 1 ∨ i = 2 ∨ i = 3 ∨ i = 4 ∨ i = 5 ∨ i = 6 ∨ i = 7 ∨ i = 8 ∨ i = 9 ∨ i = 10 ∨ i = 11 ∨ i = 12 := by omega
    all_goals exact hf
   case hH1 =>
    intro i hi v W W' hf hb
    obtain rfl | rfl | rfl | rfl | rfl | rfl | rfl | rfl | rfl | rfl | rfl | rfl | rfl : i = 0 ∨ i = 1 ∨ i = 2 ∨ i = 3 ∨ i = 4 ∨ i = 5 ∨ i = 6 ∨ i = 7 ∨ i = 8 ∨ i = 9 ∨ i = 10 ∨ i = 11 ∨ i = 12 := by omega
    all_goals exact hf
   case hH2 =>
    intro i hi v W g cs vs hf hc
    obtain rfl | rfl | rfl | rfl | rfl | rfl | rfl | rfl | rfl | rfl | rfl | rfl | rfl : i = 0 ∨ i = 1 ∨ i = 2 ∨ i = 3 ∨ i = 4 ∨ i = 5 ∨ i = 6 ∨ i = 7 ∨ i = 8 ∨ i = 9 ∨ i = 10 ∨ i = 11 ∨ i = 12 := by omega
    all_goals exact hf
   case hop =>
    intro i o hi ho T W hI hZ hd
    clear ho
    have HS := Aside0.mk (HF.out.below hI.below)
    have e4 : T[4]? = some (.pointer (some ⟨gb, 0, none⟩)) := (hI.kept 4 rfl).trans rfl
    have e5 : T[5]? = some (.pointer (some ⟨gx, 0, none⟩)) := (hI.kept 5 rfl).trans rfl
    have e6 : T[6]? = some (.pointer (some ⟨gy, 0, none⟩)) := (hI.kept 6 rfl).trans rfl
    (try clear hgb0)
    (try clear hgb1)
    (try clear hgb2)
    (try clear hgb3)
    (try clear hgb4)
    (try clear hgb5)
    (try clear hgx0)
    (try clear hgx1)
    (try clear hgx2)
    (try clear hgy0)
    (try clear hgy1)
    (try clear hgy2)
    (try clear hg80)
    (try clear fg80)
    (try clear hg81)
    (try clear fg81)
    (try clear hg82)
    (try clear fg82)
    (try clear hg90)
    (try clear fg90)
    have hgb0 : W.cell? ⟨gb, 0, none⟩ = some (.bool a0_0) := (blk_cell (HS.out.bk 4) 0).trans rfl
    have hgb1 : W.cell? ⟨gb, 1, none⟩ = some (.slice A0_1 l0_1.length c0_1) := (blk_cell (HS.out.bk 4) 1).trans rfl
    have hgb2 : W.cell? ⟨gb, 2, none⟩ = some (.int .i64 a0_2) := (blk_cell (HS.out.bk 4) 2).trans rfl
    have hgb3 : W.cell? ⟨gb, 3, none⟩ = some (.bool a0_3) := (blk_cell (HS.out.bk 4) 3).trans rfl
    have hgb4 : W.cell? ⟨gb, 4, none⟩ = some (.slice A0_4 l0_4.length c0_4) := (blk_cell (HS.out.bk 4) 4).trans rfl
    have hgb5 : W.cell? ⟨gb, 5, none⟩ = some (.int .i64 a0_5) := (blk_cell (HS.out.bk 4) 5).trans rfl
    have hgx0 : W.cell? ⟨gx, 0, none⟩ = some (.bool a1_0) := (blk_cell (HS.out.bk 3) 0).trans rfl
    have hgx1 : W.cell? ⟨gx, 1, none⟩ = some (.slice A1_1 l1_1.length c1_1) := (blk_cell (HS.out.bk 3) 1).trans rfl
    have hgx2 : W.cell? ⟨gx, 2, none⟩ = some (.int .i64 a1_2) := (blk_cell (HS.out.bk 3) 2).trans rfl
    have hgy0 : W.cell? ⟨gy, 0, none⟩ = some (.bool a2_0) := (blk_cell (HS.out.bk 2) 0).trans rfl
    have hgy1 : W.cell? ⟨gy, 1, none⟩ = some (.slice A2_1 l2_1.length c2_1) := (blk_cell (HS.out.bk 2) 1).trans rfl
    have hgy2 : W.cell? ⟨gy, 2, none⟩ = some (.int .i64 a2_2) := (blk_cell (HS.out.bk 2) 2).trans rfl
    have HI := Aside0.mk hI
    clear hI hZ
    obtain rfl | rfl | rfl | rfl | rfl | rfl | rfl | rfl | rfl | rfl | rfl | rfl | rfl : i = 0 ∨ i = 1 ∨ i = 2 ∨ i = 3 ∨ i = 4 ∨ i = 5 ∨ i = 6 ∨ i = 7 ∨ i = 8 ∨ i = 9 ∨ i = 10 ∨ i = 11 ∨ i = 12 := by omega
    ·
     clear hd
     refine wpOp_step rfl (fun K' hK => ?_)
     go_simp
     exact hK _ _ ⟨_, rfl, Below.refl _ _, rfl⟩
    ·
     obtain ⟨v0, e28, f0⟩ := hd 0 (by decide)
     have f0 : v0 = .agg #[.bool a1_0, .slice A1_1 l1_1.length c1_1, .int .i64 a1_2] := f0
     subst f0
     clear hd
     refine wpOp_step rfl (fun K' hK => ?_)
     go_simp
     exact hK _ _ ⟨_, rfl, Below.refl _ _, rfl⟩
    ·
     clear hd
     refine wpOp_step rfl (fun K' hK => ?_)
     go_simp
     exact hK _ _ ⟨_, rfl, Below.refl _ _, rfl⟩
    ·
     obtain ⟨v2, e30, f2⟩ := hd 2 (by decide)
     have f2 : v2 = .agg #[.bool a2_0, .slice A2_1 l2_1.length c2_1, .int .i64 a2_2] := f2
     subst f2
     clear hd
     refine wpOp_step rfl (fun K' hK => ?_)
     go_simp
     exact hK _ _ ⟨_, rfl, Below.refl _ _, rfl⟩
    ·
     clear hd
     refine wpOp_step rfl (fun K' hK => ?_)
     go_simp
     exact hK _ _ ⟨_, rfl, Below.refl _ _, rfl⟩
    ·
     obtain ⟨v4, e32, f4⟩ := hd 4 (by decide)
     have f4 : v4 = .pointer (some ⟨gb, 3, none⟩) := f4
     subst f4
     clear hd
     refine wpOp_step rfl (fun K' hK => ?_)
     go_simp
     exact hK _ _ ⟨_, rfl, Below.refl _ _, rfl⟩
    ·
     obtain ⟨v5, e33, f5⟩ := hd 5 (by decide)
     have f5 : v5 = .agg #[.bool a0_3, .slice A0_4 l0_4.length c0_4, .int .i64 a0_5] := f5
     subst f5
     clear hd
     refine wpOp_step rfl (fun K' hK => ?_)
     go_simp
     exact hK _ _ ⟨_, rfl, Below.refl _ _, rfl⟩
    ·
     clear hd
     refine wpOp_step rfl (fun K' hK => ?_)
     go_simp
     exact hK _ _ ⟨#[.bool false, .slice none 0 0, .int .i64 0], rfl, below_alloc (Below.refl _ _) _, blk_new W _, rfl⟩
    ·
     clear hd
     refine wpOp_step rfl (fun K' hK => ?_)
     go_simp
     exact hK _ _ ⟨#[.bool false, .slice none 0 0, .int .i64 0], rfl, below_alloc (Below.refl _ _) _, blk_new W _, rfl⟩
    ·
     clear hd
     refine wpOp_step rfl (fun K' hK => ?_)
     go_simp
     exact hK _ _ ⟨#[.bool false, .slice none 0 0, .int .i64 0], rfl, below_alloc (Below.refl _ _) _, blk_new W _, rfl⟩
    ·
     obtain ⟨gd7, e11⟩ := hd 7 (by decide)
     obtain ⟨v1, e29, f1⟩ := hd 1 (by decide)
     have f1 : v1 = .agg #[.bool a1_0, .slice A1_1 l1_1.length c1_1, .int .i64 a1_2] := f1
     subst f1
     clear hd
     obtain ⟨hge, cs, hcs, hn⟩ := HI.out.boxes.1 11 rfl gd7 e11
     obtain ⟨u0, u1, u2, rfl⟩ := size3 cs hn
     have hc0 : W.cell? ⟨gd7, 0, none⟩ = some u0 := (blk_cell hcs 0).trans rfl
     have hf0 := blk_frozen hcs 0
     have hc1 : W.cell? ⟨gd7, 1, none⟩ = some u1 := (blk_cell hcs 1).trans rfl
     have hf1 := blk_frozen hcs 1
     have hc2 : W.cell? ⟨gd7, 2, none⟩ = some u2 := (blk_cell hcs 2).trans rfl
     have hf2 := blk_frozen hcs 2
     refine wpOp_step rfl (fun K' hK => ?_)
     go_simp
     refine hK _ _ ⟨gd7, [.bool a1_0, .slice A1_1 l1_1.length c1_1, .int .i64 a1_2], rfl, e11, rfl, fun cs' hcs' => ?_⟩
     have ec := (Obj.cells.inj (Option.some.inj (hcs'.symm.trans hcs))).1
     subst ec
     rfl
    ·
     obtain ⟨gd8, e12⟩ := hd 8 (by decide)
     obtain ⟨v3, e31, f3⟩ := hd 3 (by decide)
     have f3 : v3 = .agg #[.bool a2_0, .slice A2_1 l2_1.length c2_1, .int .i64 a2_2] := f3
     subst f3
     clear hd
     obtain ⟨hge, cs, hcs, hn⟩ := HI.out.boxes.1 12 rfl gd8 e12
     obtain ⟨u0, u1, u2, rfl⟩ := size3 cs hn
     have hc0 : W.cell? ⟨gd8, 0, none⟩ = some u0 := (blk_cell hcs 0).trans rfl
     have hf0 := blk_frozen hcs 0
     have hc1 : W.cell? ⟨gd8, 1, none⟩ = some u1 := (blk_cell hcs 1).trans rfl
     have hf1 := blk_frozen hcs 1
     have hc2 : W.cell? ⟨gd8, 2, none⟩ = some u2 := (blk_cell hcs 2).trans rfl
     have hf2 := blk_frozen hcs 2
     refine wpOp_step rfl (fun K' hK => ?_)
     go_simp
     refine hK _ _ ⟨gd8, [.bool a2_0, .slice A2_1 l2_1.length c2_1, .int .i64 a2_2], rfl, e12, rfl, fun cs' hcs' => ?_⟩
     have ec := (Obj.cells.inj (Option.some.inj (hcs'.symm.trans hcs))).1
     subst ec
     rfl
    ·
     obtain ⟨gd9, e13⟩ := hd 9 (by decide)
     obtain ⟨v6, e34, f6⟩ := hd 6 (by decide)
     have f6 : v6 = .agg #[.bool a0_3, .slice A0_4 l0_4.length c0_4, .int .i64 a0_5] := f6
     subst f6
     clear hd
     obtain ⟨hge, cs, hcs, hn⟩ := HI.out.boxes.1 13 rfl gd9 e13
     obtain ⟨u0, u1, u2, rfl⟩ := size3 cs hn
     have hc0 : W.cell? ⟨gd9, 0, none⟩ = some u0 := (blk_cell hcs 0).trans rfl
     have hf0 := blk_frozen hcs 0
     have hc1 : W.cell? ⟨gd9, 1, none⟩ = some u1 := (blk_cell hcs 1).trans rfl
     have hf1 := blk_frozen hcs 1
     have hc2 : W.cell? ⟨gd9, 2, none⟩ = some u2 := (blk_cell hcs 2).trans rfl
     have hf2 := blk_frozen hcs 2
     refine wpOp_step rfl (fun K' hK => ?_)
     go_simp
     refine hK _ _ ⟨gd9, [.bool a0_3, .slice A0_4 l0_4.length c0_4, .int .i64 a0_5], rfl, e13, rfl, fun cs' hcs' => ?_⟩
     have ec := (Obj.cells.inj (Option.some.inj (hcs'.symm.trans hcs))).1
     subst ec
     rfl
   case hend =>
    intro T W5 hI hk
    obtain ⟨gp, csgp, egp, bgp, hgp⟩ := hk 10 (by decide)
    have hgp : csgp = #[.bool a1_0, .slice A1_1 l1_1.length c1_1, .int .i64 a1_2] := hgp
    subst hgp
    obtain ⟨gq, csgq, egq, bgq, hgq⟩ := hk 11 (by decide)
    have hgq : csgq = #[.bool a2_0, .slice A2_1 l2_1.length c2_1, .int .i64 a2_2] := hgq
    subst hgq
    obtain ⟨gg, csgg, egg, bgg, hgg⟩ := hk 12 (by decide)
    have hgg : csgg = #[.bool a0_3, .slice A0_4 l0_4.length c0_4, .int .i64 a0_5] := hgg
    subst hgg
    have HF2 := Aside0.mk ((((HF.out.below hI.below).snoc (f := .bk gp #[.bool a1_0, .slice A1_1 l1_1.length c1_1, .int .i64 a1_2] 66) bgp).snoc (f := .bk gq #[.bool a2_0, .slice A2_1 l2_1.length c2_1, .int .i64 a2_2] 66) bgq).snoc (f := .bk gg #[.bool a0_3, .slice A0_4 l0_4.length c0_4, .int .i64 a0_5] 66) bgg)
    clear HF
    have HF := HF2
    clear HF2
    have hT := sets_open [11, 12, 13, 28, 29, 30, 31, 32, 33, 34] _ hI.size (fun j hj => hI.kept j (decide_eq_true hj))
    simp only [List.foldl_cons, List.foldl_nil] at hT
    rw [show T.getD 11 undef = .pointer (some ⟨gp, 0, none⟩) by rw [Array.getD_eq_getD_getElem?, egp]; rfl] at hT
    rw [show T.getD 12 undef = .pointer (some ⟨gq, 0, none⟩) by rw [Array.getD_eq_getD_getElem?, egq]; rfl] at hT
    rw [show T.getD 13 undef = .pointer (some ⟨gg, 0, none⟩) by rw [Array.getD_eq_getD_getElem?, egg]; rfl] at hT
    obtain ⟨z28, hz_⟩ : ∃ y, y = T.getD 28 undef := ⟨_, rfl⟩
    rw [← hz_] at hT
    clear hz_
    obtain ⟨z29, hz_⟩ : ∃ y, y = T.getD 29 undef := ⟨_, rfl⟩
    rw [← hz_] at hT
    clear hz_
    obtain ⟨z30, hz_⟩ : ∃ y, y = T.getD 30 undef := ⟨_, rfl⟩
    rw [← hz_] at hT
    clear hz_
    obtain ⟨z31, hz_⟩ : ∃ y, y = T.getD 31 undef := ⟨_, rfl⟩
    rw [← hz_] at hT
    clear hz_
    obtain ⟨z32, hz_⟩ : ∃ y, y = T.getD 32 undef := ⟨_, rfl⟩
    rw [← hz_] at hT
    clear hz_
    obtain ⟨z33, hz_⟩ : ∃ y, y = T.getD 33 undef := ⟨_, rfl⟩
    rw [← hz_] at hT
    clear hz_
    obtain ⟨z34, hz_⟩ : ∃ y, y = T.getD 34 undef := ⟨_, rfl⟩
    rw [← hz_] at hT
    clear hz_
    clear hI hk
    show K _ _
    refine HK _ _ ?_
    rw [hT]
    clear hT bgp bgq bgg
    simp only [List.setIfInBounds_toArray, List.set_cons_zero, List.set_cons_succ]
    go_wp2
    rename_i K HK
    refine region_vals (w0 := W5) (last := 11) (n0 := 64) (by kernel_rfl) (fun i => match i with | 1 => [0] | 2 => [1] | 5 => [3, 4] | 6 => [2, 5] | 8 => [7] | 9 => [6, 8] | _ => []) (fun j => decide (j ∉ [14, 47, 48, 49, 50, 51, 52, 53, 54, 55, 56])) (fun i => if i = 10 then 14 else 47 + i) ?hinj ?hlt (by kernel_rfl) (fun i v W => match i with | 0 => v = .pointer (some ⟨gb, 0, none⟩) | 1 => v = .agg #[.bool a0_0, .slice A0_1 l0_1.length c0_1, .int .i64 a0_2] | 2 => v = .agg #[.bool a0_0, .slice A0_1 l0_1.length c0_1, .int .i64 a0_2] | 3 => v = .agg #[.bool a1_0, .slice A1_1 l1_1.length c1_1, .int .i64 a1_2] | 4 => v = .agg #[.bool a2_0, .slice A2_1 l2_1.length c2_1, .int .i64 a2_2] | 5 => ∃ A c, v = .slice A ([(⟨(⟨a1_0, l1_1, a1_2⟩ : S32)⟩ : S66), (⟨(⟨a2_0, l2_1, a2_2⟩ : S32)⟩ : S66)] : List (S66)).length c ∧ ([(⟨(⟨a1_0, l1_1, a1_2⟩ : S32)⟩ : S66), (⟨(⟨a2_0, l2_1, a2_2⟩ : S32)⟩ : S66)] : List (S66)).length ≤ c ∧ Kd.C k66 W A ([(⟨(⟨a1_0, l1_1, a1_2⟩ : S32)⟩ : S66), (⟨(⟨a2_0, l2_1, a2_2⟩ : S32)⟩ : S66)] : List (S66)).length ([(⟨(⟨a1_0, l1_1, a1_2⟩ : S32)⟩ : S66), (⟨(⟨a2_0, l2_1, a2_2⟩ : S32)⟩ : S66)] : List (S66)) | 6 => tc = 0 ∧ ∃ A c b, v = .agg #[.bool t1, .slice A t2.length c, .int .i64 t3] ∧ Kd.R (Kd.int .u64) 22 W b (fun _ => True) (.slice A t2.length c) t2 | 7 => v = .agg #[.bool a0_3, .slice A0_4 l0_4.length c0_4, .int .i64 a0_5] | 8 => ∃ A c, v = .slice A ([(⟨(⟨a0_3, l0_4, a0_5⟩ : S32)⟩ : S66)] : List (S66)).length c ∧ ([(⟨(⟨a0_3, l0_4, a0_5⟩ : S32)⟩ : S66)] : List (S66)).length ≤ c ∧ Kd.C k66 W A ([(⟨(⟨a0_3, l0_4, a0_5⟩ : S32)⟩ : S66)] : List (S66)).length ([(⟨(⟨a0_3, l0_4, a0_5⟩ : S32)⟩ : S66)] : List (S66)) | 9 => tc = 0 ∧ sc = 0 ∧ ∃ A c b, v = .agg #[.bool s1, .slice A s2.length c, .int .i64 s3] ∧ W5.heap.size ≤ b ∧ Kd.R (Kd.int .u64) 22 W b (fun _ => True) (.slice A s2.length c) s2 | 10 => ∃ g, v = .pointer (some ⟨g, 0, none⟩) ∧ W5.heap.size ≤ g ∧ W.heap[g]? = some (.cells #[.bool false, .slice none 0 0, .int .i64 0] 66 (0, 0)) | _ => True) rfl (below_drew1 (Below.refl _ _)) ?hF ?hop ?hlast
    case hinj =>
     intro i j hij
     by_cases h1 : i = 10 <;> by_cases h2 : j = 10 <;> simp only [h1, h2, if_true, if_false] <;> omega
    case hlt =>
     intro i hi
     by_cases h1 : i = 10 <;> simp only [h1, if_true, if_false] <;> omega
    case hF =>
     intro i hi v W W' hf hb
     obtain rfl | rfl | rfl | rfl | rfl | rfl | rfl | rfl | rfl | rfl | rfl : i = 0 ∨ i = 1 ∨ i = 2 ∨ i = 3 ∨ i = 4 ∨ i = 5 ∨ i = 6 ∨ i = 7 ∨ i = 8 ∨ i = 9 ∨ i = 10 := by omega
     ·
      exact hf
     ·
      exact hf
     ·
      exact hf
     ·
      exact hf
     ·
      exact hf
     ·
      obtain ⟨A, c, e, hl, hC⟩ := hf
      exact ⟨A, c, e, hl, k66_heap.C (fun k hk => hb.block k hk) hC⟩
     ·
      obtain ⟨z, A, c, b, e, R⟩ := hf
      exact ⟨z, A, c, b, e, Kd.R_below R hb⟩
     ·
      exact hf
     ·
      obtain ⟨A, c, e, hl, hC⟩ := hf
      exact ⟨A, c, e, hl, k66_heap.C (fun k hk => hb.block k hk) hC⟩
     ·
      obtain ⟨z, z2, A, c, b, e, h1, R⟩ := hf
      exact ⟨z, z2, A, c, b, e, h1, Kd.R_below R hb⟩
     ·
      obtain ⟨g, e, h1, h2⟩ := hf
      exact ⟨g, e, h1, blk_below h2 hb⟩
    case hop =>
     intro i o hi ho T W hT hkp hbl hd
     clear ho
     have HS := Aside0.mk (HF.out.below hbl)
     have e4 : T[4]? = some (.pointer (some ⟨gb, 0, none⟩)) := (hkp 4 rfl).trans rfl
     have e8 : T[8]? = some (.pointer (some ⟨g8, 0, none⟩)) := (hkp 8 rfl).trans rfl
     have e9 : T[9]? = some (.pointer (some ⟨g9, 0, none⟩)) := (hkp 9 rfl).trans rfl
     have e11 : T[11]? = some (.pointer (some ⟨gp, 0, none⟩)) := (hkp 11 rfl).trans rfl
     have e12 : T[12]? = some (.pointer (some ⟨gq, 0, none⟩)) := (hkp 12 rfl).trans rfl
     have e13 : T[13]? = some (.pointer (some ⟨gg, 0, none⟩)) := (hkp 13 rfl).trans rfl
     have hgb0 : W.cell? ⟨gb, 0, none⟩ = some (.bool a0_0) := (blk_cell (HS.out.bk 7) 0).trans rfl
     have hgb1 : W.cell? ⟨gb, 1, none⟩ = some (.slice A0_1 l0_1.length c0_1) := (blk_cell (HS.out.bk 7) 1).trans rfl
     have hgb2 : W.cell? ⟨gb, 2, none⟩ = some (.int .i64 a0_2) := (blk_cell (HS.out.bk 7) 2).trans rfl
     have hgb3 : W.cell? ⟨gb, 3, none⟩ = some (.bool a0_3) := (blk_cell (HS.out.bk 7) 3).trans rfl
     have hgb4 : W.cell? ⟨gb, 4, none⟩ = some (.slice A0_4 l0_4.length c0_4) := (blk_cell (HS.out.bk 7) 4).trans rfl
     have hgb5 : W.cell? ⟨gb, 5, none⟩ = some (.int .i64 a0_5) := (blk_cell (HS.out.bk 7) 5).trans rfl
     have hgp0 : W.cell? ⟨gp, 0, none⟩ = some (.bool a1_0) := (blk_cell (HS.out.bk 2) 0).trans rfl
     have hgp1 : W.cell? ⟨gp, 1, none⟩ = some (.slice A1_1 l1_1.length c1_1) := (blk_cell (HS.out.bk 2) 1).trans rfl
     have hgp2 : W.cell? ⟨gp, 2, none⟩ = some (.int .i64 a1_2) := (blk_cell (HS.out.bk 2) 2).trans rfl
     have hgq0 : W.cell? ⟨gq, 0, none⟩ = some (.bool a2_0) := (blk_cell (HS.out.bk 1) 0).trans rfl
     have hgq1 : W.cell? ⟨gq, 1, none⟩ = some (.slice A2_1 l2_1.length c2_1) := (blk_cell (HS.out.bk 1) 1).trans rfl
     have hgq2 : W.cell? ⟨gq, 2, none⟩ = some (.int .i64 a2_2) := (blk_cell (HS.out.bk 1) 2).trans rfl
     have hgg0 : W.cell? ⟨gg, 0, none⟩ = some (.bool a0_3) := (blk_cell (HS.out.bk 0) 0).trans rfl
     have hgg1 : W.cell? ⟨gg, 1, none⟩ = some (.slice A0_4 l0_4.length c0_4) := (blk_cell (HS.out.bk 0) 1).trans rfl
     have hgg2 : W.cell? ⟨gg, 2, none⟩ = some (.int .i64 a0_5) := (blk_cell (HS.out.bk 0) 2).trans rfl
     have HBL := Aside0.mk hbl
     clear hT hkp hbl
     obtain rfl | rfl | rfl | rfl | rfl | rfl | rfl | rfl | rfl | rfl | rfl : i = 0 ∨ i = 1 ∨ i = 2 ∨ i = 3 ∨ i = 4 ∨ i = 5 ∨ i = 6 ∨ i = 7 ∨ i = 8 ∨ i = 9 ∨ i = 10 := by omega
     ·
      clear hd
      refine wpOp_step rfl (fun K' hK => ?_)
      go_simp
      exact hK _ _ ⟨_, rfl, Below.refl _ _, rfl⟩
     ·
      obtain ⟨v0, e47, f0⟩ := hd 0 (by decide)
      have e47 : T[47]? = some v0 := e47
      have f0 : v0 = .pointer (some ⟨gb, 0, none⟩) := f0
      subst f0
      clear hd
      refine wpOp_step rfl (fun K' hK => ?_)
      go_simp
      exact hK _ _ ⟨_, rfl, Below.refl _ _, rfl⟩
     ·
      obtain ⟨v1, e48, f1⟩ := hd 1 (by decide)
      have e48 : T[48]? = some v1 := e48
      have f1 : v1 = .agg #[.bool a0_0, .slice A0_1 l0_1.length c0_1, .int .i64 a0_2] := f1
      subst f1
      clear hd
      refine wpOp_step rfl (fun K' hK => ?_)
      go_simp
      exact hK _ _ ⟨_, rfl, Below.refl _ _, rfl⟩
     ·
      clear hd
      refine wpOp_step rfl (fun K' hK => ?_)
      go_simp
      exact hK _ _ ⟨_, rfl, Below.refl _ _, rfl⟩
     ·
      clear hd
      refine wpOp_step rfl (fun K' hK => ?_)
      go_simp
      exact hK _ _ ⟨_, rfl, Below.refl _ _, rfl⟩
     ·
      obtain ⟨v3, e50, f3⟩ := hd 3 (by decide)
      have e50 : T[50]? = some v3 := e50
      have f3 : v3 = .agg #[.bool a1_0, .slice A1_1 l1_1.length c1_1, .int .i64 a1_2] := f3
      subst f3
      obtain ⟨v4, e51, f4⟩ := hd 4 (by decide)
      have e51 : T[51]? = some v4 := e51
      have f4 : v4 = .agg #[.bool a2_0, .slice A2_1 l2_1.length c2_1, .int .i64 a2_2] := f4
      subst f4
      clear hd
      refine wpOp_step rfl (fun K' hK => ?_)
      refine Kd.N_lit_step k66 (w0 := W) W.heap.size 66 (by rfl) rfl (xs := ([(⟨(⟨a1_0, l1_1, a1_2⟩ : S32)⟩ : S66), (⟨(⟨a2_0, l2_1, a2_2⟩ : S32)⟩ : S66)] : List (S66))) (inner := [.bool a1_0, .slice A1_1 l1_1.length c1_1, .int .i64 a1_2, .bool a2_0, .slice A2_1 l2_1.length c2_1, .int .i64 a2_2]) (ok := fun _ => True) (okp := fun k => k < W.heap.size) (by first | (go_simp; done) | (go_simp; rfl)) (Reps.c3 (k66_mkF _ _ (⟨(⟨a1_0, l1_1, a1_2⟩ : S32)⟩ : S66) (HS.out.sv 9).1 (Kd.C_F (Kd.heap_int .u64) (HS.out.sv 9).2)) (Reps.c3 (k66_mkF _ _ (⟨(⟨a2_0, l2_1, a2_2⟩ : S32)⟩ : S66) (HS.out.sv 8).1 (Kd.C_F (Kd.heap_int .u64) (HS.out.sv 8).2)) (Reps.none _ _))) (fun _ _ => trivial) trivial (Below.refl _ _) (Nat.le_refl _) (by simp) ?_
      intro v1 w1 hN hb' hg hat
      obtain ⟨A, c, rfl, hl, hC⟩ := Kd.N_reads hN
      exact hK _ _ ⟨_, rfl, hb', A, c, rfl, hl, hC⟩
     ·
      obtain ⟨v2, e49, f2⟩ := hd 2 (by decide)
      have e49 : T[49]? = some v2 := e49
      have f2 : v2 = .agg #[.bool a0_0, .slice A0_1 l0_1.length c0_1, .int .i64 a0_2] := f2
      subst f2
      obtain ⟨v5, e52, A5, c5, f5, L5, C5_⟩ := hd 5 (by decide)
      have e52 : T[52]? = some v5 := e52
      subst f5
      clear hd
      refine wpOp_step rfl (fun K' hK => ?_)
      by_cases z : tc = 0
      ·
       have q := C1.out
       rw [z] at q
       replace q := bound_num_times.o_ret q
       refine goes_ Tryd.func41 (by kernel_rfl) rfl #[.agg #[.bool a0_0, .slice A0_1 l0_1.length c0_1, .int .i64 a0_2], .slice A5 ([(⟨(⟨a1_0, l1_1, a1_2⟩ : S32)⟩ : S66), (⟨(⟨a2_0, l2_1, a2_2⟩ : S32)⟩ : S66)] : List (S66)).length c5] (by rfl) rfl rfl (by simp only [List.map_toArray, List.map_cons, List.map_nil, Act.eval, Array.getD_eq_getD_getElem?, Option.getD_some, e49, e52]) ?_
       refine (bound_num_times.calls k a0_0 A0_1 c0_1 l0_1 a0_2 A5 c5 ([(⟨(⟨a1_0, l1_1, a1_2⟩ : S32)⟩ : S66), (⟨(⟨a2_0, l2_1, a2_2⟩ : S32)⟩ : S66)] : List (S66)) t1 t2 t3 W (HS.out.sv 11).2 (HS.out.sv 11).1 C5_ L5 (HT.out.of (HS.out.bel 12)) q).mono ?_
       rintro e w' ⟨v, rfl, hv, hb'⟩
       obtain ⟨A, c, rfl⟩ := Kd.R_slice hv
       exact ⟨_, rfl, hK _ _ ⟨_, rfl, hb', z, A, c, _, rfl, Kd.R_mono hv (fun _ _ => trivial)⟩⟩
      ·
       have hr := C2.out z
       refine gpo_ Tryd.func41 (by kernel_rfl) rfl #[.agg #[.bool a0_0, .slice A0_1 l0_1.length c0_1, .int .i64 a0_2], .slice A5 ([(⟨(⟨a1_0, l1_1, a1_2⟩ : S32)⟩ : S66), (⟨(⟨a2_0, l2_1, a2_2⟩ : S32)⟩ : S66)] : List (S66)).length c5] (by rfl) rfl (by simp only [List.map_toArray, List.map_cons, List.map_nil, Act.eval, Array.getD_eq_getD_getElem?, Option.getD_some, e49, e52]) ?_
       refine (bound_num_times.pan k a0_0 A0_1 c0_1 l0_1 a0_2 A5 c5 ([(⟨(⟨a1_0, l1_1, a1_2⟩ : S32)⟩ : S66), (⟨(⟨a2_0, l2_1, a2_2⟩ : S32)⟩ : S66)] : List (S66)) tc t1 t2 t3 W (HS.out.sv 11).2 (HS.out.sv 11).1 C5_ L5 (HT.out.of (HS.out.bel 12)) z C1.out).mono ?_
       rintro e w' ⟨rfl, hb'⟩
       refine ⟨_, rfl, ?_⟩
       rw [Prod.mk.injEq, Prod.mk.injEq, Prod.mk.injEq] at hr
       obtain ⟨rfl, rfl, rfl, rfl⟩ := hr
       exact tail_pan e8 e9 (blk_below (HS.out.bk 4) hb') (blk_below (HS.out.bk 3) hb') N89.out (below_step (HS.out.bel 12) hb') GE8.out GE9.out
     ·
      clear hd
      refine wpOp_step rfl (fun K' hK => ?_)
      go_simp
      exact hK _ _ ⟨_, rfl, Below.refl _ _, rfl⟩
     ·
      obtain ⟨v7, e54, f7⟩ := hd 7 (by decide)
      have e54 : T[54]? = some v7 := e54
      have f7 : v7 = .agg #[.bool a0_3, .slice A0_4 l0_4.length c0_4, .int .i64 a0_5] := f7
      subst f7
      clear hd
      refine wpOp_step rfl (fun K' hK => ?_)
      refine Kd.N_lit_step k66 (w0 := W) W.heap.size 66 (by rfl) rfl (xs := ([(⟨(⟨a0_3, l0_4, a0_5⟩ : S32)⟩ : S66)] : List (S66))) (inner := [.bool a0_3, .slice A0_4 l0_4.length c0_4, .int .i64 a0_5]) (ok := fun _ => True) (okp := fun k => k < W.heap.size) (by first | (go_simp; done) | (go_simp; rfl)) (Reps.c3 (k66_mkF _ _ (⟨(⟨a0_3, l0_4, a0_5⟩ : S32)⟩ : S66) (HS.out.sv 10).1 (Kd.C_F (Kd.heap_int .u64) (HS.out.sv 10).2)) (Reps.none _ _)) (fun _ _ => trivial) trivial (Below.refl _ _) (Nat.le_refl _) (by simp) ?_
      intro v1 w1 hN hb' hg hat
      obtain ⟨A, c, rfl, hl, hC⟩ := Kd.N_reads hN
      exact hK _ _ ⟨_, rfl, hb', A, c, rfl, hl, hC⟩
     ·
      obtain ⟨v6, e53, z, A6, c6, b6, f6, R6⟩ := hd 6 (by decide)
      have e53 : T[53]? = some v6 := e53
      subst f6
      obtain ⟨v8, e55, A8, c8, f8, L8, C8_⟩ := hd 8 (by decide)
      have e55 : T[55]? = some v8 := e55
      subst f8
      clear hd
      refine wpOp_step rfl (fun K' hK => ?_)
      have q := C3.out z
      by_cases z2 : sc = 0
      ·
       rw [z2] at q
       replace q := bound_num_plus.o_ret q
       refine goes_ Tryd.func43 (by kernel_rfl) rfl #[.agg #[.bool t1, .slice A6 t2.length c6, .int .i64 t3], .slice A8 ([(⟨(⟨a0_3, l0_4, a0_5⟩ : S32)⟩ : S66)] : List (S66)).length c8] (by rfl) rfl rfl (by simp only [List.map_toArray, List.map_cons, List.map_nil, Act.eval, Array.getD_eq_getD_getElem?, Option.getD_some, e53, e55]) ?_
       refine (bound_num_plus.calls k t1 A6 c6 t2 t3 A8 c8 ([(⟨(⟨a0_3, l0_4, a0_5⟩ : S32)⟩ : S66)] : List (S66)) s1 s2 s3 W (Kd.R_reads' R6).2.2 (Kd.R_reads' R6).2.1 C8_ L8 (HT.out.of (HS.out.bel 12)) q).mono ?_
       rintro e w' ⟨v, rfl, hv, hb'⟩
       obtain ⟨A, c, rfl⟩ := Kd.R_slice hv
       exact ⟨_, rfl, hK _ _ ⟨_, rfl, hb', z, z2, A, c, _, rfl, below_size HBL.out, Kd.R_mono hv (fun _ _ => trivial)⟩⟩
      ·
       have hr := C4.out z z2
       refine gpo_ Tryd.func43 (by kernel_rfl) rfl #[.agg #[.bool t1, .slice A6 t2.length c6, .int .i64 t3], .slice A8 ([(⟨(⟨a0_3, l0_4, a0_5⟩ : S32)⟩ : S66)] : List (S66)).length c8] (by rfl) rfl (by simp only [List.map_toArray, List.map_cons, List.map_nil, Act.eval, Array.getD_eq_getD_getElem?, Option.getD_some, e53, e55]) ?_
       refine (bound_num_plus.pan k t1 A6 c6 t2 t3 A8 c8 ([(⟨(⟨a0_3, l0_4, a0_5⟩ : S32)⟩ : S66)] : List (S66)) sc s1 s2 s3 W (Kd.R_reads' R6).2.2 (Kd.R_reads' R6).2.1 C8_ L8 (HT.out.of (HS.out.bel 12)) z2 q).mono ?_
       rintro e w' ⟨rfl, hb'⟩
       refine ⟨_, rfl, ?_⟩
       rw [Prod.mk.injEq, Prod.mk.injEq, Prod.mk.injEq] at hr
       obtain ⟨rfl, rfl, rfl, rfl⟩ := hr
       exact tail_pan e8 e9 (blk_below (HS.out.bk 4) hb') (blk_below (HS.out.bk 3) hb') N89.out (below_step (HS.out.bel 12) hb') GE8.out GE9.out
     ·
      clear hd
      refine wpOp_step rfl (fun K' hK => ?_)
      go_simp
      exact hK _ _ ⟨_, rfl, below_alloc (Below.refl _ _) _, W.heap.size, rfl, below_size HBL.out, blk_new W _⟩
    case hlast =>
     intro o ho T W hsz hkp hbl hd
     clear ho
     obtain ⟨v9, e56, z, z2, A9, c9, b9, f9, hb9, R9⟩ := hd 9 (by decide)
     have e56 : T[56]? = some v9 := e56
     subst f9
     obtain ⟨v10, e14, g14, f10, hg14, bk14⟩ := hd 10 (by decide)
     have e14 : T[14]? = some v10 := e14
     subst f10
     clear hd
     have HS := HF.out.below (below_set (below_set (below_set hbl hg14 (j := 0) (v := .bool s1)) hg14 (j := 1) (v := .slice A9 s2.length c9)) hg14 (j := 2) (v := .int .i64 s3))
     have HF2 := Aside0.mk (FS.snoc (FS.snoc (FS.snoc HS (f := .bk g14 #[.bool s1, .slice A9 s2.length c9, .int .i64 s3] 66) (blk_put (blk_put (blk_put bk14 0 _ rfl) 1 _ rfl) 2 _ rfl)) (svR (Kd.R_fill (fun _ h => h.2) [.bool s1, .slice A9 s2.length c9, .int .i64 s3] 0 W (Kd.R_types R9 bk14 (by decide))))) (f := .bel W5) (below_set (below_set (below_set hbl hg14) hg14) hg14))
     have hc0 : W.cell? ⟨g14, 0, none⟩ = some (.bool false) := (blk_cell bk14 0).trans rfl
     have hf0 := blk_frozen bk14 0
     have hc1 : W.cell? ⟨g14, 1, none⟩ = some (.slice none 0 0) := (blk_cell bk14 1).trans rfl
     have hf1 := blk_frozen bk14 1
     have hc2 : W.cell? ⟨g14, 2, none⟩ = some (.int .i64 0) := (blk_cell bk14 2).trans rfl
     have hf2 := blk_frozen bk14 2
     have hT := sets_open [14, 47, 48, 49, 50, 51, 52, 53, 54, 55, 56] _ (hsz.trans rfl) (fun j hj => hkp j (decide_eq_true hj))
     simp only [List.foldl_cons, List.foldl_nil] at hT
     rw [show T.getD 14 undef = .pointer (some ⟨g14, 0, none⟩) by rw [Array.getD_eq_getD_getElem?, e14]; rfl] at hT
     obtain ⟨z47, hz_⟩ : ∃ y, y = T.getD 47 undef := ⟨_, rfl⟩
     rw [← hz_] at hT
     clear hz_
     obtain ⟨z48, hz_⟩ : ∃ y, y = T.getD 48 undef := ⟨_, rfl⟩
     rw [← hz_] at hT
     clear hz_
     obtain ⟨z49, hz_⟩ : ∃ y, y = T.getD 49 undef := ⟨_, rfl⟩
     rw [← hz_] at hT
     clear hz_
     obtain ⟨z50, hz_⟩ : ∃ y, y = T.getD 50 undef := ⟨_, rfl⟩
     rw [← hz_] at hT
     clear hz_
     obtain ⟨z51, hz_⟩ : ∃ y, y = T.getD 51 undef := ⟨_, rfl⟩
     rw [← hz_] at hT
     clear hz_
     obtain ⟨z52, hz_⟩ : ∃ y, y = T.getD 52 undef := ⟨_, rfl⟩
     rw [← hz_] at hT
     clear hz_
     obtain ⟨z53, hz_⟩ : ∃ y, y = T.getD 53 undef := ⟨_, rfl⟩
     rw [← hz_] at hT
     clear hz_
     obtain ⟨z54, hz_⟩ : ∃ y, y = T.getD 54 undef := ⟨_, rfl⟩
     rw [← hz_] at hT
     clear hz_
     obtain ⟨z55, hz_⟩ : ∃ y, y = T.getD 55 undef := ⟨_, rfl⟩
     rw [← hz_] at hT
     clear hz_
     obtain ⟨z56, hz_⟩ : ∃ y, y = T.getD 56 undef := ⟨_, rfl⟩
     rw [← hz_] at hT
     clear hz_
     have HTs := Aside0.mk hT
     clear hT hkp hsz
     refine wpOp_step rfl (fun K' hK => ?_)
     go_simp
     refine hK _ _ ?_
     show K _ _
     refine HK _ _ ?_
     clear HF hc0 hc1 hc2 hf0 hf1 hf2 bk14 R9 HS
     have HF := HF2
     clear HF2
     rw [HTs.out]
     simp only [List.setIfInBounds_toArray, List.set_cons_zero, List.set_cons_succ]
     obtain ⟨W8, hW8⟩ : ∃ x, x = (((W.setCell ⟨g14, 0, none⟩ (.bool s1)).setCell ⟨g14, 1, none⟩ (.slice A9 s2.length c9)).setCell ⟨g14, 2, none⟩ (.int .i64 s3)) := ⟨_, rfl⟩
     rw [← hW8]
     rw [← hW8] at HF
     clear hW8
     have hg140 : W8.cell? ⟨g14, 0, none⟩ = some (.bool s1) := (blk_cell (HF.out.bk 2) 0).trans rfl
     have hg141 : W8.cell? ⟨g14, 1, none⟩ = some (.slice A9 s2.length c9) := (blk_cell (HF.out.bk 2) 1).trans rfl
     have hg142 : W8.cell? ⟨g14, 2, none⟩ = some (.int .i64 s3) := (blk_cell (HF.out.bk 2) 2).trans rfl
     have hg80 : W8.cell? ⟨g8, 0, none⟩ = some (.bool false) := (blk_cell (HF.out.bk 7) 0).trans rfl
     have fg80 := blk_frozen (HF.out.bk 7) 0
     have hg81 : W8.cell? ⟨g8, 1, none⟩ = some (.slice none 0 0) := (blk_cell (HF.out.bk 7) 1).trans rfl
     have fg81 := blk_frozen (HF.out.bk 7) 1
     have hg82 : W8.cell? ⟨g8, 2, none⟩ = some (.int .i64 0) := (blk_cell (HF.out.bk 7) 2).trans rfl
     have fg82 := blk_frozen (HF.out.bk 7) 2
     have hg90 : W8.cell? ⟨g9, 0, none⟩ = some (.int .i64 0) := (blk_cell (HF.out.bk 6) 0).trans rfl
     have fg90 := blk_frozen (HF.out.bk 6) 0
     obtain ⟨n1, n2, n3, nc, M1, M2, M3⟩ := C5.out z z2
     have HM1 := Aside0.mk M1
     clear M1
     have HW8 := Aside0.mk (show w.heap.size ≤ W8.heap.size from below_size (HF.out.bel 15))
     by_cases z3 : nc = 0
     ·
      have hr := M3 z3
      rw [Prod.mk.injEq, Prod.mk.injEq, Prod.mk.injEq] at hr
      obtain ⟨rfl, rfl, rfl, rfl⟩ := hr
      subst z3
      clear M2 M3
      have HMU := Aside0.mk (show bound_must.f r1 r2 r3 0 = some (r1, r2, r3) from if_pos rfl)
      go_wp2_with (first | ((with_reducible refine gate_callee (f := 45) rfl ?_); refine goesL_ (some 59) rfl rfl Tryd.func45 (by kernel_rfl) rfl #[.agg #[.bool s1, .slice A9 s2.length c9, .int .i64 s3]] rfl (by (try simp only [List.map_toArray, List.map_cons, List.map_nil]); first | done | rfl) ?_; (with_reducible refine (dyadic_Norm.calls k s1 _ _ s2 s3 r1 r2 r3 0 _ ?s0 ?s1 ?sidet HM1.out).mono ?_); (case sidet => exact tz_ HT (Aside0.mk ((fs_ HF).bel 15))); (case s0 => exact ((fs_ HF).sv 1).2); (case s1 => exact ((fs_ HF).sv 1).1); rintro e w40 ⟨v40, rfl, hv, hb⟩; refine ⟨_, rfl, ?_⟩; obtain ⟨A40, c40, rfl⟩ := Kd.R_slice hv; have HBM := Aside0.mk hb; have HRM := Aside0.mk hv; clear hv hb; (try clear hg80); (try clear fg80); (try clear hg81); (try clear fg81); (try clear hg82); (try clear fg82); (try clear hg90); (try clear fg90)) | ((with_reducible refine gate_callee (f := 44) rfl ?_); refine goesL_ (some 62) rfl rfl Tryd.func44 (by kernel_rfl) rfl #[.agg #[.bool r1, .slice A40 r2.length c40, .int .i64 r3], .int .i64 0] rfl (by (try simp only [List.map_toArray, List.map_cons, List.map_nil]); first | done | rfl) ?_; (with_reducible refine (bound_must.calls r1 (fun _ => True) (.slice A40 r2.length c40) r2 r3 0 r1 r2 r3 W8 _ ?side1 ?side2 HMU.out).mono ?_); (case side1 => exact HBM.out); (case side2 => exact HRM.out); rintro e w41 ⟨v41, rfl, hv, hb, hkp⟩; refine ⟨_, rfl, ?_⟩; obtain ⟨A41, c41, rfl⟩ := Kd.R_slice hv; have HR41 := Aside0.mk (Kd.R_mono (ok' := fun _ => True) hv (fun _ _ => trivial)); have HF2 := Aside0.mk (HF.out.below hb); clear HF HBM HRM hv hb hkp; have HF := HF2; clear HF2; have hg80 : w41.cell? ⟨g8, 0, none⟩ = some (.bool false) := (blk_cell (HF.out.bk 7) 0).trans rfl; have fg80 := blk_frozen (HF.out.bk 7) 0; have hg81 : w41.cell? ⟨g8, 1, none⟩ = some (.slice none 0 0) := (blk_cell (HF.out.bk 7) 1).trans rfl; have fg81 := blk_frozen (HF.out.bk 7) 1; have hg82 : w41.cell? ⟨g8, 2, none⟩ = some (.int .i64 0) := (blk_cell (HF.out.bk 7) 2).trans rfl; have fg82 := blk_frozen (HF.out.bk 7) 2; have hg90 : w41.cell? ⟨g9, 0, none⟩ = some (.int .i64 0) := (blk_cell (HF.out.bk 6) 0).trans rfl; have fg90 := blk_frozen (HF.out.bk 6) 0))
      have b8 := HF.out.bk 7
      have b9 := HF.out.bk 6
      show Leaves Tryd.prog Tryd.f16 _ _ _ .returning _
      exact tail_ok rfl rfl (blk_far (blk_put (blk_put (blk_put b8 0 _ rfl) 1 _ rfl) 2 _ rfl) N89.out _) (blk_put (blk_far (blk_far (blk_far b9 N89.out.symm _) N89.out.symm _) N89.out.symm _) 0 _ rfl) (below_set (below_set (below_set (below_set (HF.out.bel 15) GE8.out) GE8.out) GE8.out) GE9.out) (Kd.R_mono (ok' := fun _ => True) (Kd.R_far (p := ⟨g9, 0, none⟩) (Kd.R_far (p := ⟨g8, 2, none⟩) (Kd.R_far (p := ⟨g8, 1, none⟩) (Kd.R_far (p := ⟨g8, 0, none⟩) (Kd.R_types (Kd.R_types HR41.out b8 (by decide)) b9 (by decide)) (fun _ h => h.1.2) _) (fun _ h => h.1.2) _) (fun _ h => h.1.2) _) (fun _ h => h.2) _) (fun _ _ => trivial)) HW8.out
     ·
      have hr := M2 z3
      rw [Prod.mk.injEq, Prod.mk.injEq, Prod.mk.injEq] at hr
      obtain ⟨rfl, rfl, rfl, rfl⟩ := hr
      clear M2 M3
      go_wp2_with (first | ((with_reducible refine gate_callee (f := 45) rfl ?_); refine goesL_ (some 59) rfl rfl Tryd.func45 (by kernel_rfl) rfl #[.agg #[.bool s1, .slice A9 s2.length c9, .int .i64 s3]] rfl (by (try simp only [List.map_toArray, List.map_cons, List.map_nil]); first | done | rfl) ?_; (with_reducible refine (dyadic_Norm.calls k s1 _ _ s2 s3 n1 n2 n3 r4 _ ?s0 ?s1 ?sidet HM1.out).mono ?_); (case sidet => exact tz_ HT (Aside0.mk ((fs_ HF).bel 15))); (case s0 => exact ((fs_ HF).sv 1).2); (case s1 => exact ((fs_ HF).sv 1).1); rintro e w40 ⟨v40, rfl, hv, hb⟩; refine ⟨_, rfl, ?_⟩; obtain ⟨A40, c40, rfl⟩ := Kd.R_slice hv; have HBM := Aside0.mk hb; have HRM := Aside0.mk hv; clear hv hb; (try clear hg80); (try clear fg80); (try clear hg81); (try clear fg81); (try clear hg82); (try clear fg82); (try clear hg90); (try clear fg90)) | ((with_reducible refine gate_callee (f := 44) rfl ?_); refine gp_ (some 62) rfl rfl Tryd.func44 (by kernel_rfl) rfl #[.agg #[.bool n1, .slice A40 n2.length c40, .int .i64 n3], .int .i64 r4] rfl (by (try simp only [List.map_toArray, List.map_cons, List.map_nil]); first | done | rfl) ?_; (with_reducible refine (bound_must.pan n1 _ _ _ n3 r4 z3 _).mono ?_); rintro e w41 ⟨rfl, hb⟩; refine ⟨_, rfl, ?_⟩; have HBP := Aside0.mk hb; clear hb))
      exact tail_pan rfl rfl (blk_below ((HF.out.below HBM.out).bk 7) HBP.out) (blk_below ((HF.out.below HBM.out).bk 6) HBP.out) N89.out (below_step ((HF.out.below HBM.out).bel 15) HBP.out) GE8.out GE9.out
  ·
   rw [if_neg z0] at h
   have hr := Option.some.inj h
   rw [Prod.mk.injEq, Prod.mk.injEq, Prod.mk.injEq] at hr
   obtain ⟨rfl, rfl, rfl, rfl⟩ := hr
   clear h
   have z1 : (e0 != 0) = true := bne_iff_ne.mpr z0
   have z2 : (e0 == 0) = false := beq_eq_false_iff_ne.mpr z0
   clear z0
   go_enter_defers Tryd.func16, Tryd.ntmps16
   go_wp2_with (first | ((with_reducible refine gate_dst (N := 4) rfl ?_); refine box_event ?hg (N := 4) ?hd (cs := #[.bool a0_0, .slice A0_1 l0_1.length c0_1, .int .i64 a0_2, .bool a0_3, .slice A0_4 l0_4.length c0_4, .int .i64 a0_5]) (t := 34) ?hr ?_; (case hd => rfl); (case hg => rfl); (case hr => first | (go_simp; done) | (go_simp; rfl)); intro gb hg w21 hbox hb; have HF2 := Aside0.mk (FS.snoc (f := .bk gb #[.bool a0_0, .slice A0_1 l0_1.length c0_1, .int .i64 a0_2, .bool a0_3, .slice A0_4 l0_4.length c0_4, .int .i64 a0_5] 34) (fsb_ HF hb).out hbox); clear HF hg hbox hb; have HF := HF2; clear HF2) | ((with_reducible refine gate_dst (N := 5) rfl ?_); refine box_event ?hg (N := 5) ?hd (cs := #[.bool a1_0, .slice A1_1 l1_1.length c1_1, .int .i64 a1_2]) (t := 32) ?hr ?_; (case hd => rfl); (case hg => rfl); (case hr => first | (go_simp; done) | (go_simp; rfl)); intro gx hg w22 hbox hb; have HF2 := Aside0.mk (FS.snoc (f := .bk gx #[.bool a1_0, .slice A1_1 l1_1.length c1_1, .int .i64 a1_2] 32) (fsb_ HF hb).out hbox); clear HF hg hbox hb; have HF := HF2; clear HF2) | ((with_reducible refine gate_dst (N := 6) rfl ?_); refine box_event ?hg (N := 6) ?hd (cs := #[.bool a2_0, .slice A2_1 l2_1.length c2_1, .int .i64 a2_2]) (t := 32) ?hr ?_; (case hd => rfl); (case hg => rfl); (case hr => first | (go_simp; done) | (go_simp; rfl)); intro gy hg w23 hbox hb; have HF2 := Aside0.mk (FS.snoc (f := .bk gy #[.bool a2_0, .slice A2_1 l2_1.length c2_1, .int .i64 a2_2] 32) (fsb_ HF hb).out hbox); clear HF hg hbox hb; have HF := HF2; clear HF2) | ((with_reducible refine gate_dst (N := 8) rfl ?_); refine box_event ?hg (N := 8) ?hd (cs := #[.bool false, .slice none 0 0, .int .i64 0]) (t := 32) ?hr ?_; (case hd => rfl); (case hg => rfl); (case hr => first | (go_simp; done) | (go_simp; rfl)); intro g8 hg w24 hbox hb; have GE8 := Aside0.mk (show w.heap.size ≤ g8 by rw [hg]; exact below_size ((fs_ HF).bel 7)); have HF2 := Aside0.mk (FS.snoc (f := .bk g8 #[.bool false, .slice none 0 0, .int .i64 0] 32) (fsb_ HF hb).out hbox); clear HF hg hbox hb; have HF := HF2; clear HF2) | ((with_reducible refine gate_dst (N := 9) rfl ?_); refine box_event ?hg (N := 9) ?hd (cs := #[.int .i64 0]) (t := 24) ?hr ?_; (case hd => rfl); (case hg => rfl); (case hr => first | (go_simp; done) | (go_simp; rfl)); intro g9 hg w25 hbox hb; have GE9 := Aside0.mk (show w.heap.size ≤ g9 by rw [hg]; exact below_size ((fs_ HF).bel 8)); have N89 := Aside0.mk (show g8 ≠ g9 by rw [hg]; exact Nat.ne_of_lt (blk_lt ((fs_ HF).bk 0))); have HF2 := Aside0.mk (FS.snoc (f := .bk g9 #[.int .i64 0] 24) (fsb_ HF hb).out hbox); clear HF hg hbox hb; have HF := HF2; clear HF2; have n89 := N89.out; have n98 := N89.out.symm; have hgb0 : w25.cell? ⟨gb, 0, none⟩ = some (.bool a0_0) := (blk_cell (HF.out.bk 4) 0).trans rfl; have hgb1 : w25.cell? ⟨gb, 1, none⟩ = some (.slice A0_1 l0_1.length c0_1) := (blk_cell (HF.out.bk 4) 1).trans rfl; have hgb2 : w25.cell? ⟨gb, 2, none⟩ = some (.int .i64 a0_2) := (blk_cell (HF.out.bk 4) 2).trans rfl; have hgb3 : w25.cell? ⟨gb, 3, none⟩ = some (.bool a0_3) := (blk_cell (HF.out.bk 4) 3).trans rfl; have hgb4 : w25.cell? ⟨gb, 4, none⟩ = some (.slice A0_4 l0_4.length c0_4) := (blk_cell (HF.out.bk 4) 4).trans rfl; have hgb5 : w25.cell? ⟨gb, 5, none⟩ = some (.int .i64 a0_5) := (blk_cell (HF.out.bk 4) 5).trans rfl; have hgx0 : w25.cell? ⟨gx, 0, none⟩ = some (.bool a1_0) := (blk_cell (HF.out.bk 3) 0).trans rfl; have hgx1 : w25.cell? ⟨gx, 1, none⟩ = some (.slice A1_1 l1_1.length c1_1) := (blk_cell (HF.out.bk 3) 1).trans rfl; have hgx2 : w25.cell? ⟨gx, 2, none⟩ = some (.int .i64 a1_2) := (blk_cell (HF.out.bk 3) 2).trans rfl; have hgy0 : w25.cell? ⟨gy, 0, none⟩ = some (.bool a2_0) := (blk_cell (HF.out.bk 2) 0).trans rfl; have hgy1 : w25.cell? ⟨gy, 1, none⟩ = some (.slice A2_1 l2_1.length c2_1) := (blk_cell (HF.out.bk 2) 1).trans rfl; have hgy2 : w25.cell? ⟨gy, 2, none⟩ = some (.int .i64 a2_2) := (blk_cell (HF.out.bk 2) 2).trans rfl; have hg80 : w25.cell? ⟨g8, 0, none⟩ = some (.bool false) := (blk_cell (HF.out.bk 1) 0).trans rfl; have fg80 := blk_frozen (HF.out.bk 1) 0; have hg81 : w25.cell? ⟨g8, 1, none⟩ = some (.slice none 0 0) := (blk_cell (HF.out.bk 1) 1).trans rfl; have fg81 := blk_frozen (HF.out.bk 1) 1; have hg82 : w25.cell? ⟨g8, 2, none⟩ = some (.int .i64 0) := (blk_cell (HF.out.bk 1) 2).trans rfl; have fg82 := blk_frozen (HF.out.bk 1) 2; have hg90 : w25.cell? ⟨g9, 0, none⟩ = some (.int .i64 0) := (blk_cell (HF.out.bk 0) 0).trans rfl; have fg90 := blk_frozen (HF.out.bk 0) 0) | ((with_reducible refine gate_dst (N := 21) rfl ?_); refine Kd.N_lit k32 _ 32 ?hg (N' := 21) ?hd (xs := ([(⟨a0_0, l0_1, a0_2⟩ : S32), (⟨a0_3, l0_4, a0_5⟩ : S32), (⟨a1_0, l1_1, a1_2⟩ : S32), (⟨a2_0, l2_1, a2_2⟩ : S32)] : List (S32))) (inner := [.bool a0_0, .slice A0_1 l0_1.length c0_1, .int .i64 a0_2, .bool a0_3, .slice A0_4 l0_4.length c0_4, .int .i64 a0_5, .bool a1_0, .slice A1_1 l1_1.length c1_1, .int .i64 a1_2, .bool a2_0, .slice A2_1 l2_1.length c2_1, .int .i64 a2_2]) (ok := fun _ => True) (okp := fun k => k < w25.heap.size) ?hr ?hp (fun _ _ => trivial) trivial (Below.refl _ _) (Nat.le_refl _) (by simp) ?_; (case hd => rfl); (case hg => rfl); (case hr => first | (go_simp; done) | (go_simp; rfl)); (case hp => have HQ := HF.out; exact (Reps.c3 (k32_mkF _ _ (⟨a0_0, l0_1, a0_2⟩ : S32) (HQ.sv 8).1 (Kd.C_F (Kd.heap_int .u64) (HQ.sv 8).2)) (Reps.c3 (k32_mkF _ _ (⟨a0_3, l0_4, a0_5⟩ : S32) (HQ.sv 7).1 (Kd.C_F (Kd.heap_int .u64) (HQ.sv 7).2)) (Reps.c3 (k32_mkF _ _ (⟨a1_0, l1_1, a1_2⟩ : S32) (HQ.sv 6).1 (Kd.C_F (Kd.heap_int .u64) (HQ.sv 6).2)) (Reps.c3 (k32_mkF _ _ (⟨a2_0, l2_1, a2_2⟩ : S32) (HQ.sv 5).1 (Kd.C_F (Kd.heap_int .u64) (HQ.sv 5).2)) (Reps.none _ _)))))); intro v547 w26 ho20 hb hg_ hnew_; clear hg_ hnew_; obtain ⟨An, cn, rfl⟩ := Kd.N_slice ho20; have HN1 := Aside0.mk (Kd.N_reads' ho20).2.2; have HN2 := Aside0.mk (Kd.N_reads' ho20).2.1; have HF2 := fsb_ HF hb; clear HF hb ho20; have HF := HF2; clear HF2) | ((with_reducible refine gate_callee (f := 39) rfl ?_); refine goesL_ (some 22) rfl rfl Tryd.func39 (by kernel_rfl) rfl #[.slice An ([(⟨a0_0, l0_1, a0_2⟩ : S32), (⟨a0_3, l0_4, a0_5⟩ : S32), (⟨a1_0, l1_1, a1_2⟩ : S32), (⟨a2_0, l2_1, a2_2⟩ : S32)] : List (S32)).length cn] rfl (by (try simp only [List.map_toArray, List.map_cons, List.map_nil]); first | done | rfl) ?_; (with_reducible refine (bound_checked.calls k _ _ ([(⟨a0_0, l0_1, a0_2⟩ : S32), (⟨a0_3, l0_4, a0_5⟩ : S32), (⟨a1_0, l1_1, a1_2⟩ : S32), (⟨a2_0, l2_1, a2_2⟩ : S32)] : List (S32)) e0 _ ?s0 ?s1 B1.out).mono ?_); (case s0 => exact HN1.out); (case s1 => exact HN2.out); rintro e w27 ⟨rfl, hb⟩; refine ⟨_, rfl, ?_⟩; have HF2 := fsb_ HF hb; clear HF hb HN1 HN2; have HF := HF2; clear HF2; (try clear hgb0); (try clear hgb1); (try clear hgb2); (try clear hgb3); (try clear hgb4); (try clear hgb5); (try clear hgx0); (try clear hgx1); (try clear hgx2); (try clear hgy0); (try clear hgy1); (try clear hgy2); (try clear hg80); (try clear fg80); (try clear hg81); (try clear fg81); (try clear hg82); (try clear fg82); (try clear hg90); (try clear fg90); have hgb0 : w27.cell? ⟨gb, 0, none⟩ = some (.bool a0_0) := (blk_cell (HF.out.bk 4) 0).trans rfl; have hgb1 : w27.cell? ⟨gb, 1, none⟩ = some (.slice A0_1 l0_1.length c0_1) := (blk_cell (HF.out.bk 4) 1).trans rfl; have hgb2 : w27.cell? ⟨gb, 2, none⟩ = some (.int .i64 a0_2) := (blk_cell (HF.out.bk 4) 2).trans rfl; have hgb3 : w27.cell? ⟨gb, 3, none⟩ = some (.bool a0_3) := (blk_cell (HF.out.bk 4) 3).trans rfl; have hgb4 : w27.cell? ⟨gb, 4, none⟩ = some (.slice A0_4 l0_4.length c0_4) := (blk_cell (HF.out.bk 4) 4).trans rfl; have hgb5 : w27.cell? ⟨gb, 5, none⟩ = some (.int .i64 a0_5) := (blk_cell (HF.out.bk 4) 5).trans rfl; have hgx0 : w27.cell? ⟨gx, 0, none⟩ = some (.bool a1_0) := (blk_cell (HF.out.bk 3) 0).trans rfl; have hgx1 : w27.cell? ⟨gx, 1, none⟩ = some (.slice A1_1 l1_1.length c1_1) := (blk_cell (HF.out.bk 3) 1).trans rfl; have hgx2 : w27.cell? ⟨gx, 2, none⟩ = some (.int .i64 a1_2) := (blk_cell (HF.out.bk 3) 2).trans rfl; have hgy0 : w27.cell? ⟨gy, 0, none⟩ = some (.bool a2_0) := (blk_cell (HF.out.bk 2) 0).trans rfl; have hgy1 : w27.cell? ⟨gy, 1, none⟩ = some (.slice A2_1 l2_1.length c2_1) := (blk_cell (HF.out.bk 2) 1).trans rfl; have hgy2 : w27.cell? ⟨gy, 2, none⟩ = some (.int .i64 a2_2) := (blk_cell (HF.out.bk 2) 2).trans rfl; have hg80 : w27.cell? ⟨g8, 0, none⟩ = some (.bool false) := (blk_cell (HF.out.bk 1) 0).trans rfl; have fg80 := blk_frozen (HF.out.bk 1) 0; have hg81 : w27.cell? ⟨g8, 1, none⟩ = some (.slice none 0 0) := (blk_cell (HF.out.bk 1) 1).trans rfl; have fg81 := blk_frozen (HF.out.bk 1) 1; have hg82 : w27.cell? ⟨g8, 2, none⟩ = some (.int .i64 0) := (blk_cell (HF.out.bk 1) 2).trans rfl; have fg82 := blk_frozen (HF.out.bk 1) 2; have hg90 : w27.cell? ⟨g9, 0, none⟩ = some (.int .i64 0) := (blk_cell (HF.out.bk 0) 0).trans rfl; have fg90 := blk_frozen (HF.out.bk 0) 0))
   have b8 := HF.out.bk 1
   have b9 := HF.out.bk 0
   exact ⟨_, val_res rfl rfl (blk_far (blk_put (blk_put (blk_put b8 0 _ rfl) 1 _ rfl) 2 _ rfl) N89.out _) (blk_put (blk_far (blk_far (blk_far b9 N89.out.symm _) N89.out.symm _) N89.out.symm _) 0 _ rfl), _, rfl, Kd.R_nil _ _ _ _ _, below_set (below_set (below_set (below_set (HF.out.bel 9) GE8.out) GE8.out) GE8.out) GE9.out⟩
end Go.Proofs.YtpdjahhimmaonaaDoor.PD
