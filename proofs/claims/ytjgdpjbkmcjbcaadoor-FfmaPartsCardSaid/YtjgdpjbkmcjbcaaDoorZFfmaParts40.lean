/- parts.Wide answers a natural times a power of two, rounded: of more than 128 bits the upper 128 and whether any below is one. -/
import Derived.Test.YtjgdpjbkmcjbcaaDoorZFfmaParts39
import Derived.Laws.IdiomCopy
namespace Go.Proofs.YtjgdpjbkmcjbcaaDoor.PG
open Go.RowKit Go.Proofs.YtjgdpjbkmcjbcaaDoorW.PrintWords Go.Proofs.YtjgdpjbkmcjbcaaDoorW.PrintLast Go.Proofs.YtjgdpjbkmcjbcaaDoorW.PrintMore
set_option linter.unusedVariables false
set_option linter.unusedSimpArgs false
def parts_Wide.t (k : Nat) (s : Bool) (l : List Int) (e : Int) (more : Bool) (mode : Int) : Option (Int × Int × Int) := (parts_Round.f k s (rd l 1) (rd l 0) e more mode).bind fun r => some (r.1, r.2, 0)
def parts_Wide.f (k : Nat) (a0 : Bool) (l1 : List Int) (a2 : Int) (a3 : Int) : Option (Int × Int × Int) :=
 if (l1.length : Int) > 1024 then some (0, 0, 4) else if a2 < -32768 then some (0, 0, 4) else if a2 > 32768 then some (0, 0, 4) else
 (nat_Bits.f k l1).bind fun b => if wrap64 (b - 128) > 0 then (parts_some.f k l1 (wrap64 (b - 128))).bind fun m => (natdiv_Shr.f k l1 (wrap64 (b - 128))).bind fun q => parts_Wide.t k a0 q.1 (wrap64 (a2 + wrap64 (b - 128))) m a3
 else parts_Wide.t k a0 l1 a2 false a3
theorem wide_copy {w W : World} {gb : Nat} (A : Option Addr) (c : Nat) (l : List Int) (hbox : W.heap[gb]? = some (.cells #[.int .u64 0, .int .u64 0] 136 (0, 0))) (hrd : ReadsInt W .u64 A l.length l) (hb : Below w.heap.size w W) (hg : w.heap.size ≤ gb) :
  ∃ (n : Nat) (W3 : World), (∀ ty, (Builtin.copy_ #[22, 22] ty #[.slice (some ⟨gb, 0, none⟩) 2 2, .slice A l.length c]).run Tryd.prog W = .ok (goInt n) W3) ∧ W3.cell? ⟨gb, 0, none⟩ = some (.int .u64 (rd l 0)) ∧ W3.cell? ⟨gb, 1, none⟩ = some (.int .u64 (rd l 1)) ∧ Below w.heap.size w W3 := by
 have hi : (Tryd.prog.info? 34).map (·.size) = some 1 := by kernel_rfl
 match l, hrd with
 | [], hrd =>
  exact ⟨0, W, fun ty => run_copy_none W _ _ ty 34 _ _ _ _ _ _ Tryd.underlying22 hi rfl, blk_cell hbox 0, blk_cell hbox 1, hb⟩
 | [x], hrd =>
  obtain ⟨ad, he, hc⟩ := hrd.at_ (0 : Int) (by decide) (by simp)
  cases he
  have hb1 := blk_put hbox 0 (.int .u64 x) rfl
  refine ⟨1, _, fun ty => run_copy_cells W _ _ ty 34 gb 0 2 2 ad _ c [.int .u64 x] Tryd.underlying22 hi rfl ?_ ?_ ?_ ?_, (blk_cell hb1 0).trans rfl, (blk_cell hb1 1).trans rfl, below_set hb hg⟩
  ·
   intro j v hj
   match j, hj with
   | 0, hj =>
    obtain rfl := Option.some.inj hj
    exact hc
   | j + 1, hj => cases hj
  ·
   intro j hj
   rw [blk_cell hbox]
   simp only [List.length_cons, List.length_nil] at hj
   obtain rfl : j = 0 := by omega
   rfl
  ·
   exact fun j _ => blk_frozen hbox _
  ·
   intro v hv
   simp only [List.mem_cons, List.not_mem_nil, or_false] at hv
   subst hv
   rfl
 | x :: y :: r, hrd =>
  obtain ⟨ad, he, hc⟩ := hrd.at_ (0 : Int) (by decide) (by simp only [List.length_cons]; omega)
  cases he
  obtain ⟨ad', he, hc'⟩ := hrd.at_ (1 : Int) (by decide) (by simp only [List.length_cons]; omega)
  cases he
  have hb1 := blk_put hbox 0 (.int .u64 x) rfl
  have hb2 := blk_put hb1 1 (.int .u64 y) rfl
  refine ⟨2, _, fun ty => run_copy_cells W _ _ ty 34 gb 0 2 2 _ _ c [.int .u64 x, .int .u64 y] Tryd.underlying22 hi ?_ ?_ ?_ ?_ ?_, (blk_cell hb2 0).trans rfl, (blk_cell hb2 1).trans rfl, below_set (below_set hb hg) hg⟩
  ·
   simp only [List.length_cons, List.length_nil]
   exact (Nat.min_eq_right (by omega)).symm
  ·
   intro j v hj
   match j, hj with
   | 0, hj =>
    obtain rfl := Option.some.inj hj
    exact hc
   | 1, hj =>
    obtain rfl := Option.some.inj hj
    exact hc'
   | j + 2, hj => cases hj
  ·
   intro j hj
   rw [blk_cell hbox]
   simp only [List.length_cons, List.length_nil] at hj
   have : j = 0 ∨ j = 1 := by omega
   rcases this with rfl | rfl <;> rfl
  ·
   exact fun j _ => blk_frozen hbox _
  ·
   intro v hv
   simp only [List.mem_cons, List.not_mem_nil, or_false] at hv
   rcases hv with rfl | rfl <;> rfl
theorem wide_tail {w wt w1 : World} {gb : Nat} (A : Option Addr) (c : Nat) (l : List Int) (hrd : ReadsInt wt .u64 A l.length l) (hw : Below w.heap.size w wt) (hgb : gb = wt.heap.size) (hbox : w1.heap[gb]? = some (.cells #[.int .u64 0, .int .u64 0] 136 (0, 0))) (hb : Below wt.heap.size wt w1) :
  ∃ (n : Nat) (W3 : World), (∀ ty, (Builtin.copy_ #[22, 22] ty #[.slice (some ⟨gb, 0, none⟩) 2 2, .slice A l.length c]).run Tryd.prog ((w1.setCell ⟨gb, 0, none⟩ (.int .u64 0)).setCell ⟨gb, 1, none⟩ (.int .u64 0)) = .ok (goInt n) W3) ∧ W3.cell? ⟨gb, 0, none⟩ = some (.int .u64 (rd l 0)) ∧ W3.cell? ⟨gb, 1, none⟩ = some (.int .u64 (rd l 1)) ∧ Aside0 (Below w.heap.size w W3) := by
 have h1 := blk_put (blk_put hbox 0 (.int .u64 0) rfl) 1 (.int .u64 0) rfl
 have hb2 := below_set (below_set hb (g := gb) (j := 0) (v := .int .u64 0) (by omega)) (g := gb) (j := 1) (v := .int .u64 0) (by omega)
 obtain ⟨n, W3, a, b, d, e⟩ := wide_copy (w := wt) A c l h1 (hrd.below hb2) hb2 (by omega)
 exact ⟨n, W3, a, b, d, ⟨below_step hw e⟩⟩
set_option maxHeartbeats 8000000 in
set_option maxRecDepth 100000 in
theorem parts_Wide.calls (k : Nat) (a0 : Bool) (A1 : Option Addr) (c1 : Nat) (l1 : List Int) (a2 : Int) (a3 : Int) (r1 : Int) (r2 : Int) (r3 : Int) (w : World) (hr1 : Kd.C (Kd.int .u64) w A1 l1.length l1) (hc1 : l1.length ≤ c1) (h : parts_Wide.f k a0 l1 a2 a3 = some (r1, r2, r3)) :
  Calls Tryd.prog 89 #[.bool a0, .slice A1 l1.length c1, .int .i64 a2, .int .i64 a3] w fun e w' => e = .returned (.tuple #[.int .u64 r1, .int .i64 r2, .int .i64 r3]) ∧ Below w.heap.size w w' := by
 have HR := Aside0.mk hr1
 have HC := Aside0.mk hc1
 clear hr1 hc1
 unfold parts_Wide.f at h
 by_cases c1 : (l1.length : Int) > 1024
 ·
  rw [if_pos c1] at h
  have e1 : decide (1024 < (l1.length : Int)) = true := decide_eq_true c1
  have e1' : decide (1024 < l1.length) = true := decide_eq_true (by omega)
  clear c1
  simp only [Option.some.injEq, Prod.mk.injEq] at h
  obtain ⟨rfl, rfl, rfl⟩ := h
  go_enter Tryd.func89, Tryd.ntmps89
  go_wp2_with fail
  go_ret3
  exact ⟨rfl, Below.refl _ _⟩
 rw [if_neg c1] at h
 have e1 : decide (1024 < (l1.length : Int)) = false := decide_eq_false c1
 have e1' : decide (1024 < l1.length) = false := decide_eq_false (by omega)
 clear c1
 by_cases c2 : a2 < -32768
 ·
  rw [if_pos c2] at h
  have e2 : decide (a2 < -32768) = true := decide_eq_true c2
  clear c2
  simp only [Option.some.injEq, Prod.mk.injEq] at h
  obtain ⟨rfl, rfl, rfl⟩ := h
  go_enter Tryd.func89, Tryd.ntmps89
  go_wp2_with fail
  go_ret3
  exact ⟨rfl, Below.refl _ _⟩
 rw [if_neg c2] at h
 have e2 : decide (a2 < -32768) = false := decide_eq_false c2
 by_cases c3 : a2 > 32768
 ·
  rw [if_pos c3] at h
  have e3 : decide (32768 < a2) = true := decide_eq_true c3
  clear c2 c3
  simp only [Option.some.injEq, Prod.mk.injEq] at h
  obtain ⟨rfl, rfl, rfl⟩ := h
  go_enter Tryd.func89, Tryd.ntmps89
  go_wp2_with fail
  go_ret3
  exact ⟨rfl, Below.refl _ _⟩
 rw [if_neg c3] at h
 have e3 : decide (32768 < a2) = false := decide_eq_false c3
 clear c2 c3
 obtain ⟨b, hb, h⟩ := Option.bind_eq_some_iff.mp h
 have HBI := Aside0.mk hb
 have HH := Aside0.mk h
 clear hb h
 go_enter Tryd.func89, Tryd.ntmps89
 have h := HH.out
 clear HH
 by_cases c4 : wrap64 (b - 128) > 0
 ·
  rw [if_pos c4] at h
  have e4 : decide (0 < wrap64 (b - 128)) = true := decide_eq_true c4
  obtain ⟨m, hm, h⟩ := Option.bind_eq_some_iff.mp h
  obtain ⟨⟨q1, q2⟩, hq, h⟩ := Option.bind_eq_some_iff.mp h
  obtain ⟨⟨s1, s2⟩, hr, h⟩ := Option.bind_eq_some_iff.mp h
  simp only [Option.some.injEq, Prod.mk.injEq] at h
  obtain ⟨rfl, rfl, rfl⟩ := h
  have HM := Aside0.mk hm
  have HQ := Aside0.mk hq
  have HRO := Aside0.mk hr
  clear c4 hm hq hr
  go_wp2_with fail
  refine (nat_Bits.calls k _ _ l1 b _ HR.out HC.out HBI.out).mono ?_
  rintro e w' ⟨rfl, ⟨nd, rfl⟩⟩
  go_wp2_with fail
  refine (parts_some.calls k _ _ l1 _ m _ (Kd.C_drewN HR.out _) HC.out HM.out).mono ?_
  rintro e wa ⟨rfl, ha⟩
  have HBa := Aside0.mk (below_step (pw_below_drewN (Below.refl w.heap.size w) nd) ha)
  clear ha
  go_wp2_with fail
  refine (natdiv_Shr.calls k _ _ l1 _ q1 q2 _ (Kd.C_below HR.out HBa.out) HC.out HQ.out).mono ?_
  rintro e wb ⟨v, rfl, ho, hb⟩
  have HBb := Aside0.mk (below_step HBa.out hb)
  have HO := Aside0.mk ho
  obtain ⟨Ao, co, eo⟩ := Kd.R_slice HO.out
  subst eo
  have HRD := Aside0.mk (show ReadsInt wb .u64 Ao q1.length q1 from Kd.reads_of_C (d := (0 : Int)) (Kd.R_reads' HO.out).2.2)
  clear hb ho
  go_wp2_with (first | ((with_reducible refine gate_dst (N := 13) rfl ?_); refine box_event ?hg (N := 13) ?hd (cs := #[.int .u64 0, .int .u64 0]) (t := 136) ?hr ?_; (case hd => rfl); (case hg => rfl); (case hr => first | (go_simp; done) | (go_simp; rfl)); intro gb hgb wx hbox hb; obtain ⟨n3, W3, hcp, hc30, hc31, HB3⟩ := wide_tail Ao co q1 HRD.out HBb.out hgb hbox hb; have hz0 : wx.cell? ⟨gb, 0, none⟩ = some (.int .u64 0) := (blk_cell hbox 0).trans rfl; have hz1 : wx.cell? ⟨gb, 1, none⟩ = some (.int .u64 0) := (blk_cell hbox 1).trans rfl; have hf0 := blk_frozen hbox 0; have hf1 := blk_frozen hbox 1; clear hb hbox hgb))
  refine (parts_Round.calls k _ _ _ _ _ _ s1 s2 _ HRO.out).mono ?_
  rintro e wr ⟨rfl, hbr⟩
  have HB4 := Aside0.mk (below_step HB3.out hbr)
  clear hbr
  go_wp2_with fail
  go_ret3
  exact ⟨rfl, HB4.out⟩
 ·
  rw [if_neg c4] at h
  have e4 : decide (0 < wrap64 (b - 128)) = false := decide_eq_false c4
  obtain ⟨⟨s1, s2⟩, hr, h⟩ := Option.bind_eq_some_iff.mp h
  simp only [Option.some.injEq, Prod.mk.injEq] at h
  obtain ⟨rfl, rfl, rfl⟩ := h
  have HRO := Aside0.mk hr
  clear c4 hr
  go_wp2_with fail
  refine (nat_Bits.calls k _ _ l1 b _ HR.out HC.out HBI.out).mono ?_
  rintro e w' ⟨rfl, ⟨nd, rfl⟩⟩
  have HRD := Aside0.mk (show ReadsInt (w.drewN nd) .u64 A1 l1.length l1 from Kd.reads_of_C (d := (0 : Int)) (Kd.C_drewN HR.out nd))
  go_wp2_with (first | ((with_reducible refine gate_dst (N := 13) rfl ?_); refine box_event ?hg (N := 13) ?hd (cs := #[.int .u64 0, .int .u64 0]) (t := 136) ?hr ?_; (case hd => rfl); (case hg => rfl); (case hr => first | (go_simp; done) | (go_simp; rfl)); intro gb hgb wx hbox hb; obtain ⟨n3, W3, hcp, hc30, hc31, HB3⟩ := wide_tail A1 c1 l1 HRD.out (pw_below_drewN (Below.refl w.heap.size w) nd) hgb hbox hb; have hz0 : wx.cell? ⟨gb, 0, none⟩ = some (.int .u64 0) := (blk_cell hbox 0).trans rfl; have hz1 : wx.cell? ⟨gb, 1, none⟩ = some (.int .u64 0) := (blk_cell hbox 1).trans rfl; have hf0 := blk_frozen hbox 0; have hf1 := blk_frozen hbox 1; clear hb hbox hgb))
  refine (parts_Round.calls k _ _ _ _ _ _ s1 s2 _ HRO.out).mono ?_
  rintro e wr ⟨rfl, hbr⟩
  have HB4 := Aside0.mk (below_step HB3.out hbr)
  clear hbr
  go_wp2_with fail
  go_ret3
  exact ⟨rfl, HB4.out⟩
end Go.Proofs.YtjgdpjbkmcjbcaaDoor.PG
