/- Contracts of Go functions: each call answers what the Lean function of its name answers. Written by a program of this session (vprint.py) round the print of the kit. -/
import Derived.Test.YtjgdpjbkmcjbcaaDoorQDyadicPlain12
import Derived.Test.YtjgdpjbkmcjbcaaDoorQDyadicPlain30
import Derived.Test.YtjgdpjbkmcjbcaaDoorQDyadicPlain32
import Derived.Test.YtjgdpjbkmcjbcaaDoorQDyadicPlain33
import Derived.Test.YtjgdpjbkmcjbcaaDoorQDyadicPlain34
import Derived.Test.YtjgdpjbkmcjbcaaDoorQDyadicPlain35
import Derived.Test.YtjgdpjbkmcjbcaaDoorQDyadicPlain13
namespace Go.Proofs.YtjgdpjbkmcjbcaaDoor.PG
open Go.RowKit Go.Proofs.YtjgdpjbkmcjbcaaDoorW.PrintWords Go.Proofs.YtjgdpjbkmcjbcaaDoorW.PrintLast Go.Proofs.YtjgdpjbkmcjbcaaDoorW.PrintMore
attribute [local go_sem] max2_int min2_int max_two min_two max_three min_three max_four min_four
set_option linter.unusedVariables false
set_option linter.unusedSimpArgs false
attribute [local go_sem] fld139_1
mutual
def vernierlaw04_DyadicPlain.j0 : Nat → Int → Int → Int → Int → Bool → Bool → Bool → List Int → Int → Bool → List Int → Int → Bool → List Int → Int → Bool → List Int → Int → Option (Bool)
  | 0, _, _, _, _, _, _, _, _, _, _, _, _, _, _, _, _, _, _ => none
  | k + 1, x1, x2, x10, x12, x14, x63, x454000, x454001, x454002, x469000, x469001, x469002, x476000, x476001, x476002, x486000, x486001, x486002 => if x63 = true then (some false) else ((vernierlaw04_is.f k x454000 x454001 x454002 x454000 x454001 x454002 x469000 x469001 x469002 x10 false x486001 x486002 x14).bind fun t489 => (if t489 = true then (if x2 < (-16384) then (vernierlaw04_DyadicPlain.j1 k x1 x2 x12 true x476000 x476001 x476002) else (vernierlaw04_DyadicPlain.j1 k x1 x2 x12 (decide (x2 > 16384)) x476000 x476001 x476002)) else (some false)))
def vernierlaw04_DyadicPlain.j1 : Nat → Int → Int → Int → Bool → Bool → List Int → Int → Option (Bool)
  | 0, _, _, _, _, _, _, _ => none
  | k + 1, x1, x2, x12, x78, x476000, x476001, x476002 => if x78 = true then (if x12 = 4 then ((vernierlaw04_same.f k x476000 x476001 x476002 false ([] : List Int) 0).bind fun t490 => (some t490)) else (some false)) else (if x1 < 0 then ((vernierref01_Word.f k (IntKind.u64.wrap (-(IntKind.u64.wrap (x1))))).bind fun t491 => ((vernierlaw04_told.f k (decide (x1 < 0)) t491 x2).bind fun bt494 => (if bt494.2.2.2 = true then (if x12 = 0 then ((vernierlaw04_same.f k x476000 x476001 x476002 bt494.1 bt494.2.1 bt494.2.2.1).bind fun t501 => (if t501 = true then (some true) else (some false))) else (some false)) else (some (x12 == 4))))) else ((vernierref01_Word.f k (IntKind.u64.wrap (x1))).bind fun t502 => ((vernierlaw04_told.f k (decide (x1 < 0)) t502 x2).bind fun bt505 => (if bt505.2.2.2 = true then (if x12 = 0 then ((vernierlaw04_same.f k x476000 x476001 x476002 bt505.1 bt505.2.1 bt505.2.2.1).bind fun t512 => (if t512 = true then (some true) else (some false))) else (some false)) else (some (x12 == 4))))))
end
def vernierlaw04_DyadicPlain.f (k : Nat) (a0_0 : Bool) (l0_1 : List Int) (a0_2 : Int) (a1 : Int) (a2 : Int) : Option (Bool) := (vernierlaw04_alive.f k).bind fun t454 => (if t454 = true then ((dyadic_Norm.f k a0_0 l0_1 a0_2).bind fun bt455 => ((dyadic_Abs.f k a0_0 l0_1 a0_2).bind fun bt462 => ((dyadic_Of.f k a1 a2).bind fun bt469 => ((vernierref01_Of.f k l0_1).bind fun t476 => ((vernierlaw04_told.f k a0_0 t476 a0_2).bind fun bt479 => ((vernierlaw04_is.f k a0_0 l0_1 a0_2 a0_0 l0_1 a0_2 bt455.1 bt455.2.1 bt455.2.2.1 bt455.2.2.2 bt479.1 bt479.2.1 bt479.2.2.1 bt479.2.2.2).bind fun t486 => (if t486 = true then ((vernierlaw04_may.f a0_0 l0_1 a0_2).bind fun t487 => ((dyadic_Check.f a0_0 l0_1 a0_2).bind fun t488 => (vernierlaw04_DyadicPlain.j0 k a1 a2 bt462.2.2.2 bt469.2.2.2 bt479.2.2.2 ((!t487) != (t488 == 9)) a0_0 l0_1 a0_2 bt462.1 bt462.2.1 bt462.2.2.1 bt469.1 bt469.2.1 bt469.2.2.1 bt479.1 bt479.2.1 bt479.2.2.1))) else (vernierlaw04_DyadicPlain.j0 k a1 a2 bt462.2.2.2 bt469.2.2.2 bt479.2.2.2 true a0_0 l0_1 a0_2 bt462.1 bt462.2.1 bt462.2.2.1 bt469.1 bt469.2.1 bt469.2.2.1 bt479.1 bt479.2.1 bt479.2.2.1)))))))) else (some false))
def vernierlaw04_DyadicPlain.T6 : Bool × List (List Nat × List Nat) := (true, [([], []), ([0], [0]), ([], []), ([2], [2]), ([3], [3]), ([], []), ([5], [5]), ([1, 4, 6, 4], [1, 4, 6]), ([7], [7]), ([8], [8]), ([8], [8]), ([], []), ([11, 9, 7, 0, 1, 2, 3, 4, 5, 6, 7, 8, 9, 11], [9, 11]), ([10, 12, 0, 1, 2, 3, 4, 5, 6, 7, 8, 9, 10, 11, 12], [10])])
def vernierlaw04_DyadicPlain.B6 : List Nat := [0, 1, 0, 4, 12, 0, 32, 127, 255, 511, 511, 0, 3071, 8191]
theorem vernierlaw04_DyadicPlain.tab6 : rtab .any (opsOf Tryd.f4 6) = vernierlaw04_DyadicPlain.T6 := by kernel_rfl
theorem vernierlaw04_DyadicPlain.bits6 : waitsOk vernierlaw04_DyadicPlain.T6.2 vernierlaw04_DyadicPlain.B6 = true := by kernel_rfl
def vernierlaw04_DyadicPlain.T7 : Bool × List (List Nat × List Nat) := (true, [([], []), ([], []), ([], []), ([], []), ([], []), ([], []), ([0, 1, 2, 3, 4, 5], [0, 1, 2, 3, 4, 5]), ([6], [6]), ([7, 6], [7]), ([8], [8]), ([9, 8, 8], [8, 9]), ([10, 8], [8, 10]), ([8], [8]), ([12, 10, 8], [8, 12]), ([13, 8], [8, 13]), ([11, 14, 8], [8, 11, 14]), ([8, 15], [8, 15])])
def vernierlaw04_DyadicPlain.B7 : List Nat := [0, 0, 0, 0, 0, 0, 63, 127, 255, 511, 1023, 2047, 511, 6143, 14335, 32767, 65535]
theorem vernierlaw04_DyadicPlain.tab7 : rtab .any (opsOf Tryd.f4 7) = vernierlaw04_DyadicPlain.T7 := by kernel_rfl
theorem vernierlaw04_DyadicPlain.bits7 : waitsOk vernierlaw04_DyadicPlain.T7.2 vernierlaw04_DyadicPlain.B7 = true := by kernel_rfl
set_option maxHeartbeats 8000000 in
set_option maxRecDepth 100000 in
theorem vernierlaw04_DyadicPlain.calls (k : Nat) (a0_0 : Bool) (A0_1 : Option Addr) (c0_1 : Nat) (l0_1 : List Int) (a0_2 : Int) (a1 : Int) (a2 : Int) (r : Bool) (w : World) (hr0_1 : Kd.C (Kd.int .u64) w A0_1 l0_1.length l0_1) (hc0_1 : l0_1.length ≤ c0_1) (ht_ : Tz w) (h : vernierlaw04_DyadicPlain.f k a0_0 l0_1 a0_2 a1 a2 = some r) (hT : r = true := by rfl) :
    Calls Tryd.prog 4 #[.agg #[.bool a0_0, .slice A0_1 l0_1.length c0_1, .int .i64 a0_2], .int .i64 a1, .int .i64 a2] w fun e w' => e = .returned (.bool r) ∧ Below w.heap.size w w' := by
  have HT := Aside0.mk ht_
  clear ht_
  have hu36 := Tryd.underlying36
  have HR0_1 := Aside0.mk hr0_1
  have HC0_1 := Aside0.mk hc0_1
  clear hr0_1 hc0_1
  have HB := Aside0.mk (Below.refl w.heap.size w)
  have H : ((vernierlaw04_alive.f k).bind fun t454 => (if t454 = true then ((dyadic_Norm.f k a0_0 l0_1 a0_2).bind fun bt455 => ((dyadic_Abs.f k a0_0 l0_1 a0_2).bind fun bt462 => ((dyadic_Of.f k a1 a2).bind fun bt469 => ((vernierref01_Of.f k l0_1).bind fun t476 => ((vernierlaw04_told.f k a0_0 t476 a0_2).bind fun bt479 => ((vernierlaw04_is.f k a0_0 l0_1 a0_2 a0_0 l0_1 a0_2 bt455.1 bt455.2.1 bt455.2.2.1 bt455.2.2.2 bt479.1 bt479.2.1 bt479.2.2.1 bt479.2.2.2).bind fun t486 => (if t486 = true then ((vernierlaw04_may.f a0_0 l0_1 a0_2).bind fun t487 => ((dyadic_Check.f a0_0 l0_1 a0_2).bind fun t488 => (vernierlaw04_DyadicPlain.j0 k a1 a2 bt462.2.2.2 bt469.2.2.2 bt479.2.2.2 ((!t487) != (t488 == 9)) a0_0 l0_1 a0_2 bt462.1 bt462.2.1 bt462.2.2.1 bt469.1 bt469.2.1 bt469.2.2.1 bt479.1 bt479.2.1 bt479.2.2.1))) else (vernierlaw04_DyadicPlain.j0 k a1 a2 bt462.2.2.2 bt469.2.2.2 bt479.2.2.2 true a0_0 l0_1 a0_2 bt462.1 bt462.2.1 bt462.2.2.1 bt469.1 bt469.2.1 bt469.2.2.1 bt479.1 bt479.2.1 bt479.2.2.1)))))))) else (some false))) = some r := h
  clear h
  replace H := Option.bind_eq_some_iff.mp H
  obtain ⟨t454, A40, H⟩ := H
  replace H : (if t454 = true then ((dyadic_Norm.f k a0_0 l0_1 a0_2).bind fun bt455 => ((dyadic_Abs.f k a0_0 l0_1 a0_2).bind fun bt462 => ((dyadic_Of.f k a1 a2).bind fun bt469 => ((vernierref01_Of.f k l0_1).bind fun t476 => ((vernierlaw04_told.f k a0_0 t476 a0_2).bind fun bt479 => ((vernierlaw04_is.f k a0_0 l0_1 a0_2 a0_0 l0_1 a0_2 bt455.1 bt455.2.1 bt455.2.2.1 bt455.2.2.2 bt479.1 bt479.2.1 bt479.2.2.1 bt479.2.2.2).bind fun t486 => (if t486 = true then ((vernierlaw04_may.f a0_0 l0_1 a0_2).bind fun t487 => ((dyadic_Check.f a0_0 l0_1 a0_2).bind fun t488 => (vernierlaw04_DyadicPlain.j0 k a1 a2 bt462.2.2.2 bt469.2.2.2 bt479.2.2.2 ((!t487) != (t488 == 9)) a0_0 l0_1 a0_2 bt462.1 bt462.2.1 bt462.2.2.1 bt469.1 bt469.2.1 bt469.2.2.1 bt479.1 bt479.2.1 bt479.2.2.1))) else (vernierlaw04_DyadicPlain.j0 k a1 a2 bt462.2.2.2 bt469.2.2.2 bt479.2.2.2 true a0_0 l0_1 a0_2 bt462.1 bt462.2.1 bt462.2.2.1 bt469.1 bt469.2.1 bt469.2.2.1 bt479.1 bt479.2.1 bt479.2.2.1)))))))) else (some false)) = some r := H
  have A4 := Aside0.mk A40
  clear A40
  by_cases c5 : t454 = true
  · subst c5
    have H1 : ((dyadic_Norm.f k a0_0 l0_1 a0_2).bind fun bt455 => ((dyadic_Abs.f k a0_0 l0_1 a0_2).bind fun bt462 => ((dyadic_Of.f k a1 a2).bind fun bt469 => ((vernierref01_Of.f k l0_1).bind fun t476 => ((vernierlaw04_told.f k a0_0 t476 a0_2).bind fun bt479 => ((vernierlaw04_is.f k a0_0 l0_1 a0_2 a0_0 l0_1 a0_2 bt455.1 bt455.2.1 bt455.2.2.1 bt455.2.2.2 bt479.1 bt479.2.1 bt479.2.2.1 bt479.2.2.2).bind fun t486 => (if t486 = true then ((vernierlaw04_may.f a0_0 l0_1 a0_2).bind fun t487 => ((dyadic_Check.f a0_0 l0_1 a0_2).bind fun t488 => (vernierlaw04_DyadicPlain.j0 k a1 a2 bt462.2.2.2 bt469.2.2.2 bt479.2.2.2 ((!t487) != (t488 == 9)) a0_0 l0_1 a0_2 bt462.1 bt462.2.1 bt462.2.2.1 bt469.1 bt469.2.1 bt469.2.2.1 bt479.1 bt479.2.1 bt479.2.2.1))) else (vernierlaw04_DyadicPlain.j0 k a1 a2 bt462.2.2.2 bt469.2.2.2 bt479.2.2.2 true a0_0 l0_1 a0_2 bt462.1 bt462.2.1 bt462.2.2.1 bt469.1 bt469.2.1 bt469.2.2.1 bt479.1 bt479.2.1 bt479.2.2.1)))))))) = some r := by rw [if_pos rfl] at H; exact H
    clear H
    have H := H1
    clear H1
    replace H := Option.bind_eq_some_iff.mp H
    obtain ⟨⟨t455, t456, t459, t460⟩, A60, H⟩ := H
    replace H : ((dyadic_Abs.f k a0_0 l0_1 a0_2).bind fun bt462 => ((dyadic_Of.f k a1 a2).bind fun bt469 => ((vernierref01_Of.f k l0_1).bind fun t476 => ((vernierlaw04_told.f k a0_0 t476 a0_2).bind fun bt479 => ((vernierlaw04_is.f k a0_0 l0_1 a0_2 a0_0 l0_1 a0_2 t455 t456 t459 t460 bt479.1 bt479.2.1 bt479.2.2.1 bt479.2.2.2).bind fun t486 => (if t486 = true then ((vernierlaw04_may.f a0_0 l0_1 a0_2).bind fun t487 => ((dyadic_Check.f a0_0 l0_1 a0_2).bind fun t488 => (vernierlaw04_DyadicPlain.j0 k a1 a2 bt462.2.2.2 bt469.2.2.2 bt479.2.2.2 ((!t487) != (t488 == 9)) a0_0 l0_1 a0_2 bt462.1 bt462.2.1 bt462.2.2.1 bt469.1 bt469.2.1 bt469.2.2.1 bt479.1 bt479.2.1 bt479.2.2.1))) else (vernierlaw04_DyadicPlain.j0 k a1 a2 bt462.2.2.2 bt469.2.2.2 bt479.2.2.2 true a0_0 l0_1 a0_2 bt462.1 bt462.2.1 bt462.2.2.1 bt469.1 bt469.2.1 bt469.2.2.1 bt479.1 bt479.2.1 bt479.2.2.1))))))) = some r := H
    have A6 := Aside0.mk A60
    clear A60
    replace H := Option.bind_eq_some_iff.mp H
    obtain ⟨⟨t462, t463, t466, t467⟩, A70, H⟩ := H
    replace H : ((dyadic_Of.f k a1 a2).bind fun bt469 => ((vernierref01_Of.f k l0_1).bind fun t476 => ((vernierlaw04_told.f k a0_0 t476 a0_2).bind fun bt479 => ((vernierlaw04_is.f k a0_0 l0_1 a0_2 a0_0 l0_1 a0_2 t455 t456 t459 t460 bt479.1 bt479.2.1 bt479.2.2.1 bt479.2.2.2).bind fun t486 => (if t486 = true then ((vernierlaw04_may.f a0_0 l0_1 a0_2).bind fun t487 => ((dyadic_Check.f a0_0 l0_1 a0_2).bind fun t488 => (vernierlaw04_DyadicPlain.j0 k a1 a2 t467 bt469.2.2.2 bt479.2.2.2 ((!t487) != (t488 == 9)) a0_0 l0_1 a0_2 t462 t463 t466 bt469.1 bt469.2.1 bt469.2.2.1 bt479.1 bt479.2.1 bt479.2.2.1))) else (vernierlaw04_DyadicPlain.j0 k a1 a2 t467 bt469.2.2.2 bt479.2.2.2 true a0_0 l0_1 a0_2 t462 t463 t466 bt469.1 bt469.2.1 bt469.2.2.1 bt479.1 bt479.2.1 bt479.2.2.1)))))) = some r := H
    have A7 := Aside0.mk A70
    clear A70
    replace H := Option.bind_eq_some_iff.mp H
    obtain ⟨⟨t469, t470, t473, t474⟩, A80, H⟩ := H
    replace H : ((vernierref01_Of.f k l0_1).bind fun t476 => ((vernierlaw04_told.f k a0_0 t476 a0_2).bind fun bt479 => ((vernierlaw04_is.f k a0_0 l0_1 a0_2 a0_0 l0_1 a0_2 t455 t456 t459 t460 bt479.1 bt479.2.1 bt479.2.2.1 bt479.2.2.2).bind fun t486 => (if t486 = true then ((vernierlaw04_may.f a0_0 l0_1 a0_2).bind fun t487 => ((dyadic_Check.f a0_0 l0_1 a0_2).bind fun t488 => (vernierlaw04_DyadicPlain.j0 k a1 a2 t467 t474 bt479.2.2.2 ((!t487) != (t488 == 9)) a0_0 l0_1 a0_2 t462 t463 t466 t469 t470 t473 bt479.1 bt479.2.1 bt479.2.2.1))) else (vernierlaw04_DyadicPlain.j0 k a1 a2 t467 t474 bt479.2.2.2 true a0_0 l0_1 a0_2 t462 t463 t466 t469 t470 t473 bt479.1 bt479.2.1 bt479.2.2.1))))) = some r := H
    have A8 := Aside0.mk A80
    clear A80
    replace H := Option.bind_eq_some_iff.mp H
    obtain ⟨t476, A90, H⟩ := H
    replace H : ((vernierlaw04_told.f k a0_0 t476 a0_2).bind fun bt479 => ((vernierlaw04_is.f k a0_0 l0_1 a0_2 a0_0 l0_1 a0_2 t455 t456 t459 t460 bt479.1 bt479.2.1 bt479.2.2.1 bt479.2.2.2).bind fun t486 => (if t486 = true then ((vernierlaw04_may.f a0_0 l0_1 a0_2).bind fun t487 => ((dyadic_Check.f a0_0 l0_1 a0_2).bind fun t488 => (vernierlaw04_DyadicPlain.j0 k a1 a2 t467 t474 bt479.2.2.2 ((!t487) != (t488 == 9)) a0_0 l0_1 a0_2 t462 t463 t466 t469 t470 t473 bt479.1 bt479.2.1 bt479.2.2.1))) else (vernierlaw04_DyadicPlain.j0 k a1 a2 t467 t474 bt479.2.2.2 true a0_0 l0_1 a0_2 t462 t463 t466 t469 t470 t473 bt479.1 bt479.2.1 bt479.2.2.1)))) = some r := H
    have A9 := Aside0.mk A90
    clear A90
    replace H := Option.bind_eq_some_iff.mp H
    obtain ⟨⟨t479, t480, t483, t484⟩, A100, H⟩ := H
    replace H : ((vernierlaw04_is.f k a0_0 l0_1 a0_2 a0_0 l0_1 a0_2 t455 t456 t459 t460 t479 t480 t483 t484).bind fun t486 => (if t486 = true then ((vernierlaw04_may.f a0_0 l0_1 a0_2).bind fun t487 => ((dyadic_Check.f a0_0 l0_1 a0_2).bind fun t488 => (vernierlaw04_DyadicPlain.j0 k a1 a2 t467 t474 t484 ((!t487) != (t488 == 9)) a0_0 l0_1 a0_2 t462 t463 t466 t469 t470 t473 t479 t480 t483))) else (vernierlaw04_DyadicPlain.j0 k a1 a2 t467 t474 t484 true a0_0 l0_1 a0_2 t462 t463 t466 t469 t470 t473 t479 t480 t483))) = some r := H
    have A10 := Aside0.mk A100
    clear A100
    have HC11 := Aside0.mk H
    clear H
    go_enter Tryd.func4, Tryd.ntmps4
    try go_wp2_with (first | ((with_reducible refine gate_dst (N := 3) rfl ?_); refine box_event ?hg (N := 3) ?hd (cs := #[.bool a0_0, .slice A0_1 l0_1.length c0_1, .int .i64 a0_2]) (t := 36) ?hr ?_; (case hd => rfl); (case hg => rfl); (case hr => first | (go_simp; done) | (go_simp; rfl)); intro gb453 hg w12 hbox hb; have BK453 := Aside0.mk (hbox); have GW453 := Aside0.mk ((by rw [hg]; exact (below_size (bw_ HB)) : w.heap.size ≤ gb453)); have GE453 := Aside0.mk ((by rw [hg]; exact (below_size (bw_ HB)) : w.heap.size ≤ gb453)); replace HB := Aside0.mk (below_step (bw_ HB) hb); clear hb hbox hg) | ((with_reducible refine gate_callee (f := 24) rfl ?_); refine gl_ (some 18) rfl rfl Tryd.func24 (by kernel_rfl) rfl #[] rfl ?_; (with_reducible refine (vernierlaw04_alive.calls k  true _ ?sidet A4.out).mono ?_); (case sidet => exact tz_ HT HB); rintro e w13 ⟨rfl, hb⟩; refine ⟨_, rfl, ?_⟩; replace BK453 := Aside0.mk (blk_below (bl_ BK453) hb); replace HB := Aside0.mk (below_step (bw_ HB) hb); (try clear hb); (try clear hb2); (try clear hk); (try clear hi); have hcz14_0 : w13.cell? ⟨gb453, 0, none⟩ = some (.bool a0_0) := (blk_cell BK453.out 0).trans rfl; have hcz14_1 : w13.cell? ⟨gb453, 1, none⟩ = some (.slice A0_1 l0_1.length c0_1) := (blk_cell BK453.out 1).trans rfl; have hcz14_2 : w13.cell? ⟨gb453, 2, none⟩ = some (.int .i64 a0_2) := (blk_cell BK453.out 2).trans rfl; have hfz14_0 := blk_frozen BK453.out 0; have hfz14_1 := blk_frozen BK453.out 1; have hfz14_2 := blk_frozen BK453.out 2) | ((with_reducible refine gate_callee (f := 25) rfl ?_); refine gl_ (some 22) rfl rfl Tryd.func25 (by kernel_rfl) rfl #[.agg #[.bool a0_0, .slice A0_1 l0_1.length c0_1, .int .i64 a0_2]] rfl ?_; (with_reducible refine (dyadic_Norm.calls k a0_0 _ _ l0_1 a0_2 t455 t456 t459 t460 _ ?side1 ?side2 ?sidet A6.out).mono ?_); (case sidet => exact tz_ HT HB); (case side1 => exact cl_ (Kd.C_below HR0_1.out HB.out)); (case side2 => exact HC0_1.out); rintro e w15 ⟨v457, rfl, ho0, hb⟩; refine ⟨_, rfl, ?_⟩; have HO458 := Aside0.mk (Kd.R_lower ho0 (below_size (bw_ HB))); replace BK453 := Aside0.mk (blk_below (bl_ BK453) hb); replace HB := Aside0.mk (below_step (bw_ HB) hb); (try clear hb); (try clear hb2); (try clear hk); (try clear hi); (try clear ho0)) | ((with_reducible refine gate_dst (N := 7) rfl ?_); refine box_event ?hg (N := 7) ?hd (cs := #[.bool false, .slice none 0 0, .int .i64 0]) (t := 36) ?hr ?_; (case hd => rfl); (case hg => rfl); (case hr => first | (go_simp; done) | (go_simp; rfl)); intro gb461 hg w16 hbox hb; replace HO458 := Aside0.mk (Kd.R_below (rl_ HO458) hb); have BK461 := Aside0.mk (hbox); have GW461 := Aside0.mk ((by rw [hg]; exact (below_size (bw_ HB)) : w.heap.size ≤ gb461)); have GE461 := Aside0.mk ((by rw [hg]; exact (below_size (bw_ HB)) : w.heap.size ≤ gb461)); replace HB := Aside0.mk (below_step (bw_ HB) hb); have NB453_461 := Aside0.mk ((by rw [hg]; exact Nat.ne_of_lt (blk_lt (bl_ BK453)) : gb453 ≠ gb461)); have NB461_453 := Aside0.mk ((by rw [hg]; exact Nat.ne_of_gt (blk_lt (bl_ BK453)) : gb461 ≠ gb453)); replace BK453 := Aside0.mk (blk_below (bl_ BK453) hb); clear hb hbox hg; have hnb17 := NB461_453.out; have hnc17 := NB453_461.out; have hcz18_0 : w16.cell? ⟨gb461, 0, none⟩ = some (.bool false) := (blk_cell BK461.out 0).trans rfl; have hcz18_1 : w16.cell? ⟨gb461, 1, none⟩ = some (.slice none 0 0) := (blk_cell BK461.out 1).trans rfl; have hcz18_2 : w16.cell? ⟨gb461, 2, none⟩ = some (.int .i64 0) := (blk_cell BK461.out 2).trans rfl; have hfz18_0 := blk_frozen BK461.out 0; have hfz18_1 := blk_frozen BK461.out 1; have hfz18_2 := blk_frozen BK461.out 2; obtain ⟨Ao19, co19, eo19⟩ := Kd.R_slice HO458.out; subst eo19; have hcz20_0 : w16.cell? ⟨gb453, 0, none⟩ = some (.bool a0_0) := (blk_cell BK453.out 0).trans rfl; have hcz20_1 : w16.cell? ⟨gb453, 1, none⟩ = some (.slice A0_1 l0_1.length c0_1) := (blk_cell BK453.out 1).trans rfl; have hcz20_2 : w16.cell? ⟨gb453, 2, none⟩ = some (.int .i64 a0_2) := (blk_cell BK453.out 2).trans rfl; have hfz20_0 := blk_frozen BK453.out 0; have hfz20_1 := blk_frozen BK453.out 1; have hfz20_2 := blk_frozen BK453.out 2) | ((with_reducible refine gate_callee (f := 26) rfl ?_); refine gl_ (some 27) rfl rfl Tryd.func26 (by kernel_rfl) rfl #[.agg #[.bool a0_0, .slice A0_1 l0_1.length c0_1, .int .i64 a0_2]] rfl ?_; (with_reducible refine (dyadic_Abs.calls k a0_0 _ _ l0_1 a0_2 t462 t463 t466 t467 _ ?side1 ?side2 ?sidet A7.out).mono ?_); (case sidet => exact tz_ HT HB); (case side1 => exact Kd.C_below HR0_1.out (bw_ HB)); (case side2 => exact HC0_1.out); rintro e w21 ⟨v464, rfl, ho0, hb⟩; refine ⟨_, rfl, ?_⟩; have HO465 := Aside0.mk (Kd.R_lower (Kd.R_new' ho0 (Kd.R_lt (by (with_reducible repeat (first | apply Kd.R_alloc | apply Kd.R_drewN | apply Kd.R_drew)); exact (Kd.R_mono (Kd.R_far (p := ⟨gb461, 2, none⟩) (Kd.R_far (p := ⟨gb461, 1, none⟩) (Kd.R_far (p := ⟨gb461, 0, none⟩) (Kd.R_types HO458.out BK461.out (by decide)) (fun _ hk => hk.2) (.bool t455)) (fun _ hk => hk.2) (.slice Ao19 t456.length co19)) (fun _ hk => hk.2) (.int .i64 t459)) (fun _ h_ => h_.1))))) (below_size (bw_ HB))); replace HO458 := Aside0.mk (Kd.R_elder' (by (with_reducible repeat (first | apply Kd.R_alloc | apply Kd.R_drewN | apply Kd.R_drew)); exact (Kd.R_mono (Kd.R_far (p := ⟨gb461, 2, none⟩) (Kd.R_far (p := ⟨gb461, 1, none⟩) (Kd.R_far (p := ⟨gb461, 0, none⟩) (Kd.R_types HO458.out BK461.out (by decide)) (fun _ hk => hk.2) (.bool t455)) (fun _ hk => hk.2) (.slice Ao19 t456.length co19)) (fun _ hk => hk.2) (.int .i64 t459)) (fun _ h_ => h_.1))) (Kd.R_base ho0) hb); replace BK453 := Aside0.mk (blk_below (g := gb453) (o := .cells #[.bool a0_0, .slice A0_1 l0_1.length c0_1, .int .i64 a0_2] 36 (0, 0)) (by (with_reducible repeat (first | refine blk_drewN ?_ _ | refine blk_drew ?_ | refine blk_alloc ?_ _)); refine blk_far ?_ NB453_461.out _; (with_reducible repeat (first | refine blk_drewN ?_ _ | refine blk_drew ?_ | refine blk_alloc ?_ _)); refine blk_far ?_ NB453_461.out _; (with_reducible repeat (first | refine blk_drewN ?_ _ | refine blk_drew ?_ | refine blk_alloc ?_ _)); refine blk_far ?_ NB453_461.out _; (with_reducible repeat (first | refine blk_drewN ?_ _ | refine blk_drew ?_ | refine blk_alloc ?_ _)); exact BK453.out) hb); replace BK461 := Aside0.mk (blk_below (g := gb461) (o := .cells #[.bool t455, .slice Ao19 t456.length co19, .int .i64 t459] 36 (0, 0)) (by (with_reducible repeat (first | refine blk_drewN ?_ _ | refine blk_drew ?_ | refine blk_alloc ?_ _)); refine blk_put (cs := #[.bool t455, .slice Ao19 t456.length co19, .int .i64 0]) ?_ 2 _ rfl; (with_reducible repeat (first | refine blk_drewN ?_ _ | refine blk_drew ?_ | refine blk_alloc ?_ _)); refine blk_put (cs := #[.bool t455, .slice none 0 0, .int .i64 0]) ?_ 1 _ rfl; (with_reducible repeat (first | refine blk_drewN ?_ _ | refine blk_drew ?_ | refine blk_alloc ?_ _)); refine blk_put (cs := #[.bool false, .slice none 0 0, .int .i64 0]) ?_ 0 _ rfl; (with_reducible repeat (first | refine blk_drewN ?_ _ | refine blk_drew ?_ | refine blk_alloc ?_ _)); exact BK461.out) hb); replace HB := Aside0.mk (below_step (bw_ HB) hb); (try clear hb); (try clear hb2); (try clear hk); (try clear hi); (try clear ho0)) | ((with_reducible refine gate_dst (N := 9) rfl ?_); refine box_event ?hg (N := 9) ?hd (cs := #[.bool false, .slice none 0 0, .int .i64 0]) (t := 36) ?hr ?_; (case hd => rfl); (case hg => rfl); (case hr => first | (go_simp; done) | (go_simp; rfl)); intro gb468 hg w22 hbox hb; replace HO458 := Aside0.mk (Kd.R_below (rl_ HO458) hb); replace HO465 := Aside0.mk (Kd.R_below (rl_ HO465) hb); have BK468 := Aside0.mk (hbox); have GW468 := Aside0.mk ((by rw [hg]; exact (below_size (bw_ HB)) : w.heap.size ≤ gb468)); have GE468 := Aside0.mk ((by rw [hg]; exact (below_size (bw_ HB)) : w.heap.size ≤ gb468)); replace HB := Aside0.mk (below_step (bw_ HB) hb); have NB453_468 := Aside0.mk ((by rw [hg]; exact Nat.ne_of_lt (blk_lt (bl_ BK453)) : gb453 ≠ gb468)); have NB468_453 := Aside0.mk ((by rw [hg]; exact Nat.ne_of_gt (blk_lt (bl_ BK453)) : gb468 ≠ gb453)); replace BK453 := Aside0.mk (blk_below (bl_ BK453) hb); have NB461_468 := Aside0.mk ((by rw [hg]; exact Nat.ne_of_lt (blk_lt (bl_ BK461)) : gb461 ≠ gb468)); have NB468_461 := Aside0.mk ((by rw [hg]; exact Nat.ne_of_gt (blk_lt (bl_ BK461)) : gb468 ≠ gb461)); replace BK461 := Aside0.mk (blk_below (bl_ BK461) hb); clear hb hbox hg; have hnb23 := NB468_453.out; have hnc23 := NB453_468.out; have hnb24 := NB468_461.out; have hnc24 := NB461_468.out; have hcz25_0 : w22.cell? ⟨gb468, 0, none⟩ = some (.bool false) := (blk_cell BK468.out 0).trans rfl; have hcz25_1 : w22.cell? ⟨gb468, 1, none⟩ = some (.slice none 0 0) := (blk_cell BK468.out 1).trans rfl; have hcz25_2 : w22.cell? ⟨gb468, 2, none⟩ = some (.int .i64 0) := (blk_cell BK468.out 2).trans rfl; have hfz25_0 := blk_frozen BK468.out 0; have hfz25_1 := blk_frozen BK468.out 1; have hfz25_2 := blk_frozen BK468.out 2; obtain ⟨Ao26, co26, eo26⟩ := Kd.R_slice HO465.out; subst eo26) | ((with_reducible refine gate_callee (f := 27) rfl ?_); refine gl_ (some 33) rfl rfl Tryd.func27 (by kernel_rfl) rfl #[.int .i64 a1, .int .i64 a2] rfl ?_; (with_reducible refine (dyadic_Of.calls k a1 a2 t469 t470 t473 t474 _ ?sidet A8.out).mono ?_); (case sidet => exact tz_ HT HB); rintro e w27 ⟨v471, rfl, ho0, hb⟩; refine ⟨_, rfl, ?_⟩; have HO472 := Aside0.mk (Kd.R_lower (Kd.R_new' (Kd.R_new' ho0 (Kd.R_lt (by (with_reducible repeat (first | apply Kd.R_alloc | apply Kd.R_drewN | apply Kd.R_drew)); exact (Kd.R_mono (Kd.R_far (p := ⟨gb468, 2, none⟩) (Kd.R_far (p := ⟨gb468, 1, none⟩) (Kd.R_far (p := ⟨gb468, 0, none⟩) (Kd.R_types HO458.out BK468.out (by decide)) (fun _ hk => hk.2) (.bool t462)) (fun _ hk => hk.2) (.slice Ao26 t463.length co26)) (fun _ hk => hk.2) (.int .i64 t466)) (fun _ h_ => h_.1))))) (Kd.R_lt (by (with_reducible repeat (first | apply Kd.R_alloc | apply Kd.R_drewN | apply Kd.R_drew)); exact (Kd.R_mono (Kd.R_far (p := ⟨gb468, 2, none⟩) (Kd.R_far (p := ⟨gb468, 1, none⟩) (Kd.R_far (p := ⟨gb468, 0, none⟩) (Kd.R_types HO465.out BK468.out (by decide)) (fun _ hk => hk.2) (.bool t462)) (fun _ hk => hk.2) (.slice Ao26 t463.length co26)) (fun _ hk => hk.2) (.int .i64 t466)) (fun _ h_ => h_.1))))) (below_size (bw_ HB))); replace HO458 := Aside0.mk (Kd.R_elder' (by (with_reducible repeat (first | apply Kd.R_alloc | apply Kd.R_drewN | apply Kd.R_drew)); exact (Kd.R_mono (Kd.R_far (p := ⟨gb468, 2, none⟩) (Kd.R_far (p := ⟨gb468, 1, none⟩) (Kd.R_far (p := ⟨gb468, 0, none⟩) (Kd.R_types HO458.out BK468.out (by decide)) (fun _ hk => hk.2) (.bool t462)) (fun _ hk => hk.2) (.slice Ao26 t463.length co26)) (fun _ hk => hk.2) (.int .i64 t466)) (fun _ h_ => h_.1))) (Kd.R_base ho0) hb); replace HO465 := Aside0.mk (Kd.R_elder' (by (with_reducible repeat (first | apply Kd.R_alloc | apply Kd.R_drewN | apply Kd.R_drew)); exact (Kd.R_mono (Kd.R_far (p := ⟨gb468, 2, none⟩) (Kd.R_far (p := ⟨gb468, 1, none⟩) (Kd.R_far (p := ⟨gb468, 0, none⟩) (Kd.R_types HO465.out BK468.out (by decide)) (fun _ hk => hk.2) (.bool t462)) (fun _ hk => hk.2) (.slice Ao26 t463.length co26)) (fun _ hk => hk.2) (.int .i64 t466)) (fun _ h_ => h_.1))) (Kd.R_base ho0) hb); replace BK453 := Aside0.mk (blk_below (g := gb453) (o := .cells #[.bool a0_0, .slice A0_1 l0_1.length c0_1, .int .i64 a0_2] 36 (0, 0)) (by (with_reducible repeat (first | refine blk_drewN ?_ _ | refine blk_drew ?_ | refine blk_alloc ?_ _)); refine blk_far ?_ NB453_468.out _; (with_reducible repeat (first | refine blk_drewN ?_ _ | refine blk_drew ?_ | refine blk_alloc ?_ _)); refine blk_far ?_ NB453_468.out _; (with_reducible repeat (first | refine blk_drewN ?_ _ | refine blk_drew ?_ | refine blk_alloc ?_ _)); refine blk_far ?_ NB453_468.out _; (with_reducible repeat (first | refine blk_drewN ?_ _ | refine blk_drew ?_ | refine blk_alloc ?_ _)); exact BK453.out) hb); replace BK461 := Aside0.mk (blk_below (g := gb461) (o := .cells #[.bool t455, .slice Ao19 t456.length co19, .int .i64 t459] 36 (0, 0)) (by (with_reducible repeat (first | refine blk_drewN ?_ _ | refine blk_drew ?_ | refine blk_alloc ?_ _)); refine blk_far ?_ NB461_468.out _; (with_reducible repeat (first | refine blk_drewN ?_ _ | refine blk_drew ?_ | refine blk_alloc ?_ _)); refine blk_far ?_ NB461_468.out _; (with_reducible repeat (first | refine blk_drewN ?_ _ | refine blk_drew ?_ | refine blk_alloc ?_ _)); refine blk_far ?_ NB461_468.out _; (with_reducible repeat (first | refine blk_drewN ?_ _ | refine blk_drew ?_ | refine blk_alloc ?_ _)); exact BK461.out) hb); replace BK468 := Aside0.mk (blk_below (g := gb468) (o := .cells #[.bool t462, .slice Ao26 t463.length co26, .int .i64 t466] 36 (0, 0)) (by (with_reducible repeat (first | refine blk_drewN ?_ _ | refine blk_drew ?_ | refine blk_alloc ?_ _)); refine blk_put (cs := #[.bool t462, .slice Ao26 t463.length co26, .int .i64 0]) ?_ 2 _ rfl; (with_reducible repeat (first | refine blk_drewN ?_ _ | refine blk_drew ?_ | refine blk_alloc ?_ _)); refine blk_put (cs := #[.bool t462, .slice none 0 0, .int .i64 0]) ?_ 1 _ rfl; (with_reducible repeat (first | refine blk_drewN ?_ _ | refine blk_drew ?_ | refine blk_alloc ?_ _)); refine blk_put (cs := #[.bool false, .slice none 0 0, .int .i64 0]) ?_ 0 _ rfl; (with_reducible repeat (first | refine blk_drewN ?_ _ | refine blk_drew ?_ | refine blk_alloc ?_ _)); exact BK468.out) hb); replace HB := Aside0.mk (below_step (bw_ HB) hb); (try clear hb); (try clear hb2); (try clear hk); (try clear hi); (try clear ho0)) | ((with_reducible refine gate_dst (N := 11) rfl ?_); refine box_event ?hg (N := 11) ?hd (cs := #[.bool false, .slice none 0 0, .int .i64 0]) (t := 36) ?hr ?_; (case hd => rfl); (case hg => rfl); (case hr => first | (go_simp; done) | (go_simp; rfl)); intro gb475 hg w28 hbox hb; replace HO458 := Aside0.mk (Kd.R_below (rl_ HO458) hb); replace HO465 := Aside0.mk (Kd.R_below (rl_ HO465) hb); replace HO472 := Aside0.mk (Kd.R_below (rl_ HO472) hb); have BK475 := Aside0.mk (hbox); have GW475 := Aside0.mk ((by rw [hg]; exact (below_size (bw_ HB)) : w.heap.size ≤ gb475)); have GE475 := Aside0.mk ((by rw [hg]; exact (below_size (bw_ HB)) : w.heap.size ≤ gb475)); replace HB := Aside0.mk (below_step (bw_ HB) hb); have NB453_475 := Aside0.mk ((by rw [hg]; exact Nat.ne_of_lt (blk_lt (bl_ BK453)) : gb453 ≠ gb475)); have NB475_453 := Aside0.mk ((by rw [hg]; exact Nat.ne_of_gt (blk_lt (bl_ BK453)) : gb475 ≠ gb453)); replace BK453 := Aside0.mk (blk_below (bl_ BK453) hb); have NB461_475 := Aside0.mk ((by rw [hg]; exact Nat.ne_of_lt (blk_lt (bl_ BK461)) : gb461 ≠ gb475)); have NB475_461 := Aside0.mk ((by rw [hg]; exact Nat.ne_of_gt (blk_lt (bl_ BK461)) : gb475 ≠ gb461)); replace BK461 := Aside0.mk (blk_below (bl_ BK461) hb); have NB468_475 := Aside0.mk ((by rw [hg]; exact Nat.ne_of_lt (blk_lt (bl_ BK468)) : gb468 ≠ gb475)); have NB475_468 := Aside0.mk ((by rw [hg]; exact Nat.ne_of_gt (blk_lt (bl_ BK468)) : gb475 ≠ gb468)); replace BK468 := Aside0.mk (blk_below (bl_ BK468) hb); clear hb hbox hg; have hnb29 := NB475_453.out; have hnc29 := NB453_475.out; have hnb30 := NB475_461.out; have hnc30 := NB461_475.out; have hnb31 := NB475_468.out; have hnc31 := NB468_475.out; have hcz32_0 : w28.cell? ⟨gb475, 0, none⟩ = some (.bool false) := (blk_cell BK475.out 0).trans rfl; have hcz32_1 : w28.cell? ⟨gb475, 1, none⟩ = some (.slice none 0 0) := (blk_cell BK475.out 1).trans rfl; have hcz32_2 : w28.cell? ⟨gb475, 2, none⟩ = some (.int .i64 0) := (blk_cell BK475.out 2).trans rfl; have hfz32_0 := blk_frozen BK475.out 0; have hfz32_1 := blk_frozen BK475.out 1; have hfz32_2 := blk_frozen BK475.out 2; obtain ⟨Ao33, co33, eo33⟩ := Kd.R_slice HO472.out; subst eo33))
    have n0_ : Aside0 (Kd.R (Kd.int .u64) 34 (((w28.setCell ⟨gb475, 0, none⟩ (.bool t469)).setCell ⟨gb475, 1, none⟩ (.slice Ao33 t470.length co33)).setCell ⟨gb475, 2, none⟩ (.int .i64 t473)) w.heap.size (fun k_ => some k_ ≠ (.slice Ao26 t463.length co26 : Value).ownBlock ∧ some k_ ≠ (.slice Ao33 t470.length co33 : Value).ownBlock) (.slice Ao19 t456.length co19) t456) := ⟨by (with_reducible repeat (first | apply Kd.R_alloc | apply Kd.R_drewN | apply Kd.R_drew)); exact Kd.R_mono (Kd.R_far (p := ⟨gb475, 2, none⟩) (Kd.R_far (p := ⟨gb475, 1, none⟩) (Kd.R_far (p := ⟨gb475, 0, none⟩) (Kd.R_types HO458.out BK475.out (by decide)) (fun _ hk => hk.2) (.bool t469)) (fun _ hk => hk.2) (.slice Ao33 t470.length co33)) (fun _ hk => hk.2) (.int .i64 t473)) (fun _ hk => ⟨hk.1.1.2, hk.1.2⟩)⟩
    have n1_ : Aside0 (Kd.R (Kd.int .u64) 34 (((w28.setCell ⟨gb475, 0, none⟩ (.bool t469)).setCell ⟨gb475, 1, none⟩ (.slice Ao33 t470.length co33)).setCell ⟨gb475, 2, none⟩ (.int .i64 t473)) w.heap.size (fun k_ => some k_ ≠ (.slice Ao19 t456.length co19 : Value).ownBlock ∧ some k_ ≠ (.slice Ao33 t470.length co33 : Value).ownBlock) (.slice Ao26 t463.length co26) t463) := ⟨by (with_reducible repeat (first | apply Kd.R_alloc | apply Kd.R_drewN | apply Kd.R_drew)); exact Kd.R_mono (Kd.R_far (p := ⟨gb475, 2, none⟩) (Kd.R_far (p := ⟨gb475, 1, none⟩) (Kd.R_far (p := ⟨gb475, 0, none⟩) (Kd.R_types HO465.out BK475.out (by decide)) (fun _ hk => hk.2) (.bool t469)) (fun _ hk => hk.2) (.slice Ao33 t470.length co33)) (fun _ hk => hk.2) (.int .i64 t473)) (fun _ hk => ⟨hk.1.1.2, hk.1.2⟩)⟩
    have n2_ : Aside0 (Kd.R (Kd.int .u64) 34 (((w28.setCell ⟨gb475, 0, none⟩ (.bool t469)).setCell ⟨gb475, 1, none⟩ (.slice Ao33 t470.length co33)).setCell ⟨gb475, 2, none⟩ (.int .i64 t473)) w.heap.size (fun k_ => some k_ ≠ (.slice Ao19 t456.length co19 : Value).ownBlock ∧ some k_ ≠ (.slice Ao26 t463.length co26 : Value).ownBlock) (.slice Ao33 t470.length co33) t470) := ⟨by (with_reducible repeat (first | apply Kd.R_alloc | apply Kd.R_drewN | apply Kd.R_drew)); exact Kd.R_mono (Kd.R_far (p := ⟨gb475, 2, none⟩) (Kd.R_far (p := ⟨gb475, 1, none⟩) (Kd.R_far (p := ⟨gb475, 0, none⟩) (Kd.R_types HO472.out BK475.out (by decide)) (fun _ hk => hk.2) (.bool t469)) (fun _ hk => hk.2) (.slice Ao33 t470.length co33)) (fun _ hk => hk.2) (.int .i64 t473)) (fun _ hk => ⟨hk.1.1.2, hk.1.2⟩)⟩
    have n3_ : Aside0 ((((w28.setCell ⟨gb475, 0, none⟩ (.bool t469)).setCell ⟨gb475, 1, none⟩ (.slice Ao33 t470.length co33)).setCell ⟨gb475, 2, none⟩ (.int .i64 t473)).heap[gb453]? = some (.cells #[.bool a0_0, .slice A0_1 l0_1.length c0_1, .int .i64 a0_2] 36 (0, 0))) := ⟨by (with_reducible repeat (first | refine blk_drewN ?_ _ | refine blk_drew ?_ | refine blk_alloc ?_ _)); refine blk_far ?_ NB453_475.out _; (with_reducible repeat (first | refine blk_drewN ?_ _ | refine blk_drew ?_ | refine blk_alloc ?_ _)); refine blk_far ?_ NB453_475.out _; (with_reducible repeat (first | refine blk_drewN ?_ _ | refine blk_drew ?_ | refine blk_alloc ?_ _)); refine blk_far ?_ NB453_475.out _; (with_reducible repeat (first | refine blk_drewN ?_ _ | refine blk_drew ?_ | refine blk_alloc ?_ _)); exact BK453.out⟩
    have n4_ : Aside0 ((((w28.setCell ⟨gb475, 0, none⟩ (.bool t469)).setCell ⟨gb475, 1, none⟩ (.slice Ao33 t470.length co33)).setCell ⟨gb475, 2, none⟩ (.int .i64 t473)).heap[gb461]? = some (.cells #[.bool t455, .slice Ao19 t456.length co19, .int .i64 t459] 36 (0, 0))) := ⟨by (with_reducible repeat (first | refine blk_drewN ?_ _ | refine blk_drew ?_ | refine blk_alloc ?_ _)); refine blk_far ?_ NB461_475.out _; (with_reducible repeat (first | refine blk_drewN ?_ _ | refine blk_drew ?_ | refine blk_alloc ?_ _)); refine blk_far ?_ NB461_475.out _; (with_reducible repeat (first | refine blk_drewN ?_ _ | refine blk_drew ?_ | refine blk_alloc ?_ _)); refine blk_far ?_ NB461_475.out _; (with_reducible repeat (first | refine blk_drewN ?_ _ | refine blk_drew ?_ | refine blk_alloc ?_ _)); exact BK461.out⟩
    have n5_ : Aside0 ((((w28.setCell ⟨gb475, 0, none⟩ (.bool t469)).setCell ⟨gb475, 1, none⟩ (.slice Ao33 t470.length co33)).setCell ⟨gb475, 2, none⟩ (.int .i64 t473)).heap[gb468]? = some (.cells #[.bool t462, .slice Ao26 t463.length co26, .int .i64 t466] 36 (0, 0))) := ⟨by (with_reducible repeat (first | refine blk_drewN ?_ _ | refine blk_drew ?_ | refine blk_alloc ?_ _)); refine blk_far ?_ NB468_475.out _; (with_reducible repeat (first | refine blk_drewN ?_ _ | refine blk_drew ?_ | refine blk_alloc ?_ _)); refine blk_far ?_ NB468_475.out _; (with_reducible repeat (first | refine blk_drewN ?_ _ | refine blk_drew ?_ | refine blk_alloc ?_ _)); refine blk_far ?_ NB468_475.out _; (with_reducible repeat (first | refine blk_drewN ?_ _ | refine blk_drew ?_ | refine blk_alloc ?_ _)); exact BK468.out⟩
    have n6_ : Aside0 ((((w28.setCell ⟨gb475, 0, none⟩ (.bool t469)).setCell ⟨gb475, 1, none⟩ (.slice Ao33 t470.length co33)).setCell ⟨gb475, 2, none⟩ (.int .i64 t473)).heap[gb475]? = some (.cells #[.bool t469, .slice Ao33 t470.length co33, .int .i64 t473] 36 (0, 0))) := ⟨by (with_reducible repeat (first | refine blk_drewN ?_ _ | refine blk_drew ?_ | refine blk_alloc ?_ _)); refine blk_put (cs := #[.bool t469, .slice Ao33 t470.length co33, .int .i64 0]) ?_ 2 _ rfl; (with_reducible repeat (first | refine blk_drewN ?_ _ | refine blk_drew ?_ | refine blk_alloc ?_ _)); refine blk_put (cs := #[.bool t469, .slice none 0 0, .int .i64 0]) ?_ 1 _ rfl; (with_reducible repeat (first | refine blk_drewN ?_ _ | refine blk_drew ?_ | refine blk_alloc ?_ _)); refine blk_put (cs := #[.bool false, .slice none 0 0, .int .i64 0]) ?_ 0 _ rfl; (with_reducible repeat (first | refine blk_drewN ?_ _ | refine blk_drew ?_ | refine blk_alloc ?_ _)); exact BK475.out⟩
    have n7_ : Aside0 (Below w.heap.size w (((w28.setCell ⟨gb475, 0, none⟩ (.bool t469)).setCell ⟨gb475, 1, none⟩ (.slice Ao33 t470.length co33)).setCell ⟨gb475, 2, none⟩ (.int .i64 t473))) := ⟨by repeat (first | (with_reducible first | exact HB.out | apply below_alloc | apply pw_below_drewN | apply below_drew1 | refine below_set ?_ GE453.out | refine below_set ?_ GE461.out | refine below_set ?_ GE468.out | refine below_set ?_ GE475.out) | exact HB.out)⟩
    (try clear HO458)
    (try clear HO465)
    (try clear HO472)
    (try clear BK453)
    (try clear BK461)
    (try clear BK468)
    (try clear BK475)
    (try clear HB)
    generalize (((w28.setCell ⟨gb475, 0, none⟩ (.bool t469)).setCell ⟨gb475, 1, none⟩ (.slice Ao33 t470.length co33)).setCell ⟨gb475, 2, none⟩ (.int .i64 t473)) = w34 at n0_ n1_ n2_ n3_ n4_ n5_ n6_ n7_ ⊢
    have HO458 := n0_
    have HO465 := n1_
    have HO472 := n2_
    have BK453 := n3_
    have BK461 := n4_
    have BK468 := n5_
    have BK475 := n6_
    have HB := n7_
    clear n0_ n1_ n2_ n3_ n4_ n5_ n6_ n7_
    replace HO458 := Aside0.mk (Kd.R_drew HO458.out)
    replace HO465 := Aside0.mk (Kd.R_drew HO465.out)
    replace HO472 := Aside0.mk (Kd.R_drew HO472.out)
    replace BK453 := Aside0.mk (blk_drew BK453.out)
    replace BK461 := Aside0.mk (blk_drew BK461.out)
    replace BK468 := Aside0.mk (blk_drew BK468.out)
    replace BK475 := Aside0.mk (blk_drew BK475.out)
    replace HB := Aside0.mk (below_drew1 HB.out)
    refine start_ (n := 14) (S := fun w' => w'.cell? ⟨gb453, 0, none⟩ = some (.bool a0_0) ∧ w'.cell? ⟨gb453, 1, none⟩ = some (.slice A0_1 l0_1.length c0_1) ∧ w'.cell? ⟨gb453, 2, none⟩ = some (.int .i64 a0_2)) (ds := []) #[false, false, false, false, false, false, false, false, false, false, false, false, false, false] (by kernel_rfl) rfl rfl ⟨(blk_cell BK453.out 0).trans rfl, (blk_cell BK453.out 1).trans rfl, (blk_cell BK453.out 2).trans rfl⟩ (fun hHeld => ?_); refine with_tabW vernierlaw04_DyadicPlain.tab6 vernierlaw04_DyadicPlain.bits6 (fun HT_ HW_ => ?_)
    generalize w34.drew = w35 at HO458 HO465 HO472 BK453 BK461 BK468 BK475 HB hHeld ⊢
    refine pure_ (i := 0) (N := some 37) (v := ?_) (a' := ?_) #[true, false, false, false, false, false, false, false, false, false, false, false, false, false] rfl rfl (any_of HT_.out (by kernel_rfl)) (fun _ _ _ h => h) (Or.inl ⟨by rfl, ?_⟩) ?_ ?_
    rotate_left
    · intro w'
      go_simp
      with_reducible rfl
    rotate_left
    · simp only [Act.put, List.setIfInBounds_toArray, List.set_cons_zero, List.set_cons_succ, i64_w, i32_w]
      rfl
    refine pure_ (i := 2) (N := some 39) (v := ?_) (a' := ?_) #[true, false, true, false, false, false, false, false, false, false, false, false, false, false] rfl rfl (any_of HT_.out (by kernel_rfl)) (fun _ _ _ h => h) (Or.inl ⟨by rfl, ?_⟩) ?_ ?_
    rotate_left
    · intro w'
      go_simp
      with_reducible rfl
    rotate_left
    · simp only [Act.put, List.setIfInBounds_toArray, List.set_cons_zero, List.set_cons_succ, i64_w, i32_w]
      rfl
    refine pure_ (i := 5) (N := some 42) (v := ?_) (a' := ?_) #[true, false, true, false, false, true, false, false, false, false, false, false, false, false] rfl rfl (any_of HT_.out (by kernel_rfl)) (fun _ _ _ h => h) (Or.inl ⟨by rfl, ?_⟩) ?_ ?_
    rotate_left
    · intro w'
      go_simp
      with_reducible rfl
    rotate_left
    · simp only [Act.put, List.setIfInBounds_toArray, List.set_cons_zero, List.set_cons_succ, i64_w, i32_w]
      rfl
    refine take_ (i := 1) (N := some 38) (v := ?_) (a' := ?_) #[true, true, true, false, false, true, false, false, false, false, false, false, false, false] rfl rfl (take_ofW HT_.out HW_.out (by kernel_rfl)) (fun _ _ _ h => h) (Or.inl ⟨by rfl, ?_⟩) hHeld ?_ ?_
    rotate_left
    · rintro w' ⟨s0, s1, s2⟩
      go_simp
      with_reducible rfl
    rotate_left
    · simp only [Act.put, List.setIfInBounds_toArray, List.set_cons_zero, List.set_cons_succ, i64_w, i32_w]
      rfl
    refine take_ (i := 3) (N := some 40) (v := ?_) (a' := ?_) #[true, true, true, true, false, true, false, false, false, false, false, false, false, false] rfl rfl (take_ofW HT_.out HW_.out (by kernel_rfl)) (fun _ _ _ h => h) (Or.inl ⟨by rfl, ?_⟩) hHeld ?_ ?_
    rotate_left
    · rintro w' ⟨s0, s1, s2⟩
      go_simp
      with_reducible rfl
    rotate_left
    · simp only [Act.put, List.setIfInBounds_toArray, List.set_cons_zero, List.set_cons_succ, i64_w, i32_w]
      rfl
    refine take_ (i := 6) (N := some 43) (v := ?_) (a' := ?_) #[true, true, true, true, false, true, true, false, false, false, false, false, false, false] rfl rfl (take_ofW HT_.out HW_.out (by kernel_rfl)) (fun _ _ _ h => h) (Or.inl ⟨by rfl, ?_⟩) hHeld ?_ ?_
    rotate_left
    · rintro w' ⟨s0, s1, s2⟩
      go_simp
      with_reducible rfl
    rotate_left
    · simp only [Act.put, List.setIfInBounds_toArray, List.set_cons_zero, List.set_cons_succ, i64_w, i32_w]
      rfl
    refine join_ (σ := Value × Value × Nat) 2 #[true, true, true, true, true, true, true, true, true, true, true, true, false, false] (fun s_ => [(41, s_.1), (44, .tuple #[.agg #[.bool t479, s_.2.1, .int .i64 t483], .bool t484]), (13, .pointer (some ⟨s_.2.2, 0, none⟩)), (36, .tuple #[.agg #[.bool t479, s_.2.1, .int .i64 t483], .bool t484]), (45, .agg #[.bool t479, s_.2.1, .int .i64 t483]), (46, .bool t484)]) (fun s_ w' => (w'.cell? ⟨gb453, 0, none⟩ = some (.bool a0_0) ∧ w'.cell? ⟨gb453, 1, none⟩ = some (.slice A0_1 l0_1.length c0_1) ∧ w'.cell? ⟨gb453, 2, none⟩ = some (.int .i64 a0_2)) ∧ (Kd.R (Kd.int .u64) 34 w' w.heap.size (fun k_ => some k_ ≠ (.slice Ao26 t463.length co26 : Value).ownBlock ∧ some k_ ≠ (.slice Ao33 t470.length co33 : Value).ownBlock ∧ some k_ ≠ (s_.2.1 : Value).ownBlock) (.slice Ao19 t456.length co19) t456) ∧ (Kd.R (Kd.int .u64) 34 w' w.heap.size (fun k_ => some k_ ≠ (.slice Ao19 t456.length co19 : Value).ownBlock ∧ some k_ ≠ (.slice Ao33 t470.length co33 : Value).ownBlock ∧ some k_ ≠ (s_.2.1 : Value).ownBlock) (.slice Ao26 t463.length co26) t463) ∧ (Kd.R (Kd.int .u64) 34 w' w.heap.size (fun k_ => some k_ ≠ (.slice Ao19 t456.length co19 : Value).ownBlock ∧ some k_ ≠ (.slice Ao26 t463.length co26 : Value).ownBlock ∧ some k_ ≠ (s_.2.1 : Value).ownBlock) (.slice Ao33 t470.length co33) t470) ∧ (Kd.R (Kd.int .i64) 3 w' w.heap.size (fun _ => True) s_.1 t476) ∧ (Kd.R (Kd.int .u64) 34 w' w.heap.size (fun k_ => some k_ ≠ (.slice Ao19 t456.length co19 : Value).ownBlock ∧ some k_ ≠ (.slice Ao26 t463.length co26 : Value).ownBlock ∧ some k_ ≠ (.slice Ao33 t470.length co33 : Value).ownBlock) s_.2.1 t480) ∧ (w'.heap[gb453]? = some (.cells #[.bool a0_0, .slice A0_1 l0_1.length c0_1, .int .i64 a0_2] 36 (0, 0))) ∧ (w'.heap[gb461]? = some (.cells #[.bool t455, .slice Ao19 t456.length co19, .int .i64 t459] 36 (0, 0))) ∧ (w'.heap[gb468]? = some (.cells #[.bool t462, .slice Ao26 t463.length co26, .int .i64 t466] 36 (0, 0))) ∧ (w'.heap[gb475]? = some (.cells #[.bool t469, .slice Ao33 t470.length co33, .int .i64 t473] 36 (0, 0))) ∧ (w'.heap[s_.2.2]? = some (.cells #[.bool false, .slice none 0 0, .int .i64 0] 36 (0, 0))) ∧ (w.heap.size ≤ s_.2.2) ∧ (w.heap.size ≤ s_.2.2) ∧ (gb453 ≠ s_.2.2) ∧ (s_.2.2 ≠ gb453) ∧ (gb461 ≠ s_.2.2) ∧ (s_.2.2 ≠ gb461) ∧ (gb468 ≠ s_.2.2) ∧ (s_.2.2 ≠ gb468) ∧ (gb475 ≠ s_.2.2) ∧ (s_.2.2 ≠ gb475) ∧ (Below w.heap.size w w')) ?_ ?_
    rotate_left
    · intro hCont
      refine two_ (i := 4) (j := 11) (Ni := some 41) (Nj := some 13) #[true, true, true, true, true, true, true, false, false, false, false, false, false, false] #[true, true, true, true, false, true, true, false, false, false, false, true, false, false] rfl rfl rfl rfl (two_of HT_.out (by kernel_rfl)) (by decide) (by decide) (fun K hK => ?_) (fun K hK => ?_)
      · skip
        refine goes_ Tryd.func29 (by kernel_rfl) rfl #[.slice A0_1 l0_1.length c0_1] (by rfl) rfl rfl (by (try simp only [List.map_toArray, List.map_cons, List.map_nil]); first | done | rfl | (simp only [List.length_drop, List.length_take]; rfl)) ?_
        with_reducible refine (vernierref01_Of.calls k _ _ l0_1 t476 _ ?side1 ?side2 A9.out).mono ?_
        (case side1 => exact cl_ (Kd.C_below HR0_1.out HB.out))
        (case side2 => exact HC0_1.out)
        rintro e w36 ⟨v477, rfl, ho0, hb⟩
        refine ⟨_, rfl, ?_⟩
        replace HO458 := Aside0.mk (Kd.R_below (rl_ HO458) hb)
        replace HO465 := Aside0.mk (Kd.R_below (rl_ HO465) hb)
        replace HO472 := Aside0.mk (Kd.R_below (rl_ HO472) hb)
        have HO478 := Aside0.mk (Kd.R_lower ho0 (below_size (bw_ HB)))
        replace BK453 := Aside0.mk (blk_below (bl_ BK453) hb)
        replace BK461 := Aside0.mk (blk_below (bl_ BK461) hb)
        replace BK468 := Aside0.mk (blk_below (bl_ BK468) hb)
        replace BK475 := Aside0.mk (blk_below (bl_ BK475) hb)
        replace HB := Aside0.mk (below_step (bw_ HB) hb)
        (try clear hb)
        (try clear hb2)
        (try clear hk)
        (try clear hi)
        (try clear ho0)
        obtain ⟨Ao37, co37, eo37⟩ := Kd.R_slice HO478.out
        (first | subst eo37 | (injection eo37 with f1_ f2_ f3_; have f4_ := f1_.symm; have f5_ := f3_.symm; clear f1_ f2_ f3_; subst f4_; subst f5_))
        refine hK.out _ _ ⟨(blk_cell BK453.out 0).trans rfl, (blk_cell BK453.out 1).trans rfl, (blk_cell BK453.out 2).trans rfl⟩ (fun hHeld => ?_)
        clear hK K
        refine norm_ (a' := ?_) ?_ ?_
        rotate_left
        · show Act.put _ (some 41) _ = _
          simp only [Act.put, List.setIfInBounds_toArray, List.set_cons_zero, List.set_cons_succ, i64_w, i32_w]
          rfl
        refine two_ (i := 7) (j := 11) (Ni := some 44) (Nj := some 13) #[true, true, true, true, true, true, true, true, false, false, false, false, false, false] #[true, true, true, true, true, true, true, false, false, false, false, true, false, false] rfl rfl rfl rfl (two_of HT_.out (by kernel_rfl)) (by decide) (by decide) (fun K hK => ?_) (fun K hK => ?_)
        · skip
          refine goes_ Tryd.func28 (by kernel_rfl) rfl #[.bool a0_0, .slice Ao37 t476.length co37, .int .i64 a0_2] (by rfl) rfl rfl (by (try simp only [List.map_toArray, List.map_cons, List.map_nil]); first | done | rfl | (simp only [List.length_drop, List.length_take]; rfl)) ?_
          with_reducible refine (vernierlaw04_told.calls k a0_0 (fun k_ => some k_ = (.slice Ao37 t476.length co37 : Value).ownBlock) _ _ t476 a0_2 t479 t480 t483 t484 _ ?side1 A10.out).mono ?_
          (case side1 => exact Kd.R_V (Kd.R_tight rfl (Kd.R_types (Kd.R_types (Kd.R_types (Kd.R_types (Kd.R_apart' (Kd.R_apart' (Kd.R_apart' (HO478.out) (Kd.R_typed HO458.out) (by decide)) (Kd.R_typed HO465.out) (by decide)) (Kd.R_typed HO472.out) (by decide)) BK453.out (by decide)) BK461.out (by decide)) BK468.out (by decide)) BK475.out (by decide))))
          rintro e w38 ⟨v481, rfl, ho0, hb⟩
          refine ⟨_, rfl, ?_⟩
          replace HO478 := Aside0.mk (Kd.R_below (rl_ HO478) hb)
          have HO482 := Aside0.mk (Kd.R_lower (Kd.R_new' (Kd.R_new' (Kd.R_new' (Kd.R_mono (ok' := fun k_ => True) ho0 (fun _ hk_ => trivial)) (Kd.R_lt (rl_ HO458))) (Kd.R_lt (rl_ HO465))) (Kd.R_lt (rl_ HO472))) (below_size (bw_ HB)))
          replace HO458 := Aside0.mk (Kd.R_elder' (rl_ HO458) (Kd.R_base ho0) hb)
          replace HO465 := Aside0.mk (Kd.R_elder' (rl_ HO465) (Kd.R_base ho0) hb)
          replace HO472 := Aside0.mk (Kd.R_elder' (rl_ HO472) (Kd.R_base ho0) hb)
          replace BK453 := Aside0.mk (blk_below (bl_ BK453) hb)
          replace BK461 := Aside0.mk (blk_below (bl_ BK461) hb)
          replace BK468 := Aside0.mk (blk_below (bl_ BK468) hb)
          replace BK475 := Aside0.mk (blk_below (bl_ BK475) hb)
          replace HB := Aside0.mk (below_step (bw_ HB) hb)
          (try clear hb)
          (try clear hb2)
          (try clear hk)
          (try clear hi)
          (try clear ho0)
          refine hK.out _ _ ⟨(blk_cell BK453.out 0).trans rfl, (blk_cell BK453.out 1).trans rfl, (blk_cell BK453.out 2).trans rfl⟩ (fun hHeld => ?_)
          clear hK K
          refine norm_ (a' := ?_) ?_ ?_
          rotate_left
          · show Act.put _ (some 44) _ = _
            simp only [Act.put, List.setIfInBounds_toArray, List.set_cons_zero, List.set_cons_succ, i64_w, i32_w]
            rfl
          refine pure_ (i := 8) (N := some 36) (v := ?_) (a' := ?_) #[true, true, true, true, true, true, true, true, true, false, false, false, false, false] rfl rfl (any_of HT_.out (by kernel_rfl)) (fun _ _ _ h => h) (Or.inl ⟨by rfl, ?_⟩) ?_ ?_
          rotate_left
          · intro w'
            go_simp
            with_reducible rfl
          rotate_left
          · simp only [Act.put, List.setIfInBounds_toArray, List.set_cons_zero, List.set_cons_succ, i64_w, i32_w]
            rfl
          refine pure_ (i := 9) (N := some 45) (v := ?_) (a' := ?_) #[true, true, true, true, true, true, true, true, true, true, false, false, false, false] rfl rfl (any_of HT_.out (by kernel_rfl)) (fun _ _ _ h => h) (Or.inl ⟨by rfl, ?_⟩) ?_ ?_
          rotate_left
          · intro w'
            go_simp
            with_reducible rfl
          rotate_left
          · simp only [Act.put, List.setIfInBounds_toArray, List.set_cons_zero, List.set_cons_succ, i64_w, i32_w]
            rfl
          refine pure_ (i := 10) (N := some 46) (v := ?_) (a' := ?_) #[true, true, true, true, true, true, true, true, true, true, true, false, false, false] rfl rfl (any_of HT_.out (by kernel_rfl)) (fun _ _ _ h => h) (Or.inl ⟨by rfl, ?_⟩) ?_ ?_
          rotate_left
          · intro w'
            go_simp
            with_reducible rfl
          rotate_left
          · simp only [Act.put, List.setIfInBounds_toArray, List.set_cons_zero, List.set_cons_succ, i64_w, i32_w]
            rfl
          refine one_ (i := 11) (N := some 13) #[true, true, true, true, true, true, true, true, true, true, true, true, false, false] rfl rfl (one_of HT_.out (by kernel_rfl)) (by decide) (fun K hK => ?_)
          refine box_step ?hg (N := 13) ?hd (cs := #[.bool false, .slice none 0 0, .int .i64 0]) (t := 36) ?hr ?_; (case hd => rfl); (case hg => rfl); (case hr => first | (go_simp; done) | (go_simp; rfl))
          intro gb485 hg w39 hbox hb
          replace HO458 := Aside0.mk (Kd.R_below (rl_ HO458) hb)
          replace HO465 := Aside0.mk (Kd.R_below (rl_ HO465) hb)
          replace HO472 := Aside0.mk (Kd.R_below (rl_ HO472) hb)
          replace HO478 := Aside0.mk (Kd.R_below (rl_ HO478) hb)
          replace HO482 := Aside0.mk (Kd.R_below (rl_ HO482) hb)
          have BK485 := Aside0.mk (hbox)
          have GW485 := Aside0.mk ((by rw [hg]; exact (below_size (bw_ HB)) : w.heap.size ≤ gb485))
          have GE485 := Aside0.mk ((by rw [hg]; exact (below_size (bw_ HB)) : w.heap.size ≤ gb485))
          replace HB := Aside0.mk (below_step (bw_ HB) hb)
          have NB453_485 := Aside0.mk ((by rw [hg]; exact Nat.ne_of_lt (blk_lt (bl_ BK453)) : gb453 ≠ gb485))
          have NB485_453 := Aside0.mk ((by rw [hg]; exact Nat.ne_of_gt (blk_lt (bl_ BK453)) : gb485 ≠ gb453))
          replace BK453 := Aside0.mk (blk_below (bl_ BK453) hb)
          have NB461_485 := Aside0.mk ((by rw [hg]; exact Nat.ne_of_lt (blk_lt (bl_ BK461)) : gb461 ≠ gb485))
          have NB485_461 := Aside0.mk ((by rw [hg]; exact Nat.ne_of_gt (blk_lt (bl_ BK461)) : gb485 ≠ gb461))
          replace BK461 := Aside0.mk (blk_below (bl_ BK461) hb)
          have NB468_485 := Aside0.mk ((by rw [hg]; exact Nat.ne_of_lt (blk_lt (bl_ BK468)) : gb468 ≠ gb485))
          have NB485_468 := Aside0.mk ((by rw [hg]; exact Nat.ne_of_gt (blk_lt (bl_ BK468)) : gb485 ≠ gb468))
          replace BK468 := Aside0.mk (blk_below (bl_ BK468) hb)
          have NB475_485 := Aside0.mk ((by rw [hg]; exact Nat.ne_of_lt (blk_lt (bl_ BK475)) : gb475 ≠ gb485))
          have NB485_475 := Aside0.mk ((by rw [hg]; exact Nat.ne_of_gt (blk_lt (bl_ BK475)) : gb485 ≠ gb475))
          replace BK475 := Aside0.mk (blk_below (bl_ BK475) hb)
          clear hb hbox hg
          refine hK.out _ _ ⟨(blk_cell BK453.out 0).trans rfl, (blk_cell BK453.out 1).trans rfl, (blk_cell BK453.out 2).trans rfl⟩ (fun hHeld => ?_)
          clear hK K
          refine norm_ (a' := ?_) ?_ ?_
          rotate_left
          · show Act.put _ (some 13) _ = _
            simp only [Act.put, List.setIfInBounds_toArray, List.set_cons_zero, List.set_cons_succ, i64_w, i32_w]
            rfl
          exact norm_ (by simp only [putAll, Act.put, List.setIfInBounds_toArray, List.set_cons_zero, List.set_cons_succ]) (hCont (.slice Ao37 t476.length co37, v481, gb485) _ ⟨hHeld, (by (with_reducible repeat (first | apply Kd.R_alloc | apply Kd.R_drewN | apply Kd.R_drew)); exact Kd.R_mono HO458.out (fun _ hk => ⟨hk.1.1, ⟨hk.1.2, hk.2⟩⟩)), (by (with_reducible repeat (first | apply Kd.R_alloc | apply Kd.R_drewN | apply Kd.R_drew)); exact Kd.R_mono HO465.out (fun _ hk => ⟨hk.1.1, ⟨hk.1.2, hk.2⟩⟩)), (by (with_reducible repeat (first | apply Kd.R_alloc | apply Kd.R_drewN | apply Kd.R_drew)); exact Kd.R_mono HO472.out (fun _ hk => ⟨hk.1.1, ⟨hk.1.2, hk.2⟩⟩)), (rl_ HO478), (by (with_reducible repeat (first | apply Kd.R_alloc | apply Kd.R_drewN | apply Kd.R_drew)); exact Kd.R_mono HO482.out (fun _ hk => ⟨hk.1.1.2, ⟨hk.1.2, hk.2⟩⟩)), (bl_ BK453), (bl_ BK461), (bl_ BK468), (bl_ BK475), (bl_ BK485), GW485.out, GE485.out, NB453_485.out, NB485_453.out, NB461_485.out, NB485_461.out, NB468_485.out, NB485_468.out, NB475_485.out, NB485_475.out, (bw_ HB)⟩)
        · skip
          refine box_step ?hg (N := 13) ?hd (cs := #[.bool false, .slice none 0 0, .int .i64 0]) (t := 36) ?hr ?_; (case hd => rfl); (case hg => rfl); (case hr => first | (go_simp; done) | (go_simp; rfl))
          intro gb485 hg w37 hbox hb
          replace HO458 := Aside0.mk (Kd.R_below (rl_ HO458) hb)
          replace HO465 := Aside0.mk (Kd.R_below (rl_ HO465) hb)
          replace HO472 := Aside0.mk (Kd.R_below (rl_ HO472) hb)
          replace HO478 := Aside0.mk (Kd.R_below (rl_ HO478) hb)
          have BK485 := Aside0.mk (hbox)
          have GW485 := Aside0.mk ((by rw [hg]; exact (below_size (bw_ HB)) : w.heap.size ≤ gb485))
          have GE485 := Aside0.mk ((by rw [hg]; exact (below_size (bw_ HB)) : w.heap.size ≤ gb485))
          replace HB := Aside0.mk (below_step (bw_ HB) hb)
          have NB453_485 := Aside0.mk ((by rw [hg]; exact Nat.ne_of_lt (blk_lt (bl_ BK453)) : gb453 ≠ gb485))
          have NB485_453 := Aside0.mk ((by rw [hg]; exact Nat.ne_of_gt (blk_lt (bl_ BK453)) : gb485 ≠ gb453))
          replace BK453 := Aside0.mk (blk_below (bl_ BK453) hb)
          have NB461_485 := Aside0.mk ((by rw [hg]; exact Nat.ne_of_lt (blk_lt (bl_ BK461)) : gb461 ≠ gb485))
          have NB485_461 := Aside0.mk ((by rw [hg]; exact Nat.ne_of_gt (blk_lt (bl_ BK461)) : gb485 ≠ gb461))
          replace BK461 := Aside0.mk (blk_below (bl_ BK461) hb)
          have NB468_485 := Aside0.mk ((by rw [hg]; exact Nat.ne_of_lt (blk_lt (bl_ BK468)) : gb468 ≠ gb485))
          have NB485_468 := Aside0.mk ((by rw [hg]; exact Nat.ne_of_gt (blk_lt (bl_ BK468)) : gb485 ≠ gb468))
          replace BK468 := Aside0.mk (blk_below (bl_ BK468) hb)
          have NB475_485 := Aside0.mk ((by rw [hg]; exact Nat.ne_of_lt (blk_lt (bl_ BK475)) : gb475 ≠ gb485))
          have NB485_475 := Aside0.mk ((by rw [hg]; exact Nat.ne_of_gt (blk_lt (bl_ BK475)) : gb485 ≠ gb475))
          replace BK475 := Aside0.mk (blk_below (bl_ BK475) hb)
          clear hb hbox hg
          obtain ⟨Ao38, co38, eo38⟩ := Kd.R_slice HO478.out
          (first | subst eo38 | (injection eo38 with f1_ f2_ f3_; have f4_ := f1_.symm; have f5_ := f3_.symm; clear f1_ f2_ f3_; subst f4_; subst f5_))
          refine hK.out _ _ ⟨(blk_cell BK453.out 0).trans rfl, (blk_cell BK453.out 1).trans rfl, (blk_cell BK453.out 2).trans rfl⟩ (fun hHeld => ?_)
          clear hK K
          refine norm_ (a' := ?_) ?_ ?_
          rotate_left
          · show Act.put _ (some 13) _ = _
            simp only [Act.put, List.setIfInBounds_toArray, List.set_cons_zero, List.set_cons_succ, i64_w, i32_w]
            rfl
          refine one_ (i := 7) (N := some 44) #[true, true, true, true, true, true, true, true, false, false, false, true, false, false] rfl rfl (one_of HT_.out (by kernel_rfl)) (by decide) (fun K hK => ?_)
          refine goes_ Tryd.func28 (by kernel_rfl) rfl #[.bool a0_0, .slice Ao38 t476.length co38, .int .i64 a0_2] (by rfl) rfl rfl (by (try simp only [List.map_toArray, List.map_cons, List.map_nil]); first | done | rfl | (simp only [List.length_drop, List.length_take]; rfl)) ?_
          with_reducible refine (vernierlaw04_told.calls k a0_0 (fun k_ => some k_ = (.slice Ao38 t476.length co38 : Value).ownBlock) _ _ t476 a0_2 t479 t480 t483 t484 _ ?side1 A10.out).mono ?_
          (case side1 => exact Kd.R_V (Kd.R_tight rfl (Kd.R_types (Kd.R_types (Kd.R_types (Kd.R_types (Kd.R_types (Kd.R_apart' (Kd.R_apart' (Kd.R_apart' (HO478.out) (Kd.R_typed HO458.out) (by decide)) (Kd.R_typed HO465.out) (by decide)) (Kd.R_typed HO472.out) (by decide)) BK453.out (by decide)) BK461.out (by decide)) BK468.out (by decide)) BK475.out (by decide)) BK485.out (by decide))))
          rintro e w39 ⟨v481, rfl, ho0, hb⟩
          refine ⟨_, rfl, ?_⟩
          replace HO478 := Aside0.mk (Kd.R_below (rl_ HO478) hb)
          have HO482 := Aside0.mk (Kd.R_lower (Kd.R_new' (Kd.R_new' (Kd.R_new' (Kd.R_mono (ok' := fun k_ => True) ho0 (fun _ hk_ => trivial)) (Kd.R_lt (rl_ HO458))) (Kd.R_lt (rl_ HO465))) (Kd.R_lt (rl_ HO472))) (below_size (bw_ HB)))
          replace HO458 := Aside0.mk (Kd.R_elder' (rl_ HO458) (Kd.R_base ho0) hb)
          replace HO465 := Aside0.mk (Kd.R_elder' (rl_ HO465) (Kd.R_base ho0) hb)
          replace HO472 := Aside0.mk (Kd.R_elder' (rl_ HO472) (Kd.R_base ho0) hb)
          replace BK453 := Aside0.mk (blk_below (bl_ BK453) hb)
          replace BK461 := Aside0.mk (blk_below (bl_ BK461) hb)
          replace BK468 := Aside0.mk (blk_below (bl_ BK468) hb)
          replace BK475 := Aside0.mk (blk_below (bl_ BK475) hb)
          replace BK485 := Aside0.mk (blk_below (bl_ BK485) hb)
          replace HB := Aside0.mk (below_step (bw_ HB) hb)
          (try clear hb)
          (try clear hb2)
          (try clear hk)
          (try clear hi)
          (try clear ho0)
          refine hK.out _ _ ⟨(blk_cell BK453.out 0).trans rfl, (blk_cell BK453.out 1).trans rfl, (blk_cell BK453.out 2).trans rfl⟩ (fun hHeld => ?_)
          clear hK K
          refine norm_ (a' := ?_) ?_ ?_
          rotate_left
          · show Act.put _ (some 44) _ = _
            simp only [Act.put, List.setIfInBounds_toArray, List.set_cons_zero, List.set_cons_succ, i64_w, i32_w]
            rfl
          refine pure_ (i := 8) (N := some 36) (v := ?_) (a' := ?_) #[true, true, true, true, true, true, true, true, true, false, false, true, false, false] rfl rfl (any_of HT_.out (by kernel_rfl)) (fun _ _ _ h => h) (Or.inl ⟨by rfl, ?_⟩) ?_ ?_
          rotate_left
          · intro w'
            go_simp
            with_reducible rfl
          rotate_left
          · simp only [Act.put, List.setIfInBounds_toArray, List.set_cons_zero, List.set_cons_succ, i64_w, i32_w]
            rfl
          refine pure_ (i := 9) (N := some 45) (v := ?_) (a' := ?_) #[true, true, true, true, true, true, true, true, true, true, false, true, false, false] rfl rfl (any_of HT_.out (by kernel_rfl)) (fun _ _ _ h => h) (Or.inl ⟨by rfl, ?_⟩) ?_ ?_
          rotate_left
          · intro w'
            go_simp
            with_reducible rfl
          rotate_left
          · simp only [Act.put, List.setIfInBounds_toArray, List.set_cons_zero, List.set_cons_succ, i64_w, i32_w]
            rfl
          refine pure_ (i := 10) (N := some 46) (v := ?_) (a' := ?_) #[true, true, true, true, true, true, true, true, true, true, true, true, false, false] rfl rfl (any_of HT_.out (by kernel_rfl)) (fun _ _ _ h => h) (Or.inl ⟨by rfl, ?_⟩) ?_ ?_
          rotate_left
          · intro w'
            go_simp
            with_reducible rfl
          rotate_left
          · simp only [Act.put, List.setIfInBounds_toArray, List.set_cons_zero, List.set_cons_succ, i64_w, i32_w]
            rfl
          exact norm_ (by simp only [putAll, Act.put, List.setIfInBounds_toArray, List.set_cons_zero, List.set_cons_succ]) (hCont (.slice Ao38 t476.length co38, v481, gb485) _ ⟨hHeld, (by (with_reducible repeat (first | apply Kd.R_alloc | apply Kd.R_drewN | apply Kd.R_drew)); exact Kd.R_mono HO458.out (fun _ hk => ⟨hk.1.1, ⟨hk.1.2, hk.2⟩⟩)), (by (with_reducible repeat (first | apply Kd.R_alloc | apply Kd.R_drewN | apply Kd.R_drew)); exact Kd.R_mono HO465.out (fun _ hk => ⟨hk.1.1, ⟨hk.1.2, hk.2⟩⟩)), (by (with_reducible repeat (first | apply Kd.R_alloc | apply Kd.R_drewN | apply Kd.R_drew)); exact Kd.R_mono HO472.out (fun _ hk => ⟨hk.1.1, ⟨hk.1.2, hk.2⟩⟩)), (rl_ HO478), (by (with_reducible repeat (first | apply Kd.R_alloc | apply Kd.R_drewN | apply Kd.R_drew)); exact Kd.R_mono HO482.out (fun _ hk => ⟨hk.1.1.2, ⟨hk.1.2, hk.2⟩⟩)), (bl_ BK453), (bl_ BK461), (bl_ BK468), (bl_ BK475), (bl_ BK485), GW485.out, GE485.out, NB453_485.out, NB485_453.out, NB461_485.out, NB485_461.out, NB468_485.out, NB485_468.out, NB475_485.out, NB485_475.out, (bw_ HB)⟩)
      · skip
        refine box_step ?hg (N := 13) ?hd (cs := #[.bool false, .slice none 0 0, .int .i64 0]) (t := 36) ?hr ?_; (case hd => rfl); (case hg => rfl); (case hr => first | (go_simp; done) | (go_simp; rfl))
        intro gb485 hg w36 hbox hb
        replace HO458 := Aside0.mk (Kd.R_below (rl_ HO458) hb)
        replace HO465 := Aside0.mk (Kd.R_below (rl_ HO465) hb)
        replace HO472 := Aside0.mk (Kd.R_below (rl_ HO472) hb)
        have BK485 := Aside0.mk (hbox)
        have GW485 := Aside0.mk ((by rw [hg]; exact (below_size (bw_ HB)) : w.heap.size ≤ gb485))
        have GE485 := Aside0.mk ((by rw [hg]; exact (below_size (bw_ HB)) : w.heap.size ≤ gb485))
        replace HB := Aside0.mk (below_step (bw_ HB) hb)
        have NB453_485 := Aside0.mk ((by rw [hg]; exact Nat.ne_of_lt (blk_lt (bl_ BK453)) : gb453 ≠ gb485))
        have NB485_453 := Aside0.mk ((by rw [hg]; exact Nat.ne_of_gt (blk_lt (bl_ BK453)) : gb485 ≠ gb453))
        replace BK453 := Aside0.mk (blk_below (bl_ BK453) hb)
        have NB461_485 := Aside0.mk ((by rw [hg]; exact Nat.ne_of_lt (blk_lt (bl_ BK461)) : gb461 ≠ gb485))
        have NB485_461 := Aside0.mk ((by rw [hg]; exact Nat.ne_of_gt (blk_lt (bl_ BK461)) : gb485 ≠ gb461))
        replace BK461 := Aside0.mk (blk_below (bl_ BK461) hb)
        have NB468_485 := Aside0.mk ((by rw [hg]; exact Nat.ne_of_lt (blk_lt (bl_ BK468)) : gb468 ≠ gb485))
        have NB485_468 := Aside0.mk ((by rw [hg]; exact Nat.ne_of_gt (blk_lt (bl_ BK468)) : gb485 ≠ gb468))
        replace BK468 := Aside0.mk (blk_below (bl_ BK468) hb)
        have NB475_485 := Aside0.mk ((by rw [hg]; exact Nat.ne_of_lt (blk_lt (bl_ BK475)) : gb475 ≠ gb485))
        have NB485_475 := Aside0.mk ((by rw [hg]; exact Nat.ne_of_gt (blk_lt (bl_ BK475)) : gb485 ≠ gb475))
        replace BK475 := Aside0.mk (blk_below (bl_ BK475) hb)
        clear hb hbox hg
        refine hK.out _ _ ⟨(blk_cell BK453.out 0).trans rfl, (blk_cell BK453.out 1).trans rfl, (blk_cell BK453.out 2).trans rfl⟩ (fun hHeld => ?_)
        clear hK K
        refine norm_ (a' := ?_) ?_ ?_
        rotate_left
        · show Act.put _ (some 13) _ = _
          simp only [Act.put, List.setIfInBounds_toArray, List.set_cons_zero, List.set_cons_succ, i64_w, i32_w]
          rfl
        refine one_ (i := 4) (N := some 41) #[true, true, true, true, true, true, true, false, false, false, false, true, false, false] rfl rfl (one_of HT_.out (by kernel_rfl)) (by decide) (fun K hK => ?_)
        refine goes_ Tryd.func29 (by kernel_rfl) rfl #[.slice A0_1 l0_1.length c0_1] (by rfl) rfl rfl (by (try simp only [List.map_toArray, List.map_cons, List.map_nil]); first | done | rfl | (simp only [List.length_drop, List.length_take]; rfl)) ?_
        with_reducible refine (vernierref01_Of.calls k _ _ l0_1 t476 _ ?side1 ?side2 A9.out).mono ?_
        (case side1 => exact cl_ (Kd.C_below HR0_1.out HB.out))
        (case side2 => exact HC0_1.out)
        rintro e w37 ⟨v477, rfl, ho0, hb⟩
        refine ⟨_, rfl, ?_⟩
        replace HO458 := Aside0.mk (Kd.R_below (rl_ HO458) hb)
        replace HO465 := Aside0.mk (Kd.R_below (rl_ HO465) hb)
        replace HO472 := Aside0.mk (Kd.R_below (rl_ HO472) hb)
        have HO478 := Aside0.mk (Kd.R_lower ho0 (below_size (bw_ HB)))
        replace BK453 := Aside0.mk (blk_below (bl_ BK453) hb)
        replace BK461 := Aside0.mk (blk_below (bl_ BK461) hb)
        replace BK468 := Aside0.mk (blk_below (bl_ BK468) hb)
        replace BK475 := Aside0.mk (blk_below (bl_ BK475) hb)
        replace BK485 := Aside0.mk (blk_below (bl_ BK485) hb)
        replace HB := Aside0.mk (below_step (bw_ HB) hb)
        (try clear hb)
        (try clear hb2)
        (try clear hk)
        (try clear hi)
        (try clear ho0)
        obtain ⟨Ao38, co38, eo38⟩ := Kd.R_slice HO478.out
        (first | subst eo38 | (injection eo38 with f1_ f2_ f3_; have f4_ := f1_.symm; have f5_ := f3_.symm; clear f1_ f2_ f3_; subst f4_; subst f5_))
        refine hK.out _ _ ⟨(blk_cell BK453.out 0).trans rfl, (blk_cell BK453.out 1).trans rfl, (blk_cell BK453.out 2).trans rfl⟩ (fun hHeld => ?_)
        clear hK K
        refine norm_ (a' := ?_) ?_ ?_
        rotate_left
        · show Act.put _ (some 41) _ = _
          simp only [Act.put, List.setIfInBounds_toArray, List.set_cons_zero, List.set_cons_succ, i64_w, i32_w]
          rfl
        refine one_ (i := 7) (N := some 44) #[true, true, true, true, true, true, true, true, false, false, false, true, false, false] rfl rfl (one_of HT_.out (by kernel_rfl)) (by decide) (fun K hK => ?_)
        refine goes_ Tryd.func28 (by kernel_rfl) rfl #[.bool a0_0, .slice Ao38 t476.length co38, .int .i64 a0_2] (by rfl) rfl rfl (by (try simp only [List.map_toArray, List.map_cons, List.map_nil]); first | done | rfl | (simp only [List.length_drop, List.length_take]; rfl)) ?_
        with_reducible refine (vernierlaw04_told.calls k a0_0 (fun k_ => some k_ = (.slice Ao38 t476.length co38 : Value).ownBlock) _ _ t476 a0_2 t479 t480 t483 t484 _ ?side1 A10.out).mono ?_
        (case side1 => exact Kd.R_V (Kd.R_tight rfl (Kd.R_types (Kd.R_types (Kd.R_types (Kd.R_types (Kd.R_types (Kd.R_apart' (Kd.R_apart' (Kd.R_apart' (HO478.out) (Kd.R_typed HO458.out) (by decide)) (Kd.R_typed HO465.out) (by decide)) (Kd.R_typed HO472.out) (by decide)) BK453.out (by decide)) BK461.out (by decide)) BK468.out (by decide)) BK475.out (by decide)) BK485.out (by decide))))
        rintro e w39 ⟨v481, rfl, ho0, hb⟩
        refine ⟨_, rfl, ?_⟩
        replace HO478 := Aside0.mk (Kd.R_below (rl_ HO478) hb)
        have HO482 := Aside0.mk (Kd.R_lower (Kd.R_new' (Kd.R_new' (Kd.R_new' (Kd.R_mono (ok' := fun k_ => True) ho0 (fun _ hk_ => trivial)) (Kd.R_lt (rl_ HO458))) (Kd.R_lt (rl_ HO465))) (Kd.R_lt (rl_ HO472))) (below_size (bw_ HB)))
        replace HO458 := Aside0.mk (Kd.R_elder' (rl_ HO458) (Kd.R_base ho0) hb)
        replace HO465 := Aside0.mk (Kd.R_elder' (rl_ HO465) (Kd.R_base ho0) hb)
        replace HO472 := Aside0.mk (Kd.R_elder' (rl_ HO472) (Kd.R_base ho0) hb)
        replace BK453 := Aside0.mk (blk_below (bl_ BK453) hb)
        replace BK461 := Aside0.mk (blk_below (bl_ BK461) hb)
        replace BK468 := Aside0.mk (blk_below (bl_ BK468) hb)
        replace BK475 := Aside0.mk (blk_below (bl_ BK475) hb)
        replace BK485 := Aside0.mk (blk_below (bl_ BK485) hb)
        replace HB := Aside0.mk (below_step (bw_ HB) hb)
        (try clear hb)
        (try clear hb2)
        (try clear hk)
        (try clear hi)
        (try clear ho0)
        refine hK.out _ _ ⟨(blk_cell BK453.out 0).trans rfl, (blk_cell BK453.out 1).trans rfl, (blk_cell BK453.out 2).trans rfl⟩ (fun hHeld => ?_)
        clear hK K
        refine norm_ (a' := ?_) ?_ ?_
        rotate_left
        · show Act.put _ (some 44) _ = _
          simp only [Act.put, List.setIfInBounds_toArray, List.set_cons_zero, List.set_cons_succ, i64_w, i32_w]
          rfl
        refine pure_ (i := 8) (N := some 36) (v := ?_) (a' := ?_) #[true, true, true, true, true, true, true, true, true, false, false, true, false, false] rfl rfl (any_of HT_.out (by kernel_rfl)) (fun _ _ _ h => h) (Or.inl ⟨by rfl, ?_⟩) ?_ ?_
        rotate_left
        · intro w'
          go_simp
          with_reducible rfl
        rotate_left
        · simp only [Act.put, List.setIfInBounds_toArray, List.set_cons_zero, List.set_cons_succ, i64_w, i32_w]
          rfl
        refine pure_ (i := 9) (N := some 45) (v := ?_) (a' := ?_) #[true, true, true, true, true, true, true, true, true, true, false, true, false, false] rfl rfl (any_of HT_.out (by kernel_rfl)) (fun _ _ _ h => h) (Or.inl ⟨by rfl, ?_⟩) ?_ ?_
        rotate_left
        · intro w'
          go_simp
          with_reducible rfl
        rotate_left
        · simp only [Act.put, List.setIfInBounds_toArray, List.set_cons_zero, List.set_cons_succ, i64_w, i32_w]
          rfl
        refine pure_ (i := 10) (N := some 46) (v := ?_) (a' := ?_) #[true, true, true, true, true, true, true, true, true, true, true, true, false, false] rfl rfl (any_of HT_.out (by kernel_rfl)) (fun _ _ _ h => h) (Or.inl ⟨by rfl, ?_⟩) ?_ ?_
        rotate_left
        · intro w'
          go_simp
          with_reducible rfl
        rotate_left
        · simp only [Act.put, List.setIfInBounds_toArray, List.set_cons_zero, List.set_cons_succ, i64_w, i32_w]
          rfl
        exact norm_ (by simp only [putAll, Act.put, List.setIfInBounds_toArray, List.set_cons_zero, List.set_cons_succ]) (hCont (.slice Ao38 t476.length co38, v481, gb485) _ ⟨hHeld, (by (with_reducible repeat (first | apply Kd.R_alloc | apply Kd.R_drewN | apply Kd.R_drew)); exact Kd.R_mono HO458.out (fun _ hk => ⟨hk.1.1, ⟨hk.1.2, hk.2⟩⟩)), (by (with_reducible repeat (first | apply Kd.R_alloc | apply Kd.R_drewN | apply Kd.R_drew)); exact Kd.R_mono HO465.out (fun _ hk => ⟨hk.1.1, ⟨hk.1.2, hk.2⟩⟩)), (by (with_reducible repeat (first | apply Kd.R_alloc | apply Kd.R_drewN | apply Kd.R_drew)); exact Kd.R_mono HO472.out (fun _ hk => ⟨hk.1.1, ⟨hk.1.2, hk.2⟩⟩)), (rl_ HO478), (by (with_reducible repeat (first | apply Kd.R_alloc | apply Kd.R_drewN | apply Kd.R_drew)); exact Kd.R_mono HO482.out (fun _ hk => ⟨hk.1.1.2, ⟨hk.1.2, hk.2⟩⟩)), (bl_ BK453), (bl_ BK461), (bl_ BK468), (bl_ BK475), (bl_ BK485), GW485.out, GE485.out, NB453_485.out, NB485_453.out, NB461_485.out, NB485_461.out, NB468_485.out, NB485_468.out, NB475_485.out, NB485_475.out, (bw_ HB)⟩)
    rintro ⟨v477, v481, gb485⟩ w40 ⟨hS_, h0_, h1_, h2_, h3_, h4_, h5_, h6_, h7_, h8_, h9_, h10_, h11_, h12_, h13_, h14_, h15_, h16_, h17_, h18_, h19_, h20_⟩
    have n0_ : Aside0 (Kd.R (Kd.int .u64) 34 w40 w.heap.size (fun k_ => some k_ ≠ (.slice Ao26 t463.length co26 : Value).ownBlock ∧ some k_ ≠ (.slice Ao33 t470.length co33 : Value).ownBlock ∧ some k_ ≠ (v481 : Value).ownBlock) (.slice Ao19 t456.length co19) t456) := ⟨h0_⟩
    have n1_ : Aside0 (Kd.R (Kd.int .u64) 34 w40 w.heap.size (fun k_ => some k_ ≠ (.slice Ao19 t456.length co19 : Value).ownBlock ∧ some k_ ≠ (.slice Ao33 t470.length co33 : Value).ownBlock ∧ some k_ ≠ (v481 : Value).ownBlock) (.slice Ao26 t463.length co26) t463) := ⟨h1_⟩
    have n2_ : Aside0 (Kd.R (Kd.int .u64) 34 w40 w.heap.size (fun k_ => some k_ ≠ (.slice Ao19 t456.length co19 : Value).ownBlock ∧ some k_ ≠ (.slice Ao26 t463.length co26 : Value).ownBlock ∧ some k_ ≠ (v481 : Value).ownBlock) (.slice Ao33 t470.length co33) t470) := ⟨h2_⟩
    have n3_ : Aside0 (Kd.R (Kd.int .i64) 3 w40 w.heap.size (fun _ => True) v477 t476) := ⟨h3_⟩
    have n4_ : Aside0 (Kd.R (Kd.int .u64) 34 w40 w.heap.size (fun k_ => some k_ ≠ (.slice Ao19 t456.length co19 : Value).ownBlock ∧ some k_ ≠ (.slice Ao26 t463.length co26 : Value).ownBlock ∧ some k_ ≠ (.slice Ao33 t470.length co33 : Value).ownBlock) v481 t480) := ⟨h4_⟩
    have n5_ : Aside0 (w40.heap[gb453]? = some (.cells #[.bool a0_0, .slice A0_1 l0_1.length c0_1, .int .i64 a0_2] 36 (0, 0))) := ⟨h5_⟩
    have n6_ : Aside0 (w40.heap[gb461]? = some (.cells #[.bool t455, .slice Ao19 t456.length co19, .int .i64 t459] 36 (0, 0))) := ⟨h6_⟩
    have n7_ : Aside0 (w40.heap[gb468]? = some (.cells #[.bool t462, .slice Ao26 t463.length co26, .int .i64 t466] 36 (0, 0))) := ⟨h7_⟩
    have n8_ : Aside0 (w40.heap[gb475]? = some (.cells #[.bool t469, .slice Ao33 t470.length co33, .int .i64 t473] 36 (0, 0))) := ⟨h8_⟩
    have n9_ : Aside0 (w40.heap[gb485]? = some (.cells #[.bool false, .slice none 0 0, .int .i64 0] 36 (0, 0))) := ⟨h9_⟩
    have n10_ : Aside0 (w.heap.size ≤ gb485) := ⟨h10_⟩
    have n11_ : Aside0 (w.heap.size ≤ gb485) := ⟨h11_⟩
    have n12_ : Aside0 (gb453 ≠ gb485) := ⟨h12_⟩
    have n13_ : Aside0 (gb485 ≠ gb453) := ⟨h13_⟩
    have n14_ : Aside0 (gb461 ≠ gb485) := ⟨h14_⟩
    have n15_ : Aside0 (gb485 ≠ gb461) := ⟨h15_⟩
    have n16_ : Aside0 (gb468 ≠ gb485) := ⟨h16_⟩
    have n17_ : Aside0 (gb485 ≠ gb468) := ⟨h17_⟩
    have n18_ : Aside0 (gb475 ≠ gb485) := ⟨h18_⟩
    have n19_ : Aside0 (gb485 ≠ gb475) := ⟨h19_⟩
    have n20_ : Aside0 (Below w.heap.size w w40) := ⟨h20_⟩
    clear HO458
    clear HO465
    clear HO472
    clear BK453
    clear BK461
    clear BK468
    clear BK475
    clear HB
    clear h0_ h1_ h2_ h3_ h4_ h5_ h6_ h7_ h8_ h9_ h10_ h11_ h12_ h13_ h14_ h15_ h16_ h17_ h18_ h19_ h20_
    have HO458 := n0_
    have HO465 := n1_
    have HO472 := n2_
    have HO478 := n3_
    have HO482 := n4_
    have BK453 := n5_
    have BK461 := n6_
    have BK468 := n7_
    have BK475 := n8_
    have BK485 := n9_
    have GW485 := n10_
    have GE485 := n11_
    have NB453_485 := n12_
    have NB485_453 := n13_
    have NB461_485 := n14_
    have NB485_461 := n15_
    have NB468_485 := n16_
    have NB485_468 := n17_
    have NB475_485 := n18_
    have NB485_475 := n19_
    have HB := n20_
    clear n0_ n1_ n2_ n3_ n4_ n5_ n6_ n7_ n8_ n9_ n10_ n11_ n12_ n13_ n14_ n15_ n16_ n17_ n18_ n19_ n20_
    have hHeld : w40.cell? ⟨gb453, 0, none⟩ = some (.bool a0_0) ∧ w40.cell? ⟨gb453, 1, none⟩ = some (.slice A0_1 l0_1.length c0_1) ∧ w40.cell? ⟨gb453, 2, none⟩ = some (.int .i64 a0_2) := hS_
    obtain ⟨Ao42, co42, eo42⟩ := Kd.R_slice HO482.out
    (first | subst eo42 | (injection eo42 with f1_ f2_ f3_; have f4_ := f1_.symm; have f5_ := f3_.symm; clear f1_ f2_ f3_; subst f4_; subst f5_))
    refine norm_ (a' := ?_) ?_ ?_
    rotate_left
    · simp only [putAll, Act.put, List.setIfInBounds_toArray, List.set_cons_zero, List.set_cons_succ]
      rfl
    refine one_ (i := 12) (N := none) #[true, true, true, true, true, true, true, true, true, true, true, true, true, false] rfl rfl (one_of HT_.out (by kernel_rfl)) (by decide) (fun K hK => ?_)
    have hs41 : w40.cell? ⟨gb485, 0, none⟩ = some (.bool false) := (blk_cell BK485.out 0).trans rfl
    have hfs41 := blk_frozen BK485.out 0
    have hns41_0 := NB453_485.out
    have hns41_1 := NB461_485.out
    have hns41_2 := NB468_485.out
    have hns41_3 := NB475_485.out
    have hms41_0 := NB485_453.out
    have hms41_1 := NB485_461.out
    have hms41_2 := NB485_468.out
    have hms41_3 := NB485_475.out
    have hs43 : w40.cell? ⟨gb485, 1, none⟩ = some (.slice none 0 0) := (blk_cell BK485.out 1).trans rfl
    have hfs43 := blk_frozen BK485.out 1
    have hns43_0 := NB453_485.out
    have hns43_1 := NB461_485.out
    have hns43_2 := NB468_485.out
    have hns43_3 := NB475_485.out
    have hms43_0 := NB485_453.out
    have hms43_1 := NB485_461.out
    have hms43_2 := NB485_468.out
    have hms43_3 := NB485_475.out
    have hs44 : w40.cell? ⟨gb485, 2, none⟩ = some (.int .i64 0) := (blk_cell BK485.out 2).trans rfl
    have hfs44 := blk_frozen BK485.out 2
    have hns44_0 := NB453_485.out
    have hns44_1 := NB461_485.out
    have hns44_2 := NB468_485.out
    have hns44_3 := NB475_485.out
    have hms44_0 := NB485_453.out
    have hms44_1 := NB485_461.out
    have hms44_2 := NB485_468.out
    have hms44_3 := NB485_475.out
    refine skip_ (w1 := ?_) (by rfl) rfl ?_ ?_
    rotate_left
    · go_simp
      rfl
    refine hK.out _ _ ⟨((cell_far (p := ⟨gb485, _, none⟩) NB453_485.out _).trans (((cell_far (p := ⟨gb485, _, none⟩) NB453_485.out _).trans (((cell_far (p := ⟨gb485, _, none⟩) NB453_485.out _).trans (hHeld.1)))))), ((cell_far (p := ⟨gb485, _, none⟩) NB453_485.out _).trans (((cell_far (p := ⟨gb485, _, none⟩) NB453_485.out _).trans (((cell_far (p := ⟨gb485, _, none⟩) NB453_485.out _).trans (hHeld.2.1)))))), ((cell_far (p := ⟨gb485, _, none⟩) NB453_485.out _).trans (((cell_far (p := ⟨gb485, _, none⟩) NB453_485.out _).trans (((cell_far (p := ⟨gb485, _, none⟩) NB453_485.out _).trans (hHeld.2.2))))))⟩ (fun hHeld => ?_)
    clear hK K
    refine pure_ (i := 13) (N := some 14) (v := ?_) (a' := ?_) #[true, true, true, true, true, true, true, true, true, true, true, true, true, true] rfl rfl (any_of HT_.out (by kernel_rfl)) (fun _ _ _ h => h) (Or.inl ⟨by rfl, ?_⟩) ?_ ?_
    rotate_left
    · intro w'
      go_simp
      with_reducible rfl
    rotate_left
    · simp only [Act.put, List.setIfInBounds_toArray, List.set_cons_zero, List.set_cons_succ, i64_w, i32_w]
      rfl
    refine done_ (done_of HT_.out (by kernel_rfl)) ?_
    go_upto_region 7 with (fail)
    go_cut [63] (fun v63 wc => ∃ (kq : Nat) (x63_10 : Bool), v63 = .bool x63_10 ∧ Aside0 (vernierlaw04_DyadicPlain.j0 kq a1 a2 t467 t474 t484 x63_10 a0_0 l0_1 a0_2 t462 t463 t466 t469 t470 t473 t479 t480 t483 = some r) ∧ Aside0 (kq ≤ k) ∧ Aside0 (Kd.R (Kd.int .u64) 34 wc w.heap.size (fun k_ => some k_ ≠ ((.slice Ao26 t463.length co26) : Value).ownBlock ∧ some k_ ≠ ((.slice Ao33 t470.length co33) : Value).ownBlock ∧ some k_ ≠ ((.slice Ao42 t480.length co42) : Value).ownBlock) (.slice Ao19 t456.length co19) t456) ∧ Aside0 (Kd.R (Kd.int .u64) 34 wc w.heap.size (fun k_ => some k_ ≠ ((.slice Ao19 t456.length co19) : Value).ownBlock ∧ some k_ ≠ ((.slice Ao33 t470.length co33) : Value).ownBlock ∧ some k_ ≠ ((.slice Ao42 t480.length co42) : Value).ownBlock) (.slice Ao26 t463.length co26) t463) ∧ Aside0 (Kd.R (Kd.int .u64) 34 wc w.heap.size (fun k_ => some k_ ≠ ((.slice Ao19 t456.length co19) : Value).ownBlock ∧ some k_ ≠ ((.slice Ao26 t463.length co26) : Value).ownBlock ∧ some k_ ≠ ((.slice Ao42 t480.length co42) : Value).ownBlock) (.slice Ao33 t470.length co33) t470) ∧ Aside0 (Kd.R (Kd.int .u64) 34 wc w.heap.size (fun k_ => some k_ ≠ ((.slice Ao19 t456.length co19) : Value).ownBlock ∧ some k_ ≠ ((.slice Ao26 t463.length co26) : Value).ownBlock ∧ some k_ ≠ ((.slice Ao33 t470.length co33) : Value).ownBlock) (.slice Ao42 t480.length co42) t480) ∧ Aside0 (wc.heap[gb453]? = some (.cells #[.bool a0_0, (.slice A0_1 l0_1.length c0_1), .int .i64 a0_2] 36 (0, 0))) ∧ Aside0 (wc.heap[gb461]? = some (.cells #[.bool t455, (.slice Ao19 t456.length co19), .int .i64 t459] 36 (0, 0))) ∧ Aside0 (wc.heap[gb468]? = some (.cells #[.bool t462, (.slice Ao26 t463.length co26), .int .i64 t466] 36 (0, 0))) ∧ Aside0 (wc.heap[gb475]? = some (.cells #[.bool t469, (.slice Ao33 t470.length co33), .int .i64 t473] 36 (0, 0))) ∧ Aside0 (wc.heap[gb485]? = some (.cells #[.bool t479, (.slice Ao42 t480.length co42), .int .i64 t483] 36 (0, 0))) ∧ Aside0 (Below w.heap.size w wc))
    case first =>
      have H := HC11.out
      clear HC11
      replace H := Option.bind_eq_some_iff.mp H
      obtain ⟨t486, A450, H⟩ := H
      replace H : (if t486 = true then ((vernierlaw04_may.f a0_0 l0_1 a0_2).bind fun t487 => ((dyadic_Check.f a0_0 l0_1 a0_2).bind fun t488 => (vernierlaw04_DyadicPlain.j0 k a1 a2 t467 t474 t484 ((!t487) != (t488 == 9)) a0_0 l0_1 a0_2 t462 t463 t466 t469 t470 t473 t479 t480 t483))) else (vernierlaw04_DyadicPlain.j0 k a1 a2 t467 t474 t484 true a0_0 l0_1 a0_2 t462 t463 t466 t469 t470 t473 t479 t480 t483)) = some r := H
      have A45 := Aside0.mk A450
      clear A450
      by_cases c46 : t486 = true
      · subst c46
        have H1 : ((vernierlaw04_may.f a0_0 l0_1 a0_2).bind fun t487 => ((dyadic_Check.f a0_0 l0_1 a0_2).bind fun t488 => (vernierlaw04_DyadicPlain.j0 k a1 a2 t467 t474 t484 ((!t487) != (t488 == 9)) a0_0 l0_1 a0_2 t462 t463 t466 t469 t470 t473 t479 t480 t483))) = some r := by rw [if_pos rfl] at H; exact H
        clear H
        have H := H1
        clear H1
        replace H := Option.bind_eq_some_iff.mp H
        obtain ⟨t487, A470, H⟩ := H
        replace H : ((dyadic_Check.f a0_0 l0_1 a0_2).bind fun t488 => (vernierlaw04_DyadicPlain.j0 k a1 a2 t467 t474 t484 ((!t487) != (t488 == 9)) a0_0 l0_1 a0_2 t462 t463 t466 t469 t470 t473 t479 t480 t483)) = some r := H
        have A47 := Aside0.mk A470
        clear A470
        replace H := Option.bind_eq_some_iff.mp H
        obtain ⟨t488, A480, H⟩ := H
        replace H : (vernierlaw04_DyadicPlain.j0 k a1 a2 t467 t474 t484 ((!t487) != (t488 == 9)) a0_0 l0_1 a0_2 t462 t463 t466 t469 t470 t473 t479 t480 t483) = some r := H
        have A48 := Aside0.mk A480
        clear A480
        have H' := Aside0.mk H
        clear H
        try go_wp2
        have n0_ : Aside0 (Kd.R (Kd.int .u64) 34 (((w40.setCell ⟨gb485, 0, none⟩ (.bool t479)).setCell ⟨gb485, 1, none⟩ (.slice Ao42 t480.length co42)).setCell ⟨gb485, 2, none⟩ (.int .i64 t483)) w.heap.size (fun k_ => some k_ ≠ (.slice Ao26 t463.length co26 : Value).ownBlock ∧ some k_ ≠ (.slice Ao33 t470.length co33 : Value).ownBlock ∧ some k_ ≠ (.slice Ao42 t480.length co42 : Value).ownBlock) (.slice Ao19 t456.length co19) t456) := ⟨by (with_reducible repeat (first | apply Kd.R_alloc | apply Kd.R_drewN | apply Kd.R_drew)); exact Kd.R_mono (Kd.R_far (p := ⟨gb485, 2, none⟩) (Kd.R_far (p := ⟨gb485, 1, none⟩) (Kd.R_far (p := ⟨gb485, 0, none⟩) (Kd.R_types HO458.out BK485.out (by decide)) (fun _ hk => hk.2) (.bool t479)) (fun _ hk => hk.2) (.slice Ao42 t480.length co42)) (fun _ hk => hk.2) (.int .i64 t483)) (fun _ hk => ⟨hk.1.1, ⟨hk.1.2.1, hk.1.2.2⟩⟩)⟩
        have n1_ : Aside0 (Kd.R (Kd.int .u64) 34 (((w40.setCell ⟨gb485, 0, none⟩ (.bool t479)).setCell ⟨gb485, 1, none⟩ (.slice Ao42 t480.length co42)).setCell ⟨gb485, 2, none⟩ (.int .i64 t483)) w.heap.size (fun k_ => some k_ ≠ (.slice Ao19 t456.length co19 : Value).ownBlock ∧ some k_ ≠ (.slice Ao33 t470.length co33 : Value).ownBlock ∧ some k_ ≠ (.slice Ao42 t480.length co42 : Value).ownBlock) (.slice Ao26 t463.length co26) t463) := ⟨by (with_reducible repeat (first | apply Kd.R_alloc | apply Kd.R_drewN | apply Kd.R_drew)); exact Kd.R_mono (Kd.R_far (p := ⟨gb485, 2, none⟩) (Kd.R_far (p := ⟨gb485, 1, none⟩) (Kd.R_far (p := ⟨gb485, 0, none⟩) (Kd.R_types HO465.out BK485.out (by decide)) (fun _ hk => hk.2) (.bool t479)) (fun _ hk => hk.2) (.slice Ao42 t480.length co42)) (fun _ hk => hk.2) (.int .i64 t483)) (fun _ hk => ⟨hk.1.1, ⟨hk.1.2.1, hk.1.2.2⟩⟩)⟩
        have n2_ : Aside0 (Kd.R (Kd.int .u64) 34 (((w40.setCell ⟨gb485, 0, none⟩ (.bool t479)).setCell ⟨gb485, 1, none⟩ (.slice Ao42 t480.length co42)).setCell ⟨gb485, 2, none⟩ (.int .i64 t483)) w.heap.size (fun k_ => some k_ ≠ (.slice Ao19 t456.length co19 : Value).ownBlock ∧ some k_ ≠ (.slice Ao26 t463.length co26 : Value).ownBlock ∧ some k_ ≠ (.slice Ao42 t480.length co42 : Value).ownBlock) (.slice Ao33 t470.length co33) t470) := ⟨by (with_reducible repeat (first | apply Kd.R_alloc | apply Kd.R_drewN | apply Kd.R_drew)); exact Kd.R_mono (Kd.R_far (p := ⟨gb485, 2, none⟩) (Kd.R_far (p := ⟨gb485, 1, none⟩) (Kd.R_far (p := ⟨gb485, 0, none⟩) (Kd.R_types HO472.out BK485.out (by decide)) (fun _ hk => hk.2) (.bool t479)) (fun _ hk => hk.2) (.slice Ao42 t480.length co42)) (fun _ hk => hk.2) (.int .i64 t483)) (fun _ hk => ⟨hk.1.1, ⟨hk.1.2.1, hk.1.2.2⟩⟩)⟩
        have n3_ : Aside0 (Kd.R (Kd.int .i64) 3 (((w40.setCell ⟨gb485, 0, none⟩ (.bool t479)).setCell ⟨gb485, 1, none⟩ (.slice Ao42 t480.length co42)).setCell ⟨gb485, 2, none⟩ (.int .i64 t483)) w.heap.size (fun _ => True) v477 t476) := ⟨by (with_reducible repeat (first | apply Kd.R_alloc | apply Kd.R_drewN | apply Kd.R_drew)); exact Kd.R_mono (Kd.R_far (p := ⟨gb485, 2, none⟩) (Kd.R_far (p := ⟨gb485, 1, none⟩) (Kd.R_far (p := ⟨gb485, 0, none⟩) (Kd.R_types HO478.out BK485.out (by decide)) (fun _ hk => hk.2) (.bool t479)) (fun _ hk => hk.2) (.slice Ao42 t480.length co42)) (fun _ hk => hk.2) (.int .i64 t483)) (fun _ hk => trivial)⟩
        have n4_ : Aside0 (Kd.R (Kd.int .u64) 34 (((w40.setCell ⟨gb485, 0, none⟩ (.bool t479)).setCell ⟨gb485, 1, none⟩ (.slice Ao42 t480.length co42)).setCell ⟨gb485, 2, none⟩ (.int .i64 t483)) w.heap.size (fun k_ => some k_ ≠ (.slice Ao19 t456.length co19 : Value).ownBlock ∧ some k_ ≠ (.slice Ao26 t463.length co26 : Value).ownBlock ∧ some k_ ≠ (.slice Ao33 t470.length co33 : Value).ownBlock) (.slice Ao42 t480.length co42) t480) := ⟨by (with_reducible repeat (first | apply Kd.R_alloc | apply Kd.R_drewN | apply Kd.R_drew)); exact Kd.R_mono (Kd.R_far (p := ⟨gb485, 2, none⟩) (Kd.R_far (p := ⟨gb485, 1, none⟩) (Kd.R_far (p := ⟨gb485, 0, none⟩) (Kd.R_types HO482.out BK485.out (by decide)) (fun _ hk => hk.2) (.bool t479)) (fun _ hk => hk.2) (.slice Ao42 t480.length co42)) (fun _ hk => hk.2) (.int .i64 t483)) (fun _ hk => ⟨hk.1.1, ⟨hk.1.2.1, hk.1.2.2⟩⟩)⟩
        have n5_ : Aside0 ((((w40.setCell ⟨gb485, 0, none⟩ (.bool t479)).setCell ⟨gb485, 1, none⟩ (.slice Ao42 t480.length co42)).setCell ⟨gb485, 2, none⟩ (.int .i64 t483)).heap[gb453]? = some (.cells #[.bool a0_0, .slice A0_1 l0_1.length c0_1, .int .i64 a0_2] 36 (0, 0))) := ⟨by (with_reducible repeat (first | refine blk_drewN ?_ _ | refine blk_drew ?_ | refine blk_alloc ?_ _)); refine blk_far ?_ NB453_485.out _; (with_reducible repeat (first | refine blk_drewN ?_ _ | refine blk_drew ?_ | refine blk_alloc ?_ _)); refine blk_far ?_ NB453_485.out _; (with_reducible repeat (first | refine blk_drewN ?_ _ | refine blk_drew ?_ | refine blk_alloc ?_ _)); refine blk_far ?_ NB453_485.out _; (with_reducible repeat (first | refine blk_drewN ?_ _ | refine blk_drew ?_ | refine blk_alloc ?_ _)); exact BK453.out⟩
        have n6_ : Aside0 ((((w40.setCell ⟨gb485, 0, none⟩ (.bool t479)).setCell ⟨gb485, 1, none⟩ (.slice Ao42 t480.length co42)).setCell ⟨gb485, 2, none⟩ (.int .i64 t483)).heap[gb461]? = some (.cells #[.bool t455, .slice Ao19 t456.length co19, .int .i64 t459] 36 (0, 0))) := ⟨by (with_reducible repeat (first | refine blk_drewN ?_ _ | refine blk_drew ?_ | refine blk_alloc ?_ _)); refine blk_far ?_ NB461_485.out _; (with_reducible repeat (first | refine blk_drewN ?_ _ | refine blk_drew ?_ | refine blk_alloc ?_ _)); refine blk_far ?_ NB461_485.out _; (with_reducible repeat (first | refine blk_drewN ?_ _ | refine blk_drew ?_ | refine blk_alloc ?_ _)); refine blk_far ?_ NB461_485.out _; (with_reducible repeat (first | refine blk_drewN ?_ _ | refine blk_drew ?_ | refine blk_alloc ?_ _)); exact BK461.out⟩
        have n7_ : Aside0 ((((w40.setCell ⟨gb485, 0, none⟩ (.bool t479)).setCell ⟨gb485, 1, none⟩ (.slice Ao42 t480.length co42)).setCell ⟨gb485, 2, none⟩ (.int .i64 t483)).heap[gb468]? = some (.cells #[.bool t462, .slice Ao26 t463.length co26, .int .i64 t466] 36 (0, 0))) := ⟨by (with_reducible repeat (first | refine blk_drewN ?_ _ | refine blk_drew ?_ | refine blk_alloc ?_ _)); refine blk_far ?_ NB468_485.out _; (with_reducible repeat (first | refine blk_drewN ?_ _ | refine blk_drew ?_ | refine blk_alloc ?_ _)); refine blk_far ?_ NB468_485.out _; (with_reducible repeat (first | refine blk_drewN ?_ _ | refine blk_drew ?_ | refine blk_alloc ?_ _)); refine blk_far ?_ NB468_485.out _; (with_reducible repeat (first | refine blk_drewN ?_ _ | refine blk_drew ?_ | refine blk_alloc ?_ _)); exact BK468.out⟩
        have n8_ : Aside0 ((((w40.setCell ⟨gb485, 0, none⟩ (.bool t479)).setCell ⟨gb485, 1, none⟩ (.slice Ao42 t480.length co42)).setCell ⟨gb485, 2, none⟩ (.int .i64 t483)).heap[gb475]? = some (.cells #[.bool t469, .slice Ao33 t470.length co33, .int .i64 t473] 36 (0, 0))) := ⟨by (with_reducible repeat (first | refine blk_drewN ?_ _ | refine blk_drew ?_ | refine blk_alloc ?_ _)); refine blk_far ?_ NB475_485.out _; (with_reducible repeat (first | refine blk_drewN ?_ _ | refine blk_drew ?_ | refine blk_alloc ?_ _)); refine blk_far ?_ NB475_485.out _; (with_reducible repeat (first | refine blk_drewN ?_ _ | refine blk_drew ?_ | refine blk_alloc ?_ _)); refine blk_far ?_ NB475_485.out _; (with_reducible repeat (first | refine blk_drewN ?_ _ | refine blk_drew ?_ | refine blk_alloc ?_ _)); exact BK475.out⟩
        have n9_ : Aside0 ((((w40.setCell ⟨gb485, 0, none⟩ (.bool t479)).setCell ⟨gb485, 1, none⟩ (.slice Ao42 t480.length co42)).setCell ⟨gb485, 2, none⟩ (.int .i64 t483)).heap[gb485]? = some (.cells #[.bool t479, .slice Ao42 t480.length co42, .int .i64 t483] 36 (0, 0))) := ⟨by (with_reducible repeat (first | refine blk_drewN ?_ _ | refine blk_drew ?_ | refine blk_alloc ?_ _)); refine blk_put (cs := #[.bool t479, .slice Ao42 t480.length co42, .int .i64 0]) ?_ 2 _ rfl; (with_reducible repeat (first | refine blk_drewN ?_ _ | refine blk_drew ?_ | refine blk_alloc ?_ _)); refine blk_put (cs := #[.bool t479, .slice none 0 0, .int .i64 0]) ?_ 1 _ rfl; (with_reducible repeat (first | refine blk_drewN ?_ _ | refine blk_drew ?_ | refine blk_alloc ?_ _)); refine blk_put (cs := #[.bool false, .slice none 0 0, .int .i64 0]) ?_ 0 _ rfl; (with_reducible repeat (first | refine blk_drewN ?_ _ | refine blk_drew ?_ | refine blk_alloc ?_ _)); exact BK485.out⟩
        have n10_ : Aside0 (Below w.heap.size w (((w40.setCell ⟨gb485, 0, none⟩ (.bool t479)).setCell ⟨gb485, 1, none⟩ (.slice Ao42 t480.length co42)).setCell ⟨gb485, 2, none⟩ (.int .i64 t483))) := ⟨by repeat (first | (with_reducible first | exact HB.out | apply below_alloc | apply pw_below_drewN | apply below_drew1 | refine below_set ?_ GE453.out | refine below_set ?_ GE461.out | refine below_set ?_ GE468.out | refine below_set ?_ GE475.out | refine below_set ?_ GE485.out) | exact HB.out)⟩
        (try clear HO458)
        (try clear HO465)
        (try clear HO472)
        (try clear HO478)
        (try clear HO482)
        (try clear BK453)
        (try clear BK461)
        (try clear BK468)
        (try clear BK475)
        (try clear BK485)
        (try clear HB)
        generalize (((w40.setCell ⟨gb485, 0, none⟩ (.bool t479)).setCell ⟨gb485, 1, none⟩ (.slice Ao42 t480.length co42)).setCell ⟨gb485, 2, none⟩ (.int .i64 t483)) = w49 at n0_ n1_ n2_ n3_ n4_ n5_ n6_ n7_ n8_ n9_ n10_ ⊢
        have HO458 := n0_
        have HO465 := n1_
        have HO472 := n2_
        have HO478 := n3_
        have HO482 := n4_
        have BK453 := n5_
        have BK461 := n6_
        have BK468 := n7_
        have BK475 := n8_
        have BK485 := n9_
        have HB := n10_
        clear n0_ n1_ n2_ n3_ n4_ n5_ n6_ n7_ n8_ n9_ n10_
        replace HO458 := Aside0.mk (Kd.R_drew HO458.out)
        replace HO465 := Aside0.mk (Kd.R_drew HO465.out)
        replace HO472 := Aside0.mk (Kd.R_drew HO472.out)
        replace HO478 := Aside0.mk (Kd.R_drew HO478.out)
        replace HO482 := Aside0.mk (Kd.R_drew HO482.out)
        replace BK453 := Aside0.mk (blk_drew BK453.out)
        replace BK461 := Aside0.mk (blk_drew BK461.out)
        replace BK468 := Aside0.mk (blk_drew BK468.out)
        replace BK475 := Aside0.mk (blk_drew BK475.out)
        replace BK485 := Aside0.mk (blk_drew BK485.out)
        replace HB := Aside0.mk (below_drew1 HB.out)
        refine start_ (n := 17) (S := fun w' => w'.cell? ⟨gb453, 0, none⟩ = some (.bool a0_0) ∧ w'.cell? ⟨gb453, 1, none⟩ = some (.slice A0_1 l0_1.length c0_1) ∧ w'.cell? ⟨gb453, 2, none⟩ = some (.int .i64 a0_2) ∧ w'.cell? ⟨gb461, 0, none⟩ = some (.bool t455) ∧ w'.cell? ⟨gb461, 1, none⟩ = some (.slice Ao19 t456.length co19) ∧ w'.cell? ⟨gb461, 2, none⟩ = some (.int .i64 t459) ∧ w'.cell? ⟨gb485, 0, none⟩ = some (.bool t479) ∧ w'.cell? ⟨gb485, 1, none⟩ = some (.slice Ao42 t480.length co42) ∧ w'.cell? ⟨gb485, 2, none⟩ = some (.int .i64 t483)) (ds := []) #[false, false, false, false, false, false, false, false, false, false, false, false, false, false, false, false, false] (by kernel_rfl) rfl rfl ⟨(blk_cell BK453.out 0).trans rfl, (blk_cell BK453.out 1).trans rfl, (blk_cell BK453.out 2).trans rfl, (blk_cell BK461.out 0).trans rfl, (blk_cell BK461.out 1).trans rfl, (blk_cell BK461.out 2).trans rfl, (blk_cell BK485.out 0).trans rfl, (blk_cell BK485.out 1).trans rfl, (blk_cell BK485.out 2).trans rfl⟩ (fun hHeld => ?_); refine with_tabW vernierlaw04_DyadicPlain.tab7 vernierlaw04_DyadicPlain.bits7 (fun HT_ HW_ => ?_)
        generalize w49.drew = w50 at HO458 HO465 HO472 HO478 HO482 BK453 BK461 BK468 BK475 BK485 HB hHeld ⊢
        refine pure_ (i := 3) (N := some 50) (v := ?_) (a' := ?_) #[false, false, false, true, false, false, false, false, false, false, false, false, false, false, false, false, false] rfl rfl (any_of HT_.out (by kernel_rfl)) (fun _ _ _ h => h) (Or.inl ⟨by rfl, ?_⟩) ?_ ?_
        rotate_left
        · intro w'
          go_simp
          with_reducible rfl
        rotate_left
        · simp only [Act.put, List.setIfInBounds_toArray, List.set_cons_zero, List.set_cons_succ, i64_w, i32_w]
          rfl
        refine pure_ (i := 5) (N := some 52) (v := ?_) (a' := ?_) #[false, false, false, true, false, true, false, false, false, false, false, false, false, false, false, false, false] rfl rfl (any_of HT_.out (by kernel_rfl)) (fun _ _ _ h => h) (Or.inl ⟨by rfl, ?_⟩) ?_ ?_
        rotate_left
        · intro w'
          go_simp
          with_reducible rfl
        rotate_left
        · simp only [Act.put, List.setIfInBounds_toArray, List.set_cons_zero, List.set_cons_succ, i64_w, i32_w]
          rfl
        refine take_ (i := 0) (N := some 47) (v := ?_) (a' := ?_) #[true, false, false, true, false, true, false, false, false, false, false, false, false, false, false, false, false] rfl rfl (take_ofW HT_.out HW_.out (by kernel_rfl)) (fun _ _ _ h => h) (Or.inl ⟨by rfl, ?_⟩) hHeld ?_ ?_
        rotate_left
        · rintro w' ⟨s0, s1, s2, s3, s4, s5, s6, s7, s8⟩
          go_simp
          with_reducible rfl
        rotate_left
        · simp only [Act.put, List.setIfInBounds_toArray, List.set_cons_zero, List.set_cons_succ, i64_w, i32_w]
          rfl
        refine take_ (i := 1) (N := some 48) (v := ?_) (a' := ?_) #[true, true, false, true, false, true, false, false, false, false, false, false, false, false, false, false, false] rfl rfl (take_ofW HT_.out HW_.out (by kernel_rfl)) (fun _ _ _ h => h) (Or.inl ⟨by rfl, ?_⟩) hHeld ?_ ?_
        rotate_left
        · rintro w' ⟨s0, s1, s2, s3, s4, s5, s6, s7, s8⟩
          go_simp
          with_reducible rfl
        rotate_left
        · simp only [Act.put, List.setIfInBounds_toArray, List.set_cons_zero, List.set_cons_succ, i64_w, i32_w]
          rfl
        refine take_ (i := 2) (N := some 49) (v := ?_) (a' := ?_) #[true, true, true, true, false, true, false, false, false, false, false, false, false, false, false, false, false] rfl rfl (take_ofW HT_.out HW_.out (by kernel_rfl)) (fun _ _ _ h => h) (Or.inl ⟨by rfl, ?_⟩) hHeld ?_ ?_
        rotate_left
        · rintro w' ⟨s0, s1, s2, s3, s4, s5, s6, s7, s8⟩
          go_simp
          with_reducible rfl
        rotate_left
        · simp only [Act.put, List.setIfInBounds_toArray, List.set_cons_zero, List.set_cons_succ, i64_w, i32_w]
          rfl
        refine take_ (i := 4) (N := some 51) (v := ?_) (a' := ?_) #[true, true, true, true, true, true, false, false, false, false, false, false, false, false, false, false, false] rfl rfl (take_ofW HT_.out HW_.out (by kernel_rfl)) (fun _ _ _ h => h) (Or.inl ⟨by rfl, ?_⟩) hHeld ?_ ?_
        rotate_left
        · rintro w' ⟨s0, s1, s2, s3, s4, s5, s6, s7, s8⟩
          go_simp
          with_reducible rfl
        rotate_left
        · simp only [Act.put, List.setIfInBounds_toArray, List.set_cons_zero, List.set_cons_succ, i64_w, i32_w]
          rfl
        refine one_ (i := 6) (N := some 53) #[true, true, true, true, true, true, true, false, false, false, false, false, false, false, false, false, false] rfl rfl (one_of HT_.out (by kernel_rfl)) (by decide) (fun K hK => ?_)
        refine goes_ Tryd.func30 (by kernel_rfl) rfl #[.agg #[.bool a0_0, .slice A0_1 l0_1.length c0_1, .int .i64 a0_2], .agg #[.bool a0_0, .slice A0_1 l0_1.length c0_1, .int .i64 a0_2], .agg #[.bool t455, .slice Ao19 t456.length co19, .int .i64 t459], .int .i64 t460, .agg #[.bool t479, .slice Ao42 t480.length co42, .int .i64 t483], .bool t484] (by rfl) rfl rfl (by (try simp only [List.map_toArray, List.map_cons, List.map_nil]); first | done | rfl | (simp only [List.length_drop, List.length_take]; rfl)) ?_
        with_reducible refine (vernierlaw04_is.calls k a0_0 _ _ l0_1 a0_2 a0_0 _ _ l0_1 a0_2 t455 _ _ t456 t459 t460 t479 _ _ t480 t483 t484 true _ ?side1 ?side2 ?side3 ?side4 ?side5 ?side6 ?side7 ?side8 A45.out).mono ?_
        (case side1 => exact cl_ (Kd.C_below HR0_1.out HB.out))
        (case side2 => exact HC0_1.out)
        (case side3 => exact cl_ (Kd.C_below HR0_1.out HB.out))
        (case side4 => exact HC0_1.out)
        (case side5 => repeat (first | exact (Kd.R_reads' HO458.out).2.2 | (with_reducible refine Kd.C_alloc ?_ _) | (with_reducible refine Kd.C_drewN ?_ _) | (with_reducible refine Kd.C_drew ?_)))
        (case side6 => exact (Kd.R_reads' HO458.out).2.1)
        (case side7 => repeat (first | exact (Kd.R_reads' HO482.out).2.2 | (with_reducible refine Kd.C_alloc ?_ _) | (with_reducible refine Kd.C_drewN ?_ _) | (with_reducible refine Kd.C_drew ?_)))
        (case side8 => exact (Kd.R_reads' HO482.out).2.1)
        rintro e w51 ⟨rfl, hb⟩
        refine ⟨_, rfl, ?_⟩
        replace HO458 := Aside0.mk (Kd.R_below (rl_ HO458) hb)
        replace HO465 := Aside0.mk (Kd.R_below (rl_ HO465) hb)
        replace HO472 := Aside0.mk (Kd.R_below (rl_ HO472) hb)
        replace HO478 := Aside0.mk (Kd.R_below (rl_ HO478) hb)
        replace HO482 := Aside0.mk (Kd.R_below (rl_ HO482) hb)
        replace BK453 := Aside0.mk (blk_below (bl_ BK453) hb)
        replace BK461 := Aside0.mk (blk_below (bl_ BK461) hb)
        replace BK468 := Aside0.mk (blk_below (bl_ BK468) hb)
        replace BK475 := Aside0.mk (blk_below (bl_ BK475) hb)
        replace BK485 := Aside0.mk (blk_below (bl_ BK485) hb)
        replace HB := Aside0.mk (below_step (bw_ HB) hb)
        (try clear hb)
        (try clear hb2)
        (try clear hk)
        (try clear hi)
        refine hK.out _ _ ⟨(blk_cell BK453.out 0).trans rfl, (blk_cell BK453.out 1).trans rfl, (blk_cell BK453.out 2).trans rfl, (blk_cell BK461.out 0).trans rfl, (blk_cell BK461.out 1).trans rfl, (blk_cell BK461.out 2).trans rfl, (blk_cell BK485.out 0).trans rfl, (blk_cell BK485.out 1).trans rfl, (blk_cell BK485.out 2).trans rfl⟩ (fun hHeld => ?_)
        clear hK K
        refine norm_ (a' := ?_) ?_ ?_
        rotate_left
        · show Act.put _ (some 53) _ = _
          simp only [Act.put, List.setIfInBounds_toArray, List.set_cons_zero, List.set_cons_succ, i64_w, i32_w]
          rfl
        refine pure_ (i := 7) (N := some 54) (v := ?_) (a' := ?_) #[true, true, true, true, true, true, true, true, false, false, false, false, false, false, false, false, false] rfl rfl (any_of HT_.out (by kernel_rfl)) (fun _ _ _ h => h) (Or.inl ⟨by rfl, ?_⟩) ?_ ?_
        rotate_left
        · intro w'
          go_simp
          with_reducible rfl
        rotate_left
        · simp only [Act.put, List.setIfInBounds_toArray, List.set_cons_zero, List.set_cons_succ, i64_w, i32_w]
          rfl
        refine pure_ (i := 8) (N := some 55) (v := ?_) (a' := ?_) #[true, true, true, true, true, true, true, true, true, false, false, false, false, false, false, false, false] rfl rfl (any_of HT_.out (by kernel_rfl)) (fun _ _ _ h => h) (Or.inl ⟨by rfl, ?_⟩) ?_ ?_
        rotate_left
        · intro w'
          go_simp
          with_reducible rfl
        rotate_left
        · simp only [Act.put, List.setIfInBounds_toArray, List.set_cons_zero, List.set_cons_succ, i64_w, i32_w]
          rfl
        refine take_ (i := 9) (N := some 56) (v := ?_) (a' := ?_) #[true, true, true, true, true, true, true, true, true, true, false, false, false, false, false, false, false] rfl rfl (take_ofW HT_.out HW_.out (by kernel_rfl)) (fun _ _ _ h => h) (Or.inl ⟨by rfl, ?_⟩) hHeld ?_ ?_
        rotate_left
        · rintro w' ⟨s0, s1, s2, s3, s4, s5, s6, s7, s8⟩
          go_simp
          with_reducible rfl
        rotate_left
        · simp only [Act.put, List.setIfInBounds_toArray, List.set_cons_zero, List.set_cons_succ, i64_w, i32_w]
          rfl
        refine take_ (i := 12) (N := some 59) (v := ?_) (a' := ?_) #[true, true, true, true, true, true, true, true, true, true, false, false, true, false, false, false, false] rfl rfl (take_ofW HT_.out HW_.out (by kernel_rfl)) (fun _ _ _ h => h) (Or.inl ⟨by rfl, ?_⟩) hHeld ?_ ?_
        rotate_left
        · rintro w' ⟨s0, s1, s2, s3, s4, s5, s6, s7, s8⟩
          go_simp
          with_reducible rfl
        rotate_left
        · simp only [Act.put, List.setIfInBounds_toArray, List.set_cons_zero, List.set_cons_succ, i64_w, i32_w]
          rfl
        refine one_ (i := 10) (N := some 57) #[true, true, true, true, true, true, true, true, true, true, true, false, true, false, false, false, false] rfl rfl (one_of HT_.out (by kernel_rfl)) (by decide) (fun K hK => ?_)
        refine goes_ Tryd.func31 (by kernel_rfl) rfl #[.agg #[.bool a0_0, .slice A0_1 l0_1.length c0_1, .int .i64 a0_2]] (by rfl) rfl rfl (by (try simp only [List.map_toArray, List.map_cons, List.map_nil]); first | done | rfl | (simp only [List.length_drop, List.length_take]; rfl)) ?_
        with_reducible refine (vernierlaw04_may.calls a0_0 _ _ l0_1 a0_2 t487 _ ?side1 ?side2 A47.out).mono ?_
        (case side1 => exact cl_ (Kd.C_below HR0_1.out HB.out))
        (case side2 => exact HC0_1.out)
        rintro e w52 ⟨rfl, hb⟩
        refine ⟨_, rfl, ?_⟩
        replace HO458 := Aside0.mk (Kd.R_below (rl_ HO458) hb)
        replace HO465 := Aside0.mk (Kd.R_below (rl_ HO465) hb)
        replace HO472 := Aside0.mk (Kd.R_below (rl_ HO472) hb)
        replace HO478 := Aside0.mk (Kd.R_below (rl_ HO478) hb)
        replace HO482 := Aside0.mk (Kd.R_below (rl_ HO482) hb)
        replace BK453 := Aside0.mk (blk_below (bl_ BK453) hb)
        replace BK461 := Aside0.mk (blk_below (bl_ BK461) hb)
        replace BK468 := Aside0.mk (blk_below (bl_ BK468) hb)
        replace BK475 := Aside0.mk (blk_below (bl_ BK475) hb)
        replace BK485 := Aside0.mk (blk_below (bl_ BK485) hb)
        replace HB := Aside0.mk (below_step (bw_ HB) hb)
        (try clear hb)
        (try clear hb2)
        (try clear hk)
        (try clear hi)
        refine hK.out _ _ ⟨(blk_cell BK453.out 0).trans rfl, (blk_cell BK453.out 1).trans rfl, (blk_cell BK453.out 2).trans rfl, (blk_cell BK461.out 0).trans rfl, (blk_cell BK461.out 1).trans rfl, (blk_cell BK461.out 2).trans rfl, (blk_cell BK485.out 0).trans rfl, (blk_cell BK485.out 1).trans rfl, (blk_cell BK485.out 2).trans rfl⟩ (fun hHeld => ?_)
        clear hK K
        refine norm_ (a' := ?_) ?_ ?_
        rotate_left
        · show Act.put _ (some 57) _ = _
          simp only [Act.put, List.setIfInBounds_toArray, List.set_cons_zero, List.set_cons_succ, i64_w, i32_w]
          rfl
        refine pure_ (i := 11) (N := some 58) (v := ?_) (a' := ?_) #[true, true, true, true, true, true, true, true, true, true, true, true, true, false, false, false, false] rfl rfl (any_of HT_.out (by kernel_rfl)) (fun _ _ _ h => h) (Or.inl ⟨by rfl, ?_⟩) ?_ ?_
        rotate_left
        · intro w'
          go_simp
          with_reducible rfl
        rotate_left
        · simp only [Act.put, List.setIfInBounds_toArray, List.set_cons_zero, List.set_cons_succ, i64_w, i32_w]
          rfl
        refine one_ (i := 13) (N := some 60) #[true, true, true, true, true, true, true, true, true, true, true, true, true, true, false, false, false] rfl rfl (one_of HT_.out (by kernel_rfl)) (by decide) (fun K hK => ?_)
        refine goes_ Tryd.func32 (by kernel_rfl) rfl #[.agg #[.bool a0_0, .slice A0_1 l0_1.length c0_1, .int .i64 a0_2]] (by rfl) rfl rfl (by (try simp only [List.map_toArray, List.map_cons, List.map_nil]); first | done | rfl | (simp only [List.length_drop, List.length_take]; rfl)) ?_
        with_reducible refine (dyadic_Check.calls a0_0 _ _ l0_1 a0_2 t488 _ ?side1 ?side2 A48.out).mono ?_
        (case side1 => exact cl_ (Kd.C_below HR0_1.out HB.out))
        (case side2 => exact HC0_1.out)
        rintro e w53 ⟨rfl, hb⟩
        refine ⟨_, rfl, ?_⟩
        replace HO458 := Aside0.mk (Kd.R_below (rl_ HO458) hb)
        replace HO465 := Aside0.mk (Kd.R_below (rl_ HO465) hb)
        replace HO472 := Aside0.mk (Kd.R_below (rl_ HO472) hb)
        replace HO478 := Aside0.mk (Kd.R_below (rl_ HO478) hb)
        replace HO482 := Aside0.mk (Kd.R_below (rl_ HO482) hb)
        replace BK453 := Aside0.mk (blk_below (bl_ BK453) hb)
        replace BK461 := Aside0.mk (blk_below (bl_ BK461) hb)
        replace BK468 := Aside0.mk (blk_below (bl_ BK468) hb)
        replace BK475 := Aside0.mk (blk_below (bl_ BK475) hb)
        replace BK485 := Aside0.mk (blk_below (bl_ BK485) hb)
        replace HB := Aside0.mk (below_step (bw_ HB) hb)
        (try clear hb)
        (try clear hb2)
        (try clear hk)
        (try clear hi)
        refine hK.out _ _ ⟨(blk_cell BK453.out 0).trans rfl, (blk_cell BK453.out 1).trans rfl, (blk_cell BK453.out 2).trans rfl, (blk_cell BK461.out 0).trans rfl, (blk_cell BK461.out 1).trans rfl, (blk_cell BK461.out 2).trans rfl, (blk_cell BK485.out 0).trans rfl, (blk_cell BK485.out 1).trans rfl, (blk_cell BK485.out 2).trans rfl⟩ (fun hHeld => ?_)
        clear hK K
        refine norm_ (a' := ?_) ?_ ?_
        rotate_left
        · show Act.put _ (some 60) _ = _
          simp only [Act.put, List.setIfInBounds_toArray, List.set_cons_zero, List.set_cons_succ, i64_w, i32_w]
          rfl
        refine pure_ (i := 14) (N := some 61) (v := ?_) (a' := ?_) #[true, true, true, true, true, true, true, true, true, true, true, true, true, true, true, false, false] rfl rfl (any_of HT_.out (by kernel_rfl)) (fun _ _ _ h => h) (Or.inl ⟨by rfl, ?_⟩) ?_ ?_
        rotate_left
        · intro w'
          go_simp
          with_reducible rfl
        rotate_left
        · simp only [Act.put, List.setIfInBounds_toArray, List.set_cons_zero, List.set_cons_succ, i64_w, i32_w]
          rfl
        refine pure_ (i := 15) (N := some 62) (v := ?_) (a' := ?_) #[true, true, true, true, true, true, true, true, true, true, true, true, true, true, true, true, false] rfl rfl (any_of HT_.out (by kernel_rfl)) (fun _ _ _ h => h) (Or.inl ⟨by rfl, ?_⟩) ?_ ?_
        rotate_left
        · intro w'
          go_simp
          with_reducible rfl
        rotate_left
        · simp only [Act.put, List.setIfInBounds_toArray, List.set_cons_zero, List.set_cons_succ, i64_w, i32_w]
          rfl
        refine pure_ (i := 16) (N := some 63) (v := ?_) (a' := ?_) #[true, true, true, true, true, true, true, true, true, true, true, true, true, true, true, true, true] rfl rfl (any_of HT_.out (by kernel_rfl)) (fun _ _ _ h => h) (Or.inl ⟨by rfl, ?_⟩) ?_ ?_
        rotate_left
        · intro w'
          go_simp
          with_reducible rfl
        rotate_left
        · simp only [Act.put, List.setIfInBounds_toArray, List.set_cons_zero, List.set_cons_succ, i64_w, i32_w]
          rfl
        refine done_ (done_of HT_.out (by kernel_rfl)) ?_
        try go_wp2
        go_meet
        case rel => exact ⟨_, (((!t487) != (t488 == 9))), (by first | rfl | (simp; done) | (simp [*]; done)), H', ⟨by first | omega | exact Nat.le_refl _⟩, ⟨by (with_reducible repeat (first | apply Kd.R_alloc | apply Kd.R_drewN | apply Kd.R_drew)); exact HO458.out⟩, ⟨by (with_reducible repeat (first | apply Kd.R_alloc | apply Kd.R_drewN | apply Kd.R_drew)); exact HO465.out⟩, ⟨by (with_reducible repeat (first | apply Kd.R_alloc | apply Kd.R_drewN | apply Kd.R_drew)); exact HO472.out⟩, ⟨by (with_reducible repeat (first | apply Kd.R_alloc | apply Kd.R_drewN | apply Kd.R_drew)); exact HO482.out⟩, ⟨by (with_reducible repeat (first | refine blk_drewN ?_ _ | refine blk_drew ?_ | refine blk_alloc ?_ _)); exact BK453.out⟩, ⟨by (with_reducible repeat (first | refine blk_drewN ?_ _ | refine blk_drew ?_ | refine blk_alloc ?_ _)); exact BK461.out⟩, ⟨by (with_reducible repeat (first | refine blk_drewN ?_ _ | refine blk_drew ?_ | refine blk_alloc ?_ _)); exact BK468.out⟩, ⟨by (with_reducible repeat (first | refine blk_drewN ?_ _ | refine blk_drew ?_ | refine blk_alloc ?_ _)); exact BK475.out⟩, ⟨by (with_reducible repeat (first | refine blk_drewN ?_ _ | refine blk_drew ?_ | refine blk_alloc ?_ _)); exact BK485.out⟩, ⟨by repeat (first | (with_reducible first | exact HB.out | apply below_alloc | apply pw_below_drewN | apply below_drew1 | refine below_set ?_ GE453.out | refine below_set ?_ GE461.out | refine below_set ?_ GE468.out | refine below_set ?_ GE475.out | refine below_set ?_ GE485.out) | exact HB.out)⟩⟩
      · replace c46 := Bool.eq_false_iff.mpr c46
        subst c46
        have H1 : (vernierlaw04_DyadicPlain.j0 k a1 a2 t467 t474 t484 true a0_0 l0_1 a0_2 t462 t463 t466 t469 t470 t473 t479 t480 t483) = some r := by rw [if_neg (show ¬ (false = true) by decide)] at H; exact H
        clear H
        have H := H1
        clear H1
        have H' := Aside0.mk H
        clear H
        try go_wp2
        have n0_ : Aside0 (Kd.R (Kd.int .u64) 34 (((w40.setCell ⟨gb485, 0, none⟩ (.bool t479)).setCell ⟨gb485, 1, none⟩ (.slice Ao42 t480.length co42)).setCell ⟨gb485, 2, none⟩ (.int .i64 t483)) w.heap.size (fun k_ => some k_ ≠ (.slice Ao26 t463.length co26 : Value).ownBlock ∧ some k_ ≠ (.slice Ao33 t470.length co33 : Value).ownBlock ∧ some k_ ≠ (.slice Ao42 t480.length co42 : Value).ownBlock) (.slice Ao19 t456.length co19) t456) := ⟨by (with_reducible repeat (first | apply Kd.R_alloc | apply Kd.R_drewN | apply Kd.R_drew)); exact Kd.R_mono (Kd.R_far (p := ⟨gb485, 2, none⟩) (Kd.R_far (p := ⟨gb485, 1, none⟩) (Kd.R_far (p := ⟨gb485, 0, none⟩) (Kd.R_types HO458.out BK485.out (by decide)) (fun _ hk => hk.2) (.bool t479)) (fun _ hk => hk.2) (.slice Ao42 t480.length co42)) (fun _ hk => hk.2) (.int .i64 t483)) (fun _ hk => ⟨hk.1.1, ⟨hk.1.2.1, hk.1.2.2⟩⟩)⟩
        have n1_ : Aside0 (Kd.R (Kd.int .u64) 34 (((w40.setCell ⟨gb485, 0, none⟩ (.bool t479)).setCell ⟨gb485, 1, none⟩ (.slice Ao42 t480.length co42)).setCell ⟨gb485, 2, none⟩ (.int .i64 t483)) w.heap.size (fun k_ => some k_ ≠ (.slice Ao19 t456.length co19 : Value).ownBlock ∧ some k_ ≠ (.slice Ao33 t470.length co33 : Value).ownBlock ∧ some k_ ≠ (.slice Ao42 t480.length co42 : Value).ownBlock) (.slice Ao26 t463.length co26) t463) := ⟨by (with_reducible repeat (first | apply Kd.R_alloc | apply Kd.R_drewN | apply Kd.R_drew)); exact Kd.R_mono (Kd.R_far (p := ⟨gb485, 2, none⟩) (Kd.R_far (p := ⟨gb485, 1, none⟩) (Kd.R_far (p := ⟨gb485, 0, none⟩) (Kd.R_types HO465.out BK485.out (by decide)) (fun _ hk => hk.2) (.bool t479)) (fun _ hk => hk.2) (.slice Ao42 t480.length co42)) (fun _ hk => hk.2) (.int .i64 t483)) (fun _ hk => ⟨hk.1.1, ⟨hk.1.2.1, hk.1.2.2⟩⟩)⟩
        have n2_ : Aside0 (Kd.R (Kd.int .u64) 34 (((w40.setCell ⟨gb485, 0, none⟩ (.bool t479)).setCell ⟨gb485, 1, none⟩ (.slice Ao42 t480.length co42)).setCell ⟨gb485, 2, none⟩ (.int .i64 t483)) w.heap.size (fun k_ => some k_ ≠ (.slice Ao19 t456.length co19 : Value).ownBlock ∧ some k_ ≠ (.slice Ao26 t463.length co26 : Value).ownBlock ∧ some k_ ≠ (.slice Ao42 t480.length co42 : Value).ownBlock) (.slice Ao33 t470.length co33) t470) := ⟨by (with_reducible repeat (first | apply Kd.R_alloc | apply Kd.R_drewN | apply Kd.R_drew)); exact Kd.R_mono (Kd.R_far (p := ⟨gb485, 2, none⟩) (Kd.R_far (p := ⟨gb485, 1, none⟩) (Kd.R_far (p := ⟨gb485, 0, none⟩) (Kd.R_types HO472.out BK485.out (by decide)) (fun _ hk => hk.2) (.bool t479)) (fun _ hk => hk.2) (.slice Ao42 t480.length co42)) (fun _ hk => hk.2) (.int .i64 t483)) (fun _ hk => ⟨hk.1.1, ⟨hk.1.2.1, hk.1.2.2⟩⟩)⟩
        have n3_ : Aside0 (Kd.R (Kd.int .i64) 3 (((w40.setCell ⟨gb485, 0, none⟩ (.bool t479)).setCell ⟨gb485, 1, none⟩ (.slice Ao42 t480.length co42)).setCell ⟨gb485, 2, none⟩ (.int .i64 t483)) w.heap.size (fun _ => True) v477 t476) := ⟨by (with_reducible repeat (first | apply Kd.R_alloc | apply Kd.R_drewN | apply Kd.R_drew)); exact Kd.R_mono (Kd.R_far (p := ⟨gb485, 2, none⟩) (Kd.R_far (p := ⟨gb485, 1, none⟩) (Kd.R_far (p := ⟨gb485, 0, none⟩) (Kd.R_types HO478.out BK485.out (by decide)) (fun _ hk => hk.2) (.bool t479)) (fun _ hk => hk.2) (.slice Ao42 t480.length co42)) (fun _ hk => hk.2) (.int .i64 t483)) (fun _ hk => trivial)⟩
        have n4_ : Aside0 (Kd.R (Kd.int .u64) 34 (((w40.setCell ⟨gb485, 0, none⟩ (.bool t479)).setCell ⟨gb485, 1, none⟩ (.slice Ao42 t480.length co42)).setCell ⟨gb485, 2, none⟩ (.int .i64 t483)) w.heap.size (fun k_ => some k_ ≠ (.slice Ao19 t456.length co19 : Value).ownBlock ∧ some k_ ≠ (.slice Ao26 t463.length co26 : Value).ownBlock ∧ some k_ ≠ (.slice Ao33 t470.length co33 : Value).ownBlock) (.slice Ao42 t480.length co42) t480) := ⟨by (with_reducible repeat (first | apply Kd.R_alloc | apply Kd.R_drewN | apply Kd.R_drew)); exact Kd.R_mono (Kd.R_far (p := ⟨gb485, 2, none⟩) (Kd.R_far (p := ⟨gb485, 1, none⟩) (Kd.R_far (p := ⟨gb485, 0, none⟩) (Kd.R_types HO482.out BK485.out (by decide)) (fun _ hk => hk.2) (.bool t479)) (fun _ hk => hk.2) (.slice Ao42 t480.length co42)) (fun _ hk => hk.2) (.int .i64 t483)) (fun _ hk => ⟨hk.1.1, ⟨hk.1.2.1, hk.1.2.2⟩⟩)⟩
        have n5_ : Aside0 ((((w40.setCell ⟨gb485, 0, none⟩ (.bool t479)).setCell ⟨gb485, 1, none⟩ (.slice Ao42 t480.length co42)).setCell ⟨gb485, 2, none⟩ (.int .i64 t483)).heap[gb453]? = some (.cells #[.bool a0_0, .slice A0_1 l0_1.length c0_1, .int .i64 a0_2] 36 (0, 0))) := ⟨by (with_reducible repeat (first | refine blk_drewN ?_ _ | refine blk_drew ?_ | refine blk_alloc ?_ _)); refine blk_far ?_ NB453_485.out _; (with_reducible repeat (first | refine blk_drewN ?_ _ | refine blk_drew ?_ | refine blk_alloc ?_ _)); refine blk_far ?_ NB453_485.out _; (with_reducible repeat (first | refine blk_drewN ?_ _ | refine blk_drew ?_ | refine blk_alloc ?_ _)); refine blk_far ?_ NB453_485.out _; (with_reducible repeat (first | refine blk_drewN ?_ _ | refine blk_drew ?_ | refine blk_alloc ?_ _)); exact BK453.out⟩
        have n6_ : Aside0 ((((w40.setCell ⟨gb485, 0, none⟩ (.bool t479)).setCell ⟨gb485, 1, none⟩ (.slice Ao42 t480.length co42)).setCell ⟨gb485, 2, none⟩ (.int .i64 t483)).heap[gb461]? = some (.cells #[.bool t455, .slice Ao19 t456.length co19, .int .i64 t459] 36 (0, 0))) := ⟨by (with_reducible repeat (first | refine blk_drewN ?_ _ | refine blk_drew ?_ | refine blk_alloc ?_ _)); refine blk_far ?_ NB461_485.out _; (with_reducible repeat (first | refine blk_drewN ?_ _ | refine blk_drew ?_ | refine blk_alloc ?_ _)); refine blk_far ?_ NB461_485.out _; (with_reducible repeat (first | refine blk_drewN ?_ _ | refine blk_drew ?_ | refine blk_alloc ?_ _)); refine blk_far ?_ NB461_485.out _; (with_reducible repeat (first | refine blk_drewN ?_ _ | refine blk_drew ?_ | refine blk_alloc ?_ _)); exact BK461.out⟩
        have n7_ : Aside0 ((((w40.setCell ⟨gb485, 0, none⟩ (.bool t479)).setCell ⟨gb485, 1, none⟩ (.slice Ao42 t480.length co42)).setCell ⟨gb485, 2, none⟩ (.int .i64 t483)).heap[gb468]? = some (.cells #[.bool t462, .slice Ao26 t463.length co26, .int .i64 t466] 36 (0, 0))) := ⟨by (with_reducible repeat (first | refine blk_drewN ?_ _ | refine blk_drew ?_ | refine blk_alloc ?_ _)); refine blk_far ?_ NB468_485.out _; (with_reducible repeat (first | refine blk_drewN ?_ _ | refine blk_drew ?_ | refine blk_alloc ?_ _)); refine blk_far ?_ NB468_485.out _; (with_reducible repeat (first | refine blk_drewN ?_ _ | refine blk_drew ?_ | refine blk_alloc ?_ _)); refine blk_far ?_ NB468_485.out _; (with_reducible repeat (first | refine blk_drewN ?_ _ | refine blk_drew ?_ | refine blk_alloc ?_ _)); exact BK468.out⟩
        have n8_ : Aside0 ((((w40.setCell ⟨gb485, 0, none⟩ (.bool t479)).setCell ⟨gb485, 1, none⟩ (.slice Ao42 t480.length co42)).setCell ⟨gb485, 2, none⟩ (.int .i64 t483)).heap[gb475]? = some (.cells #[.bool t469, .slice Ao33 t470.length co33, .int .i64 t473] 36 (0, 0))) := ⟨by (with_reducible repeat (first | refine blk_drewN ?_ _ | refine blk_drew ?_ | refine blk_alloc ?_ _)); refine blk_far ?_ NB475_485.out _; (with_reducible repeat (first | refine blk_drewN ?_ _ | refine blk_drew ?_ | refine blk_alloc ?_ _)); refine blk_far ?_ NB475_485.out _; (with_reducible repeat (first | refine blk_drewN ?_ _ | refine blk_drew ?_ | refine blk_alloc ?_ _)); refine blk_far ?_ NB475_485.out _; (with_reducible repeat (first | refine blk_drewN ?_ _ | refine blk_drew ?_ | refine blk_alloc ?_ _)); exact BK475.out⟩
        have n9_ : Aside0 ((((w40.setCell ⟨gb485, 0, none⟩ (.bool t479)).setCell ⟨gb485, 1, none⟩ (.slice Ao42 t480.length co42)).setCell ⟨gb485, 2, none⟩ (.int .i64 t483)).heap[gb485]? = some (.cells #[.bool t479, .slice Ao42 t480.length co42, .int .i64 t483] 36 (0, 0))) := ⟨by (with_reducible repeat (first | refine blk_drewN ?_ _ | refine blk_drew ?_ | refine blk_alloc ?_ _)); refine blk_put (cs := #[.bool t479, .slice Ao42 t480.length co42, .int .i64 0]) ?_ 2 _ rfl; (with_reducible repeat (first | refine blk_drewN ?_ _ | refine blk_drew ?_ | refine blk_alloc ?_ _)); refine blk_put (cs := #[.bool t479, .slice none 0 0, .int .i64 0]) ?_ 1 _ rfl; (with_reducible repeat (first | refine blk_drewN ?_ _ | refine blk_drew ?_ | refine blk_alloc ?_ _)); refine blk_put (cs := #[.bool false, .slice none 0 0, .int .i64 0]) ?_ 0 _ rfl; (with_reducible repeat (first | refine blk_drewN ?_ _ | refine blk_drew ?_ | refine blk_alloc ?_ _)); exact BK485.out⟩
        have n10_ : Aside0 (Below w.heap.size w (((w40.setCell ⟨gb485, 0, none⟩ (.bool t479)).setCell ⟨gb485, 1, none⟩ (.slice Ao42 t480.length co42)).setCell ⟨gb485, 2, none⟩ (.int .i64 t483))) := ⟨by repeat (first | (with_reducible first | exact HB.out | apply below_alloc | apply pw_below_drewN | apply below_drew1 | refine below_set ?_ GE453.out | refine below_set ?_ GE461.out | refine below_set ?_ GE468.out | refine below_set ?_ GE475.out | refine below_set ?_ GE485.out) | exact HB.out)⟩
        (try clear HO458)
        (try clear HO465)
        (try clear HO472)
        (try clear HO478)
        (try clear HO482)
        (try clear BK453)
        (try clear BK461)
        (try clear BK468)
        (try clear BK475)
        (try clear BK485)
        (try clear HB)
        generalize (((w40.setCell ⟨gb485, 0, none⟩ (.bool t479)).setCell ⟨gb485, 1, none⟩ (.slice Ao42 t480.length co42)).setCell ⟨gb485, 2, none⟩ (.int .i64 t483)) = w54 at n0_ n1_ n2_ n3_ n4_ n5_ n6_ n7_ n8_ n9_ n10_ ⊢
        have HO458 := n0_
        have HO465 := n1_
        have HO472 := n2_
        have HO478 := n3_
        have HO482 := n4_
        have BK453 := n5_
        have BK461 := n6_
        have BK468 := n7_
        have BK475 := n8_
        have BK485 := n9_
        have HB := n10_
        clear n0_ n1_ n2_ n3_ n4_ n5_ n6_ n7_ n8_ n9_ n10_
        replace HO458 := Aside0.mk (Kd.R_drew HO458.out)
        replace HO465 := Aside0.mk (Kd.R_drew HO465.out)
        replace HO472 := Aside0.mk (Kd.R_drew HO472.out)
        replace HO478 := Aside0.mk (Kd.R_drew HO478.out)
        replace HO482 := Aside0.mk (Kd.R_drew HO482.out)
        replace BK453 := Aside0.mk (blk_drew BK453.out)
        replace BK461 := Aside0.mk (blk_drew BK461.out)
        replace BK468 := Aside0.mk (blk_drew BK468.out)
        replace BK475 := Aside0.mk (blk_drew BK475.out)
        replace BK485 := Aside0.mk (blk_drew BK485.out)
        replace HB := Aside0.mk (below_drew1 HB.out)
        refine start_ (n := 17) (S := fun w' => w'.cell? ⟨gb453, 0, none⟩ = some (.bool a0_0) ∧ w'.cell? ⟨gb453, 1, none⟩ = some (.slice A0_1 l0_1.length c0_1) ∧ w'.cell? ⟨gb453, 2, none⟩ = some (.int .i64 a0_2) ∧ w'.cell? ⟨gb461, 0, none⟩ = some (.bool t455) ∧ w'.cell? ⟨gb461, 1, none⟩ = some (.slice Ao19 t456.length co19) ∧ w'.cell? ⟨gb461, 2, none⟩ = some (.int .i64 t459) ∧ w'.cell? ⟨gb485, 0, none⟩ = some (.bool t479) ∧ w'.cell? ⟨gb485, 1, none⟩ = some (.slice Ao42 t480.length co42) ∧ w'.cell? ⟨gb485, 2, none⟩ = some (.int .i64 t483)) (ds := []) #[false, false, false, false, false, false, false, false, false, false, false, false, false, false, false, false, false] (by kernel_rfl) rfl rfl ⟨(blk_cell BK453.out 0).trans rfl, (blk_cell BK453.out 1).trans rfl, (blk_cell BK453.out 2).trans rfl, (blk_cell BK461.out 0).trans rfl, (blk_cell BK461.out 1).trans rfl, (blk_cell BK461.out 2).trans rfl, (blk_cell BK485.out 0).trans rfl, (blk_cell BK485.out 1).trans rfl, (blk_cell BK485.out 2).trans rfl⟩ (fun hHeld => ?_); refine with_tabW vernierlaw04_DyadicPlain.tab7 vernierlaw04_DyadicPlain.bits7 (fun HT_ HW_ => ?_)
        generalize w54.drew = w55 at HO458 HO465 HO472 HO478 HO482 BK453 BK461 BK468 BK475 BK485 HB hHeld ⊢
        refine pure_ (i := 3) (N := some 50) (v := ?_) (a' := ?_) #[false, false, false, true, false, false, false, false, false, false, false, false, false, false, false, false, false] rfl rfl (any_of HT_.out (by kernel_rfl)) (fun _ _ _ h => h) (Or.inl ⟨by rfl, ?_⟩) ?_ ?_
        rotate_left
        · intro w'
          go_simp
          with_reducible rfl
        rotate_left
        · simp only [Act.put, List.setIfInBounds_toArray, List.set_cons_zero, List.set_cons_succ, i64_w, i32_w]
          rfl
        refine pure_ (i := 5) (N := some 52) (v := ?_) (a' := ?_) #[false, false, false, true, false, true, false, false, false, false, false, false, false, false, false, false, false] rfl rfl (any_of HT_.out (by kernel_rfl)) (fun _ _ _ h => h) (Or.inl ⟨by rfl, ?_⟩) ?_ ?_
        rotate_left
        · intro w'
          go_simp
          with_reducible rfl
        rotate_left
        · simp only [Act.put, List.setIfInBounds_toArray, List.set_cons_zero, List.set_cons_succ, i64_w, i32_w]
          rfl
        refine take_ (i := 0) (N := some 47) (v := ?_) (a' := ?_) #[true, false, false, true, false, true, false, false, false, false, false, false, false, false, false, false, false] rfl rfl (take_ofW HT_.out HW_.out (by kernel_rfl)) (fun _ _ _ h => h) (Or.inl ⟨by rfl, ?_⟩) hHeld ?_ ?_
        rotate_left
        · rintro w' ⟨s0, s1, s2, s3, s4, s5, s6, s7, s8⟩
          go_simp
          with_reducible rfl
        rotate_left
        · simp only [Act.put, List.setIfInBounds_toArray, List.set_cons_zero, List.set_cons_succ, i64_w, i32_w]
          rfl
        refine take_ (i := 1) (N := some 48) (v := ?_) (a' := ?_) #[true, true, false, true, false, true, false, false, false, false, false, false, false, false, false, false, false] rfl rfl (take_ofW HT_.out HW_.out (by kernel_rfl)) (fun _ _ _ h => h) (Or.inl ⟨by rfl, ?_⟩) hHeld ?_ ?_
        rotate_left
        · rintro w' ⟨s0, s1, s2, s3, s4, s5, s6, s7, s8⟩
          go_simp
          with_reducible rfl
        rotate_left
        · simp only [Act.put, List.setIfInBounds_toArray, List.set_cons_zero, List.set_cons_succ, i64_w, i32_w]
          rfl
        refine take_ (i := 2) (N := some 49) (v := ?_) (a' := ?_) #[true, true, true, true, false, true, false, false, false, false, false, false, false, false, false, false, false] rfl rfl (take_ofW HT_.out HW_.out (by kernel_rfl)) (fun _ _ _ h => h) (Or.inl ⟨by rfl, ?_⟩) hHeld ?_ ?_
        rotate_left
        · rintro w' ⟨s0, s1, s2, s3, s4, s5, s6, s7, s8⟩
          go_simp
          with_reducible rfl
        rotate_left
        · simp only [Act.put, List.setIfInBounds_toArray, List.set_cons_zero, List.set_cons_succ, i64_w, i32_w]
          rfl
        refine take_ (i := 4) (N := some 51) (v := ?_) (a' := ?_) #[true, true, true, true, true, true, false, false, false, false, false, false, false, false, false, false, false] rfl rfl (take_ofW HT_.out HW_.out (by kernel_rfl)) (fun _ _ _ h => h) (Or.inl ⟨by rfl, ?_⟩) hHeld ?_ ?_
        rotate_left
        · rintro w' ⟨s0, s1, s2, s3, s4, s5, s6, s7, s8⟩
          go_simp
          with_reducible rfl
        rotate_left
        · simp only [Act.put, List.setIfInBounds_toArray, List.set_cons_zero, List.set_cons_succ, i64_w, i32_w]
          rfl
        refine one_ (i := 6) (N := some 53) #[true, true, true, true, true, true, true, false, false, false, false, false, false, false, false, false, false] rfl rfl (one_of HT_.out (by kernel_rfl)) (by decide) (fun K hK => ?_)
        refine goes_ Tryd.func30 (by kernel_rfl) rfl #[.agg #[.bool a0_0, .slice A0_1 l0_1.length c0_1, .int .i64 a0_2], .agg #[.bool a0_0, .slice A0_1 l0_1.length c0_1, .int .i64 a0_2], .agg #[.bool t455, .slice Ao19 t456.length co19, .int .i64 t459], .int .i64 t460, .agg #[.bool t479, .slice Ao42 t480.length co42, .int .i64 t483], .bool t484] (by rfl) rfl rfl (by (try simp only [List.map_toArray, List.map_cons, List.map_nil]); first | done | rfl | (simp only [List.length_drop, List.length_take]; rfl)) ?_
        with_reducible refine (vernierlaw04_is.calls k a0_0 _ _ l0_1 a0_2 a0_0 _ _ l0_1 a0_2 t455 _ _ t456 t459 t460 t479 _ _ t480 t483 t484 false _ ?side1 ?side2 ?side3 ?side4 ?side5 ?side6 ?side7 ?side8 A45.out).mono ?_
        (case side1 => exact cl_ (Kd.C_below HR0_1.out HB.out))
        (case side2 => exact HC0_1.out)
        (case side3 => exact cl_ (Kd.C_below HR0_1.out HB.out))
        (case side4 => exact HC0_1.out)
        (case side5 => repeat (first | exact (Kd.R_reads' HO458.out).2.2 | (with_reducible refine Kd.C_alloc ?_ _) | (with_reducible refine Kd.C_drewN ?_ _) | (with_reducible refine Kd.C_drew ?_)))
        (case side6 => exact (Kd.R_reads' HO458.out).2.1)
        (case side7 => repeat (first | exact (Kd.R_reads' HO482.out).2.2 | (with_reducible refine Kd.C_alloc ?_ _) | (with_reducible refine Kd.C_drewN ?_ _) | (with_reducible refine Kd.C_drew ?_)))
        (case side8 => exact (Kd.R_reads' HO482.out).2.1)
        rintro e w56 ⟨rfl, hb⟩
        refine ⟨_, rfl, ?_⟩
        replace HO458 := Aside0.mk (Kd.R_below (rl_ HO458) hb)
        replace HO465 := Aside0.mk (Kd.R_below (rl_ HO465) hb)
        replace HO472 := Aside0.mk (Kd.R_below (rl_ HO472) hb)
        replace HO478 := Aside0.mk (Kd.R_below (rl_ HO478) hb)
        replace HO482 := Aside0.mk (Kd.R_below (rl_ HO482) hb)
        replace BK453 := Aside0.mk (blk_below (bl_ BK453) hb)
        replace BK461 := Aside0.mk (blk_below (bl_ BK461) hb)
        replace BK468 := Aside0.mk (blk_below (bl_ BK468) hb)
        replace BK475 := Aside0.mk (blk_below (bl_ BK475) hb)
        replace BK485 := Aside0.mk (blk_below (bl_ BK485) hb)
        replace HB := Aside0.mk (below_step (bw_ HB) hb)
        (try clear hb)
        (try clear hb2)
        (try clear hk)
        (try clear hi)
        refine hK.out _ _ ⟨(blk_cell BK453.out 0).trans rfl, (blk_cell BK453.out 1).trans rfl, (blk_cell BK453.out 2).trans rfl, (blk_cell BK461.out 0).trans rfl, (blk_cell BK461.out 1).trans rfl, (blk_cell BK461.out 2).trans rfl, (blk_cell BK485.out 0).trans rfl, (blk_cell BK485.out 1).trans rfl, (blk_cell BK485.out 2).trans rfl⟩ (fun hHeld => ?_)
        clear hK K
        refine norm_ (a' := ?_) ?_ ?_
        rotate_left
        · show Act.put _ (some 53) _ = _
          simp only [Act.put, List.setIfInBounds_toArray, List.set_cons_zero, List.set_cons_succ, i64_w, i32_w]
          rfl
        refine pure_ (i := 7) (N := some 54) (v := ?_) (a' := ?_) #[true, true, true, true, true, true, true, true, false, false, false, false, false, false, false, false, false] rfl rfl (any_of HT_.out (by kernel_rfl)) (fun _ _ _ h => h) (Or.inl ⟨by rfl, ?_⟩) ?_ ?_
        rotate_left
        · intro w'
          go_simp
          with_reducible rfl
        rotate_left
        · simp only [Act.put, List.setIfInBounds_toArray, List.set_cons_zero, List.set_cons_succ, i64_w, i32_w]
          rfl
        refine pure_ (i := 8) (N := some 55) (v := ?_) (a' := ?_) #[true, true, true, true, true, true, true, true, true, false, false, false, false, false, false, false, false] rfl rfl (any_of HT_.out (by kernel_rfl)) (fun _ _ _ h => h) (Or.inl ⟨by rfl, ?_⟩) ?_ ?_
        rotate_left
        · intro w'
          go_simp
          with_reducible rfl
        rotate_left
        · simp only [Act.put, List.setIfInBounds_toArray, List.set_cons_zero, List.set_cons_succ, i64_w, i32_w]
          rfl
        refine pure_ (i := 9) (N := some 56) (v := undef) (a' := ?_) #[true, true, true, true, true, true, true, true, true, true, false, false, false, false, false, false, false] rfl rfl (any_of HT_.out (by kernel_rfl)) (fun _ _ _ h => h) (Or.inr ⟨by rfl, rfl⟩) ?_ ?_
        rotate_left
        · simp only [Act.put, List.setIfInBounds_toArray, List.set_cons_zero, List.set_cons_succ, i64_w, i32_w]
          rfl
        refine pure_ (i := 10) (N := some 57) (v := undef) (a' := ?_) #[true, true, true, true, true, true, true, true, true, true, true, false, false, false, false, false, false] rfl rfl (any_of HT_.out (by kernel_rfl)) (fun _ _ _ h => h) (Or.inr ⟨by rfl, rfl⟩) ?_ ?_
        rotate_left
        · simp only [Act.put, List.setIfInBounds_toArray, List.set_cons_zero, List.set_cons_succ, i64_w, i32_w]
          rfl
        refine pure_ (i := 11) (N := some 58) (v := undef) (a' := ?_) #[true, true, true, true, true, true, true, true, true, true, true, true, false, false, false, false, false] rfl rfl (any_of HT_.out (by kernel_rfl)) (fun _ _ _ h => h) (Or.inr ⟨by rfl, rfl⟩) ?_ ?_
        rotate_left
        · simp only [Act.put, List.setIfInBounds_toArray, List.set_cons_zero, List.set_cons_succ, i64_w, i32_w]
          rfl
        refine pure_ (i := 12) (N := some 59) (v := undef) (a' := ?_) #[true, true, true, true, true, true, true, true, true, true, true, true, true, false, false, false, false] rfl rfl (any_of HT_.out (by kernel_rfl)) (fun _ _ _ h => h) (Or.inr ⟨by rfl, rfl⟩) ?_ ?_
        rotate_left
        · simp only [Act.put, List.setIfInBounds_toArray, List.set_cons_zero, List.set_cons_succ, i64_w, i32_w]
          rfl
        refine pure_ (i := 13) (N := some 60) (v := undef) (a' := ?_) #[true, true, true, true, true, true, true, true, true, true, true, true, true, true, false, false, false] rfl rfl (any_of HT_.out (by kernel_rfl)) (fun _ _ _ h => h) (Or.inr ⟨by rfl, rfl⟩) ?_ ?_
        rotate_left
        · simp only [Act.put, List.setIfInBounds_toArray, List.set_cons_zero, List.set_cons_succ, i64_w, i32_w]
          rfl
        refine pure_ (i := 14) (N := some 61) (v := undef) (a' := ?_) #[true, true, true, true, true, true, true, true, true, true, true, true, true, true, true, false, false] rfl rfl (any_of HT_.out (by kernel_rfl)) (fun _ _ _ h => h) (Or.inr ⟨by rfl, rfl⟩) ?_ ?_
        rotate_left
        · simp only [Act.put, List.setIfInBounds_toArray, List.set_cons_zero, List.set_cons_succ, i64_w, i32_w]
          rfl
        refine pure_ (i := 15) (N := some 62) (v := undef) (a' := ?_) #[true, true, true, true, true, true, true, true, true, true, true, true, true, true, true, true, false] rfl rfl (any_of HT_.out (by kernel_rfl)) (fun _ _ _ h => h) (Or.inr ⟨by rfl, rfl⟩) ?_ ?_
        rotate_left
        · simp only [Act.put, List.setIfInBounds_toArray, List.set_cons_zero, List.set_cons_succ, i64_w, i32_w]
          rfl
        refine pure_ (i := 16) (N := some 63) (v := ?_) (a' := ?_) #[true, true, true, true, true, true, true, true, true, true, true, true, true, true, true, true, true] rfl rfl (any_of HT_.out (by kernel_rfl)) (fun _ _ _ h => h) (Or.inl ⟨by rfl, ?_⟩) ?_ ?_
        rotate_left
        · intro w'
          go_simp
          with_reducible rfl
        rotate_left
        · simp only [Act.put, List.setIfInBounds_toArray, List.set_cons_zero, List.set_cons_succ, i64_w, i32_w]
          rfl
        refine done_ (done_of HT_.out (by kernel_rfl)) ?_
        try go_wp2
        go_meet
        case rel => exact ⟨_, (true), (by first | rfl | (simp; done) | (simp [*]; done)), H', ⟨by first | omega | exact Nat.le_refl _⟩, ⟨by (with_reducible repeat (first | apply Kd.R_alloc | apply Kd.R_drewN | apply Kd.R_drew)); exact HO458.out⟩, ⟨by (with_reducible repeat (first | apply Kd.R_alloc | apply Kd.R_drewN | apply Kd.R_drew)); exact HO465.out⟩, ⟨by (with_reducible repeat (first | apply Kd.R_alloc | apply Kd.R_drewN | apply Kd.R_drew)); exact HO472.out⟩, ⟨by (with_reducible repeat (first | apply Kd.R_alloc | apply Kd.R_drewN | apply Kd.R_drew)); exact HO482.out⟩, ⟨by (with_reducible repeat (first | refine blk_drewN ?_ _ | refine blk_drew ?_ | refine blk_alloc ?_ _)); exact BK453.out⟩, ⟨by (with_reducible repeat (first | refine blk_drewN ?_ _ | refine blk_drew ?_ | refine blk_alloc ?_ _)); exact BK461.out⟩, ⟨by (with_reducible repeat (first | refine blk_drewN ?_ _ | refine blk_drew ?_ | refine blk_alloc ?_ _)); exact BK468.out⟩, ⟨by (with_reducible repeat (first | refine blk_drewN ?_ _ | refine blk_drew ?_ | refine blk_alloc ?_ _)); exact BK475.out⟩, ⟨by (with_reducible repeat (first | refine blk_drewN ?_ _ | refine blk_drew ?_ | refine blk_alloc ?_ _)); exact BK485.out⟩, ⟨by repeat (first | (with_reducible first | exact HB.out | apply below_alloc | apply pw_below_drewN | apply below_drew1 | refine below_set ?_ GE453.out | refine below_set ?_ GE461.out | refine below_set ?_ GE468.out | refine below_set ?_ GE475.out | refine below_set ?_ GE485.out) | exact HB.out)⟩⟩
    case rest =>
      clear HC11
      try clear p2
      try clear c3
      try clear c4
      try clear c30
      try clear c31
      try clear c32
      try clear c46
      obtain ⟨kq, x63_10, rfl, HA, HJ10, HO_462001, HO_469001, HO_476001, HO_486001, BK453, BK461, BK468, BK475, BK485, HB⟩ := hcut
      cases kq with
      | zero => exact absurd HA.out (by simp [vernierlaw04_DyadicPlain.j0])
      | succ kj10 =>
        have H := HA.out
        clear HA
        simp only [vernierlaw04_DyadicPlain.j0] at H
        by_cases c57 : x63_10 = true
        · subst c57
          have H1 : (some false) = some r := by rw [if_pos rfl] at H; exact H
          clear H
          have H := H1
          clear H1
          exact absurd (Option.some.inj H) (by subst hT; decide)
        · replace c57 := Bool.eq_false_iff.mpr c57
          subst c57
          have H1 : ((vernierlaw04_is.f kj10 a0_0 l0_1 a0_2 a0_0 l0_1 a0_2 t462 t463 t466 t467 false t480 t483 t484).bind fun t489 => (if t489 = true then (if a2 < (-16384) then (vernierlaw04_DyadicPlain.j1 kj10 a1 a2 t474 true t469 t470 t473) else (vernierlaw04_DyadicPlain.j1 kj10 a1 a2 t474 (decide (a2 > 16384)) t469 t470 t473)) else (some false))) = some r := by rw [if_neg (show ¬ (false = true) by decide)] at H; exact H
          clear H
          have H := H1
          clear H1
          replace H := Option.bind_eq_some_iff.mp H
          obtain ⟨t489, A580, H⟩ := H
          replace H : (if t489 = true then (if a2 < (-16384) then (vernierlaw04_DyadicPlain.j1 kj10 a1 a2 t474 true t469 t470 t473) else (vernierlaw04_DyadicPlain.j1 kj10 a1 a2 t474 (decide (a2 > 16384)) t469 t470 t473)) else (some false)) = some r := H
          have A58 := Aside0.mk A580
          clear A580
          by_cases c59 : t489 = true
          · subst c59
            have H1 : (if a2 < (-16384) then (vernierlaw04_DyadicPlain.j1 kj10 a1 a2 t474 true t469 t470 t473) else (vernierlaw04_DyadicPlain.j1 kj10 a1 a2 t474 (decide (a2 > 16384)) t469 t470 t473)) = some r := by rw [if_pos rfl] at H; exact H
            clear H
            have H := H1
            clear H1
            have HC60 := Aside0.mk H
            clear H
            have hnb61 := NB485_453.out
            have hnc61 := NB453_485.out
            have hnb62 := NB485_461.out
            have hnc62 := NB461_485.out
            have hnb63 := NB485_468.out
            have hnc63 := NB468_485.out
            have hnb64 := NB485_475.out
            have hnc64 := NB475_485.out
            have hcz65_0 : wc.cell? ⟨gb485, 0, none⟩ = some (.bool t479) := (blk_cell BK485.out 0).trans rfl
            have hcz65_1 : wc.cell? ⟨gb485, 1, none⟩ = some (.slice Ao42 t480.length co42) := (blk_cell BK485.out 1).trans rfl
            have hcz65_2 : wc.cell? ⟨gb485, 2, none⟩ = some (.int .i64 t483) := (blk_cell BK485.out 2).trans rfl
            have hfz65_0 := blk_frozen BK485.out 0
            have hfz65_1 := blk_frozen BK485.out 1
            have hfz65_2 := blk_frozen BK485.out 2
            have hnb66 := NB453_461.out
            have hnc66 := NB461_453.out
            have hnb67 := NB453_468.out
            have hnc67 := NB468_453.out
            have hnb68 := NB453_475.out
            have hnc68 := NB475_453.out
            have hcz69_0 : wc.cell? ⟨gb453, 0, none⟩ = some (.bool a0_0) := (blk_cell BK453.out 0).trans rfl
            have hcz69_1 : wc.cell? ⟨gb453, 1, none⟩ = some (.slice A0_1 l0_1.length c0_1) := (blk_cell BK453.out 1).trans rfl
            have hcz69_2 : wc.cell? ⟨gb453, 2, none⟩ = some (.int .i64 a0_2) := (blk_cell BK453.out 2).trans rfl
            have hfz69_0 := blk_frozen BK453.out 0
            have hfz69_1 := blk_frozen BK453.out 1
            have hfz69_2 := blk_frozen BK453.out 2
            have hnb70 := NB468_461.out
            have hnc70 := NB461_468.out
            have hnb71 := NB468_475.out
            have hnc71 := NB475_468.out
            have hcz72_0 : wc.cell? ⟨gb468, 0, none⟩ = some (.bool t462) := (blk_cell BK468.out 0).trans rfl
            have hcz72_1 : wc.cell? ⟨gb468, 1, none⟩ = some (.slice Ao26 t463.length co26) := (blk_cell BK468.out 1).trans rfl
            have hcz72_2 : wc.cell? ⟨gb468, 2, none⟩ = some (.int .i64 t466) := (blk_cell BK468.out 2).trans rfl
            have hfz72_0 := blk_frozen BK468.out 0
            have hfz72_1 := blk_frozen BK468.out 1
            have hfz72_2 := blk_frozen BK468.out 2
            go_upto_region 12 with (first | ((with_reducible refine gate_callee (f := 30) rfl ?_); refine gl_ (some 71) rfl rfl Tryd.func30 (by kernel_rfl) rfl #[.agg #[.bool a0_0, .slice A0_1 l0_1.length c0_1, .int .i64 a0_2], .agg #[.bool a0_0, .slice A0_1 l0_1.length c0_1, .int .i64 a0_2], .agg #[.bool t462, .slice Ao26 t463.length co26, .int .i64 t466], .int .i64 t467, .agg #[.bool false, .slice Ao42 t480.length co42, .int .i64 t483], .bool t484] rfl ?_; (with_reducible refine (vernierlaw04_is.calls kj10 a0_0 _ _ l0_1 a0_2 a0_0 _ _ l0_1 a0_2 t462 _ _ t463 t466 t467 false _ _ t480 t483 t484 true _ ?side1 ?side2 ?side3 ?side4 ?side5 ?side6 ?side7 ?side8 A58.out).mono ?_); (case side1 => exact Kd.C_below HR0_1.out (bw_ HB)); (case side2 => exact HC0_1.out); (case side3 => exact Kd.C_below HR0_1.out (bw_ HB)); (case side4 => exact HC0_1.out); (case side5 => refine (Kd.R_reads' (e := 34) (base := w.heap.size) (ok := fun k_ => (some k_ ≠ (.slice Ao19 t456.length co19 : Value).ownBlock ∧ (some k_ ≠ (.slice Ao33 t470.length co33 : Value).ownBlock ∧ some k_ ≠ (.slice Ao42 t480.length co42 : Value).ownBlock))) (n := t463.length) (c := co26) ?_).2.2; exact (by (with_reducible repeat (first | apply Kd.R_alloc | apply Kd.R_drewN | apply Kd.R_drew)); exact (Kd.R_mono (Kd.R_far (p := ⟨gb485, 0, none⟩) (Kd.R_types HO_469001.out BK485.out (by decide)) (fun _ hk => hk.2) (.bool false)) (fun _ h_ => h_.1)))); (case side6 => exact (Kd.R_reads' HO_469001.out).2.1); (case side7 => refine (Kd.R_reads' (e := 34) (base := w.heap.size) (ok := fun k_ => (some k_ ≠ (.slice Ao19 t456.length co19 : Value).ownBlock ∧ (some k_ ≠ (.slice Ao26 t463.length co26 : Value).ownBlock ∧ some k_ ≠ (.slice Ao33 t470.length co33 : Value).ownBlock))) (n := t480.length) (c := co42) ?_).2.2; exact (by (with_reducible repeat (first | apply Kd.R_alloc | apply Kd.R_drewN | apply Kd.R_drew)); exact (Kd.R_mono (Kd.R_far (p := ⟨gb485, 0, none⟩) (Kd.R_types HO_486001.out BK485.out (by decide)) (fun _ hk => hk.2) (.bool false)) (fun _ h_ => h_.1)))); (case side8 => exact (Kd.R_reads' HO_486001.out).2.1); rintro e w73 ⟨rfl, hb⟩; refine ⟨_, rfl, ?_⟩; replace HO_462001 := Aside0.mk (Kd.R_below (by (with_reducible repeat (first | apply Kd.R_alloc | apply Kd.R_drewN | apply Kd.R_drew)); exact (Kd.R_mono (Kd.R_far (p := ⟨gb485, 0, none⟩) (Kd.R_types HO_462001.out BK485.out (by decide)) (fun _ hk => hk.2) (.bool false)) (fun _ h_ => h_.1))) hb); replace HO_469001 := Aside0.mk (Kd.R_below (by (with_reducible repeat (first | apply Kd.R_alloc | apply Kd.R_drewN | apply Kd.R_drew)); exact (Kd.R_mono (Kd.R_far (p := ⟨gb485, 0, none⟩) (Kd.R_types HO_469001.out BK485.out (by decide)) (fun _ hk => hk.2) (.bool false)) (fun _ h_ => h_.1))) hb); replace HO_476001 := Aside0.mk (Kd.R_below (by (with_reducible repeat (first | apply Kd.R_alloc | apply Kd.R_drewN | apply Kd.R_drew)); exact (Kd.R_mono (Kd.R_far (p := ⟨gb485, 0, none⟩) (Kd.R_types HO_476001.out BK485.out (by decide)) (fun _ hk => hk.2) (.bool false)) (fun _ h_ => h_.1))) hb); replace HO_486001 := Aside0.mk (Kd.R_below (by (with_reducible repeat (first | apply Kd.R_alloc | apply Kd.R_drewN | apply Kd.R_drew)); exact (Kd.R_mono (Kd.R_far (p := ⟨gb485, 0, none⟩) (Kd.R_types HO_486001.out BK485.out (by decide)) (fun _ hk => hk.2) (.bool false)) (fun _ h_ => h_.1))) hb); replace BK453 := Aside0.mk (blk_below (g := gb453) (o := .cells #[.bool a0_0, .slice A0_1 l0_1.length c0_1, .int .i64 a0_2] 36 (0, 0)) (by (with_reducible repeat (first | refine blk_drewN ?_ _ | refine blk_drew ?_ | refine blk_alloc ?_ _)); refine blk_far ?_ NB453_485.out _; (with_reducible repeat (first | refine blk_drewN ?_ _ | refine blk_drew ?_ | refine blk_alloc ?_ _)); exact BK453.out) hb); replace BK461 := Aside0.mk (blk_below (g := gb461) (o := .cells #[.bool t455, .slice Ao19 t456.length co19, .int .i64 t459] 36 (0, 0)) (by (with_reducible repeat (first | refine blk_drewN ?_ _ | refine blk_drew ?_ | refine blk_alloc ?_ _)); refine blk_far ?_ NB461_485.out _; (with_reducible repeat (first | refine blk_drewN ?_ _ | refine blk_drew ?_ | refine blk_alloc ?_ _)); exact BK461.out) hb); replace BK468 := Aside0.mk (blk_below (g := gb468) (o := .cells #[.bool t462, .slice Ao26 t463.length co26, .int .i64 t466] 36 (0, 0)) (by (with_reducible repeat (first | refine blk_drewN ?_ _ | refine blk_drew ?_ | refine blk_alloc ?_ _)); refine blk_far ?_ NB468_485.out _; (with_reducible repeat (first | refine blk_drewN ?_ _ | refine blk_drew ?_ | refine blk_alloc ?_ _)); exact BK468.out) hb); replace BK475 := Aside0.mk (blk_below (g := gb475) (o := .cells #[.bool t469, .slice Ao33 t470.length co33, .int .i64 t473] 36 (0, 0)) (by (with_reducible repeat (first | refine blk_drewN ?_ _ | refine blk_drew ?_ | refine blk_alloc ?_ _)); refine blk_far ?_ NB475_485.out _; (with_reducible repeat (first | refine blk_drewN ?_ _ | refine blk_drew ?_ | refine blk_alloc ?_ _)); exact BK475.out) hb); replace BK485 := Aside0.mk (blk_below (g := gb485) (o := .cells #[.bool false, .slice Ao42 t480.length co42, .int .i64 t483] 36 (0, 0)) (by (with_reducible repeat (first | refine blk_drewN ?_ _ | refine blk_drew ?_ | refine blk_alloc ?_ _)); refine blk_put (cs := #[.bool t479, .slice Ao42 t480.length co42, .int .i64 t483]) ?_ 0 _ rfl; (with_reducible repeat (first | refine blk_drewN ?_ _ | refine blk_drew ?_ | refine blk_alloc ?_ _)); exact BK485.out) hb); replace HB := Aside0.mk (below_step (bw_ HB) hb); (try clear hb); (try clear hb2); (try clear hk); (try clear hi)))
            (try simp only [Act.put, List.setIfInBounds_toArray, List.set_cons_zero, List.set_cons_succ])
            go_cut [78] (fun v78 wc => ∃ (kq : Nat) (x78_59 : Bool), v78 = .bool x78_59 ∧ Aside0 (vernierlaw04_DyadicPlain.j1 kq a1 a2 t474 x78_59 t469 t470 t473 = some r) ∧ Aside0 (kq ≤ kj10) ∧ Aside0 (Kd.R (Kd.int .u64) 34 wc w.heap.size (fun k_ => some k_ ≠ ((.slice Ao26 t463.length co26) : Value).ownBlock ∧ some k_ ≠ ((.slice Ao33 t470.length co33) : Value).ownBlock ∧ some k_ ≠ ((.slice Ao42 t480.length co42) : Value).ownBlock) (.slice Ao19 t456.length co19) t456) ∧ Aside0 (Kd.R (Kd.int .u64) 34 wc w.heap.size (fun k_ => some k_ ≠ ((.slice Ao19 t456.length co19) : Value).ownBlock ∧ some k_ ≠ ((.slice Ao33 t470.length co33) : Value).ownBlock ∧ some k_ ≠ ((.slice Ao42 t480.length co42) : Value).ownBlock) (.slice Ao26 t463.length co26) t463) ∧ Aside0 (Kd.R (Kd.int .u64) 34 wc w.heap.size (fun k_ => some k_ ≠ ((.slice Ao19 t456.length co19) : Value).ownBlock ∧ some k_ ≠ ((.slice Ao26 t463.length co26) : Value).ownBlock ∧ some k_ ≠ ((.slice Ao42 t480.length co42) : Value).ownBlock) (.slice Ao33 t470.length co33) t470) ∧ Aside0 (Kd.R (Kd.int .u64) 34 wc w.heap.size (fun k_ => some k_ ≠ ((.slice Ao19 t456.length co19) : Value).ownBlock ∧ some k_ ≠ ((.slice Ao26 t463.length co26) : Value).ownBlock ∧ some k_ ≠ ((.slice Ao33 t470.length co33) : Value).ownBlock) (.slice Ao42 t480.length co42) t480) ∧ Aside0 (wc.heap[gb453]? = some (.cells #[.bool a0_0, (.slice A0_1 l0_1.length c0_1), .int .i64 a0_2] 36 (0, 0))) ∧ Aside0 (wc.heap[gb461]? = some (.cells #[.bool t455, (.slice Ao19 t456.length co19), .int .i64 t459] 36 (0, 0))) ∧ Aside0 (wc.heap[gb468]? = some (.cells #[.bool t462, (.slice Ao26 t463.length co26), .int .i64 t466] 36 (0, 0))) ∧ Aside0 (wc.heap[gb475]? = some (.cells #[.bool t469, (.slice Ao33 t470.length co33), .int .i64 t473] 36 (0, 0))) ∧ Aside0 (wc.heap[gb485]? = some (.cells #[.bool false, (.slice Ao42 t480.length co42), .int .i64 t483] 36 (0, 0))) ∧ Aside0 (Below w.heap.size w wc))
            case first =>
              have H := HC60.out
              clear HC60
              by_cases c74 : a2 < (-16384)
              · rw [if_pos c74] at H
                have c74b0 : decide (a2 < (-16384)) = true := decide_eq_true c74
                clear c74
                (first | rw [c74b0] | (simp only [i64_w, i32_w]; rw [c74b0]) | skip)
                have H' := Aside0.mk H
                clear H
                go_wp2
                go_meet
                case rel => exact ⟨_, (true), (by first | rfl | (simp; done) | (simp [*]; done)), H', ⟨by have := HJ10.out; first | omega | exact Nat.le_refl _⟩, ⟨by (with_reducible repeat (first | apply Kd.R_alloc | apply Kd.R_drewN | apply Kd.R_drew)); exact HO_462001.out⟩, ⟨by (with_reducible repeat (first | apply Kd.R_alloc | apply Kd.R_drewN | apply Kd.R_drew)); exact HO_469001.out⟩, ⟨by (with_reducible repeat (first | apply Kd.R_alloc | apply Kd.R_drewN | apply Kd.R_drew)); exact HO_476001.out⟩, ⟨by (with_reducible repeat (first | apply Kd.R_alloc | apply Kd.R_drewN | apply Kd.R_drew)); exact HO_486001.out⟩, ⟨by (with_reducible repeat (first | refine blk_drewN ?_ _ | refine blk_drew ?_ | refine blk_alloc ?_ _)); exact BK453.out⟩, ⟨by (with_reducible repeat (first | refine blk_drewN ?_ _ | refine blk_drew ?_ | refine blk_alloc ?_ _)); exact BK461.out⟩, ⟨by (with_reducible repeat (first | refine blk_drewN ?_ _ | refine blk_drew ?_ | refine blk_alloc ?_ _)); exact BK468.out⟩, ⟨by (with_reducible repeat (first | refine blk_drewN ?_ _ | refine blk_drew ?_ | refine blk_alloc ?_ _)); exact BK475.out⟩, ⟨by (with_reducible repeat (first | refine blk_drewN ?_ _ | refine blk_drew ?_ | refine blk_alloc ?_ _)); exact BK485.out⟩, ⟨by repeat (first | (with_reducible first | exact HB.out | apply below_alloc | apply pw_below_drewN | apply below_drew1 | refine below_set ?_ GE453.out | refine below_set ?_ GE461.out | refine below_set ?_ GE468.out | refine below_set ?_ GE475.out | refine below_set ?_ GE485.out) | exact HB.out)⟩⟩
              · rw [if_neg c74] at H
                have c74b0 : decide (a2 < (-16384)) = false := decide_eq_false c74
                clear c74
                (first | rw [c74b0] | (simp only [i64_w, i32_w]; rw [c74b0]) | skip)
                have H' := Aside0.mk H
                clear H
                go_wp2
                go_meet
                case rel => exact ⟨_, (decide (a2 > 16384)), (by first | rfl | (simp; done) | (simp [*]; done)), H', ⟨by have := HJ10.out; first | omega | exact Nat.le_refl _⟩, ⟨by (with_reducible repeat (first | apply Kd.R_alloc | apply Kd.R_drewN | apply Kd.R_drew)); exact HO_462001.out⟩, ⟨by (with_reducible repeat (first | apply Kd.R_alloc | apply Kd.R_drewN | apply Kd.R_drew)); exact HO_469001.out⟩, ⟨by (with_reducible repeat (first | apply Kd.R_alloc | apply Kd.R_drewN | apply Kd.R_drew)); exact HO_476001.out⟩, ⟨by (with_reducible repeat (first | apply Kd.R_alloc | apply Kd.R_drewN | apply Kd.R_drew)); exact HO_486001.out⟩, ⟨by (with_reducible repeat (first | refine blk_drewN ?_ _ | refine blk_drew ?_ | refine blk_alloc ?_ _)); exact BK453.out⟩, ⟨by (with_reducible repeat (first | refine blk_drewN ?_ _ | refine blk_drew ?_ | refine blk_alloc ?_ _)); exact BK461.out⟩, ⟨by (with_reducible repeat (first | refine blk_drewN ?_ _ | refine blk_drew ?_ | refine blk_alloc ?_ _)); exact BK468.out⟩, ⟨by (with_reducible repeat (first | refine blk_drewN ?_ _ | refine blk_drew ?_ | refine blk_alloc ?_ _)); exact BK475.out⟩, ⟨by (with_reducible repeat (first | refine blk_drewN ?_ _ | refine blk_drew ?_ | refine blk_alloc ?_ _)); exact BK485.out⟩, ⟨by repeat (first | (with_reducible first | exact HB.out | apply below_alloc | apply pw_below_drewN | apply below_drew1 | refine below_set ?_ GE453.out | refine below_set ?_ GE461.out | refine below_set ?_ GE468.out | refine below_set ?_ GE475.out | refine below_set ?_ GE485.out) | exact HB.out)⟩⟩
            case rest =>
              clear HC60
              try clear p2
              try clear c3
              try clear c4
              try clear c5
              try clear c6
              try clear c7
              try clear c30
              try clear c31
              try clear c32
              try clear c46
              try clear c57
              try clear c59
              try clear c61
              try clear c62
              try clear c63
              try clear c64
              try clear c66
              try clear c67
              try clear c68
              try clear c70
              try clear c71
              try clear c74
              try clear c74b0
              try clear hcz65_0
              try clear hcz65_1
              try clear hcz65_2
              try clear hcz69_0
              try clear hcz69_1
              try clear hcz69_2
              try clear hcz72_0
              try clear hcz72_1
              try clear hcz72_2
              try clear hfz65_0
              try clear hfz65_1
              try clear hfz65_2
              try clear hfz69_0
              try clear hfz69_1
              try clear hfz69_2
              try clear hfz72_0
              try clear hfz72_1
              try clear hfz72_2
              try clear p2
              obtain ⟨kq, x78_59, rfl, HA, HJ59, HO_462001, HO_469001, HO_476001, HO_486001, BK453, BK461, BK468, BK475, BK485, HB⟩ := hcut
              cases kq with
              | zero => exact absurd HA.out (by simp [vernierlaw04_DyadicPlain.j1])
              | succ kj59 =>
                have H := HA.out
                clear HA
                simp only [vernierlaw04_DyadicPlain.j1] at H
                by_cases c75 : x78_59 = true
                · subst c75
                  have H1 : (if t474 = 4 then ((vernierlaw04_same.f kj59 t469 t470 t473 false ([] : List Int) 0).bind fun t490 => (some t490)) else (some false)) = some r := by rw [if_pos rfl] at H; exact H
                  clear H
                  have H := H1
                  clear H1
                  by_cases c76 : t474 = 4
                  · rw [if_pos c76] at H
                    have c76b0 : (t474 == 4) = true := beq_iff_eq.mpr c76
                    have c76b1 : (t474 != 4) = false := bne_eq_false_iff_eq.mpr c76
                    clear c76
                    replace H := Option.bind_eq_some_iff.mp H
                    obtain ⟨t490, A770, H⟩ := H
                    replace H : (some t490) = some r := H
                    have A77 := Aside0.mk A770
                    clear A770
                    obtain rfl := Option.some.inj H
                    have hnb78 := NB475_453.out
                    have hnc78 := NB453_475.out
                    have hnb79 := NB475_461.out
                    have hnc79 := NB461_475.out
                    have hnb80 := NB475_468.out
                    have hnc80 := NB468_475.out
                    have hnb81 := NB475_485.out
                    have hnc81 := NB485_475.out
                    have hcz82_0 : wc.cell? ⟨gb475, 0, none⟩ = some (.bool t469) := (blk_cell BK475.out 0).trans rfl
                    have hcz82_1 : wc.cell? ⟨gb475, 1, none⟩ = some (.slice Ao33 t470.length co33) := (blk_cell BK475.out 1).trans rfl
                    have hcz82_2 : wc.cell? ⟨gb475, 2, none⟩ = some (.int .i64 t473) := (blk_cell BK475.out 2).trans rfl
                    have hfz82_0 := blk_frozen BK475.out 0
                    have hfz82_1 := blk_frozen BK475.out 1
                    have hfz82_2 := blk_frozen BK475.out 2
                    go_wp2_with (first | (go_at_call 33; (refine (vernierlaw04_same.calls kj59 t469 _ _ t470 t473 false _ _ ([] : List Int) 0 t490 _ ?side1 ?side2 ?side3 ?side4 A77.out).mono ?_); (case side1 => repeat (first | exact (Kd.R_reads' HO_476001.out).2.2 | (with_reducible refine Kd.C_alloc ?_ _) | (with_reducible refine Kd.C_drewN ?_ _) | (with_reducible refine Kd.C_drew ?_))); (case side2 => exact (Kd.R_reads' HO_476001.out).2.1); (case side3 => exact Kd.C_nil _ _); (case side4 => exact Nat.le_refl _); rintro e w83 ⟨rfl, hb⟩; replace HO_462001 := Aside0.mk (Kd.R_below (rl_ HO_462001) hb); replace HO_469001 := Aside0.mk (Kd.R_below (rl_ HO_469001) hb); replace HO_476001 := Aside0.mk (Kd.R_below (rl_ HO_476001) hb); replace HO_486001 := Aside0.mk (Kd.R_below (rl_ HO_486001) hb); replace BK453 := Aside0.mk (blk_below (bl_ BK453) hb); replace BK461 := Aside0.mk (blk_below (bl_ BK461) hb); replace BK468 := Aside0.mk (blk_below (bl_ BK468) hb); replace BK475 := Aside0.mk (blk_below (bl_ BK475) hb); replace BK485 := Aside0.mk (blk_below (bl_ BK485) hb); replace HB := Aside0.mk (below_step (bw_ HB) hb); (try clear hb); (try clear hb2); (try clear hk); (try clear hi)))
                    go_ret
                    exact ⟨by first | rfl | (simp [errW_none, errW_some] <;> rfl) | (simp [*, errW_none, errW_some] <;> rfl), by repeat (first | (with_reducible first | exact HB.out | apply below_alloc | apply pw_below_drewN | apply below_drew1 | refine below_set ?_ GE453.out | refine below_set ?_ GE461.out | refine below_set ?_ GE468.out | refine below_set ?_ GE475.out | refine below_set ?_ GE485.out) | exact HB.out)⟩
                  · rw [if_neg c76] at H
                    have c76b0 : (t474 == 4) = false := beq_eq_false_iff_ne.mpr c76
                    have c76b1 : (t474 != 4) = true := bne_iff_ne.mpr c76
                    exact absurd (Option.some.inj H) (by subst hT; decide)
                · replace c75 := Bool.eq_false_iff.mpr c75
                  subst c75
                  have H1 : (if a1 < 0 then ((vernierref01_Word.f kj59 (IntKind.u64.wrap (-(IntKind.u64.wrap (a1))))).bind fun t491 => ((vernierlaw04_told.f kj59 (decide (a1 < 0)) t491 a2).bind fun bt494 => (if bt494.2.2.2 = true then (if t474 = 0 then ((vernierlaw04_same.f kj59 t469 t470 t473 bt494.1 bt494.2.1 bt494.2.2.1).bind fun t501 => (if t501 = true then (some true) else (some false))) else (some false)) else (some (t474 == 4))))) else ((vernierref01_Word.f kj59 (IntKind.u64.wrap (a1))).bind fun t502 => ((vernierlaw04_told.f kj59 (decide (a1 < 0)) t502 a2).bind fun bt505 => (if bt505.2.2.2 = true then (if t474 = 0 then ((vernierlaw04_same.f kj59 t469 t470 t473 bt505.1 bt505.2.1 bt505.2.2.1).bind fun t512 => (if t512 = true then (some true) else (some false))) else (some false)) else (some (t474 == 4)))))) = some r := by rw [if_neg (show ¬ (false = true) by decide)] at H; exact H
                  clear H
                  have H := H1
                  clear H1
                  by_cases c84 : a1 < 0
                  · rw [if_pos c84] at H
                    have c84b0 : decide (a1 < 0) = true := decide_eq_true c84
                    (try rw [c84b0] at H)
                    clear c84
                    replace H := Option.bind_eq_some_iff.mp H
                    obtain ⟨t491, A850, H⟩ := H
                    replace H : ((vernierlaw04_told.f kj59 true t491 a2).bind fun bt494 => (if bt494.2.2.2 = true then (if t474 = 0 then ((vernierlaw04_same.f kj59 t469 t470 t473 bt494.1 bt494.2.1 bt494.2.2.1).bind fun t501 => (if t501 = true then (some true) else (some false))) else (some false)) else (some (t474 == 4)))) = some r := H
                    have A85 := Aside0.mk A850
                    clear A850
                    replace H := Option.bind_eq_some_iff.mp H
                    obtain ⟨⟨t494, t495, t498, t499⟩, A860, H⟩ := H
                    replace H : (if t499 = true then (if t474 = 0 then ((vernierlaw04_same.f kj59 t469 t470 t473 t494 t495 t498).bind fun t501 => (if t501 = true then (some true) else (some false))) else (some false)) else (some (t474 == 4))) = some r := H
                    have A86 := Aside0.mk A860
                    clear A860
                    by_cases c87 : t499 = true
                    · subst c87
                      have H1 : (if t474 = 0 then ((vernierlaw04_same.f kj59 t469 t470 t473 t494 t495 t498).bind fun t501 => (if t501 = true then (some true) else (some false))) else (some false)) = some r := by rw [if_pos rfl] at H; exact H
                      clear H
                      have H := H1
                      clear H1
                      by_cases c88 : t474 = 0
                      · rw [if_pos c88] at H
                        have c88b0 : (t474 == 0) = true := beq_iff_eq.mpr c88
                        have c88b1 : (t474 != 0) = false := bne_eq_false_iff_eq.mpr c88
                        clear c88
                        replace H := Option.bind_eq_some_iff.mp H
                        obtain ⟨t501, A890, H⟩ := H
                        replace H : (if t501 = true then (some true) else (some false)) = some r := H
                        have A89 := Aside0.mk A890
                        clear A890
                        by_cases c90 : t501 = true
                        · subst c90
                          have H1 : (some true) = some r := by rw [if_pos rfl] at H; exact H
                          clear H
                          have H := H1
                          clear H1
                          obtain rfl := Option.some.inj H
                          go_wp2_with (first | ((with_reducible refine gate_callee (f := 34) rfl ?_); refine gl_ (some 96) rfl rfl Tryd.func34 (by kernel_rfl) rfl #[.int .u64 (IntKind.u64.wrap (-(IntKind.u64.wrap (a1))))] rfl ?_; (with_reducible refine (vernierref01_Word.calls kj59 (IntKind.u64.wrap (-(IntKind.u64.wrap (a1)))) t491 _ A85.out).mono ?_); rintro e w91 ⟨v492, rfl, ho0, hb⟩; refine ⟨_, rfl, ?_⟩; replace HO_462001 := Aside0.mk (Kd.R_below (rl_ HO_462001) hb); replace HO_469001 := Aside0.mk (Kd.R_below (rl_ HO_469001) hb); replace HO_476001 := Aside0.mk (Kd.R_below (rl_ HO_476001) hb); replace HO_486001 := Aside0.mk (Kd.R_below (rl_ HO_486001) hb); have HO493 := Aside0.mk (Kd.R_lower ho0 (below_size (bw_ HB))); replace BK453 := Aside0.mk (blk_below (bl_ BK453) hb); replace BK461 := Aside0.mk (blk_below (bl_ BK461) hb); replace BK468 := Aside0.mk (blk_below (bl_ BK468) hb); replace BK475 := Aside0.mk (blk_below (bl_ BK475) hb); replace BK485 := Aside0.mk (blk_below (bl_ BK485) hb); replace HB := Aside0.mk (below_step (bw_ HB) hb); (try clear hb); (try clear hb2); (try clear hk); (try clear hi); (try clear ho0); obtain ⟨Ao92, co92, eo92⟩ := Kd.R_slice HO493.out; subst eo92) | ((with_reducible refine gate_callee (f := 28) rfl ?_); refine gl_ (some 98) rfl rfl Tryd.func28 (by kernel_rfl) rfl #[.bool true, .slice Ao92 t491.length co92, .int .i64 a2] rfl ?_; (with_reducible refine (vernierlaw04_told.calls kj59 true (fun k_ => some k_ = (.slice Ao92 t491.length co92 : Value).ownBlock) _ _ t491 a2 t494 t495 t498 true _ ?side1 A86.out).mono ?_); (case side1 => exact Kd.R_V (Kd.R_tight rfl (Kd.R_types (Kd.R_types (Kd.R_types (Kd.R_types (Kd.R_types (Kd.R_apart' (Kd.R_apart' (Kd.R_apart' (Kd.R_apart' (HO493.out) (Kd.R_typed HO_462001.out) (by decide)) (Kd.R_typed HO_469001.out) (by decide)) (Kd.R_typed HO_476001.out) (by decide)) (Kd.R_typed HO_486001.out) (by decide)) BK453.out (by decide)) BK461.out (by decide)) BK468.out (by decide)) BK475.out (by decide)) BK485.out (by decide)))); rintro e w93 ⟨v496, rfl, ho0, hb⟩; refine ⟨_, rfl, ?_⟩; replace HO493 := Aside0.mk (Kd.R_below (rl_ HO493) hb); have HO497 := Aside0.mk (Kd.R_lower (Kd.R_new' (Kd.R_new' (Kd.R_new' (Kd.R_new' (Kd.R_mono (ok' := fun k_ => True) ho0 (fun _ hk_ => trivial)) (Kd.R_lt (rl_ HO_462001))) (Kd.R_lt (rl_ HO_469001))) (Kd.R_lt (rl_ HO_476001))) (Kd.R_lt (rl_ HO_486001))) (below_size (bw_ HB))); replace HO_462001 := Aside0.mk (Kd.R_elder' (rl_ HO_462001) (Kd.R_base ho0) hb); replace HO_469001 := Aside0.mk (Kd.R_elder' (rl_ HO_469001) (Kd.R_base ho0) hb); replace HO_476001 := Aside0.mk (Kd.R_elder' (rl_ HO_476001) (Kd.R_base ho0) hb); replace HO_486001 := Aside0.mk (Kd.R_elder' (rl_ HO_486001) (Kd.R_base ho0) hb); replace BK453 := Aside0.mk (blk_below (bl_ BK453) hb); replace BK461 := Aside0.mk (blk_below (bl_ BK461) hb); replace BK468 := Aside0.mk (blk_below (bl_ BK468) hb); replace BK475 := Aside0.mk (blk_below (bl_ BK475) hb); replace BK485 := Aside0.mk (blk_below (bl_ BK485) hb); replace HB := Aside0.mk (below_step (bw_ HB) hb); (try clear hb); (try clear hb2); (try clear hk); (try clear hi); (try clear ho0)) | ((with_reducible refine gate_dst (N := 16) rfl ?_); refine box_event ?hg (N := 16) ?hd (cs := #[.bool false, .slice none 0 0, .int .i64 0]) (t := 36) ?hr ?_; (case hd => rfl); (case hg => rfl); (case hr => first | (go_simp; done) | (go_simp; rfl)); intro gb500 hg w94 hbox hb; replace HO_462001 := Aside0.mk (Kd.R_below (rl_ HO_462001) hb); replace HO_469001 := Aside0.mk (Kd.R_below (rl_ HO_469001) hb); replace HO_476001 := Aside0.mk (Kd.R_below (rl_ HO_476001) hb); replace HO_486001 := Aside0.mk (Kd.R_below (rl_ HO_486001) hb); replace HO493 := Aside0.mk (Kd.R_below (rl_ HO493) hb); replace HO497 := Aside0.mk (Kd.R_below (rl_ HO497) hb); have BK500 := Aside0.mk (hbox); have GW500 := Aside0.mk ((by rw [hg]; exact (below_size (bw_ HB)) : w.heap.size ≤ gb500)); have GE500 := Aside0.mk ((by rw [hg]; exact (below_size (bw_ HB)) : w.heap.size ≤ gb500)); replace HB := Aside0.mk (below_step (bw_ HB) hb); have NB453_500 := Aside0.mk ((by rw [hg]; exact Nat.ne_of_lt (blk_lt (bl_ BK453)) : gb453 ≠ gb500)); have NB500_453 := Aside0.mk ((by rw [hg]; exact Nat.ne_of_gt (blk_lt (bl_ BK453)) : gb500 ≠ gb453)); replace BK453 := Aside0.mk (blk_below (bl_ BK453) hb); have NB461_500 := Aside0.mk ((by rw [hg]; exact Nat.ne_of_lt (blk_lt (bl_ BK461)) : gb461 ≠ gb500)); have NB500_461 := Aside0.mk ((by rw [hg]; exact Nat.ne_of_gt (blk_lt (bl_ BK461)) : gb500 ≠ gb461)); replace BK461 := Aside0.mk (blk_below (bl_ BK461) hb); have NB468_500 := Aside0.mk ((by rw [hg]; exact Nat.ne_of_lt (blk_lt (bl_ BK468)) : gb468 ≠ gb500)); have NB500_468 := Aside0.mk ((by rw [hg]; exact Nat.ne_of_gt (blk_lt (bl_ BK468)) : gb500 ≠ gb468)); replace BK468 := Aside0.mk (blk_below (bl_ BK468) hb); have NB475_500 := Aside0.mk ((by rw [hg]; exact Nat.ne_of_lt (blk_lt (bl_ BK475)) : gb475 ≠ gb500)); have NB500_475 := Aside0.mk ((by rw [hg]; exact Nat.ne_of_gt (blk_lt (bl_ BK475)) : gb500 ≠ gb475)); replace BK475 := Aside0.mk (blk_below (bl_ BK475) hb); have NB485_500 := Aside0.mk ((by rw [hg]; exact Nat.ne_of_lt (blk_lt (bl_ BK485)) : gb485 ≠ gb500)); have NB500_485 := Aside0.mk ((by rw [hg]; exact Nat.ne_of_gt (blk_lt (bl_ BK485)) : gb500 ≠ gb485)); replace BK485 := Aside0.mk (blk_below (bl_ BK485) hb); clear hb hbox hg; have hnb95 := NB500_453.out; have hnc95 := NB453_500.out; have hnb96 := NB500_461.out; have hnc96 := NB461_500.out; have hnb97 := NB500_468.out; have hnc97 := NB468_500.out; have hnb98 := NB500_475.out; have hnc98 := NB475_500.out; have hnb99 := NB500_485.out; have hnc99 := NB485_500.out; have hcz100_0 : w94.cell? ⟨gb500, 0, none⟩ = some (.bool false) := (blk_cell BK500.out 0).trans rfl; have hcz100_1 : w94.cell? ⟨gb500, 1, none⟩ = some (.slice none 0 0) := (blk_cell BK500.out 1).trans rfl; have hcz100_2 : w94.cell? ⟨gb500, 2, none⟩ = some (.int .i64 0) := (blk_cell BK500.out 2).trans rfl; have hfz100_0 := blk_frozen BK500.out 0; have hfz100_1 := blk_frozen BK500.out 1; have hfz100_2 := blk_frozen BK500.out 2; obtain ⟨Ao101, co101, eo101⟩ := Kd.R_slice HO497.out; subst eo101; have hnb102 := NB475_453.out; have hnc102 := NB453_475.out; have hnb103 := NB475_461.out; have hnc103 := NB461_475.out; have hnb104 := NB475_468.out; have hnc104 := NB468_475.out; have hnb105 := NB475_485.out; have hnc105 := NB485_475.out; have hcz106_0 : w94.cell? ⟨gb475, 0, none⟩ = some (.bool t469) := (blk_cell BK475.out 0).trans rfl; have hcz106_1 : w94.cell? ⟨gb475, 1, none⟩ = some (.slice Ao33 t470.length co33) := (blk_cell BK475.out 1).trans rfl; have hcz106_2 : w94.cell? ⟨gb475, 2, none⟩ = some (.int .i64 t473) := (blk_cell BK475.out 2).trans rfl; have hfz106_0 := blk_frozen BK475.out 0; have hfz106_1 := blk_frozen BK475.out 1; have hfz106_2 := blk_frozen BK475.out 2) | (go_at_call 33; (with_reducible refine (vernierlaw04_same.calls kj59 t469 _ _ t470 t473 t494 _ _ t495 t498 true _ ?side1 ?side2 ?side3 ?side4 A89.out).mono ?_); (case side1 => refine (Kd.R_reads' (e := 34) (base := w.heap.size) (ok := fun k_ => ((some k_ ≠ (.slice Ao19 t456.length co19 : Value).ownBlock ∧ (some k_ ≠ (.slice Ao26 t463.length co26 : Value).ownBlock ∧ some k_ ≠ (.slice Ao42 t480.length co42 : Value).ownBlock)) ∧ some k_ ≠ (.slice Ao101 t495.length co101 : Value).ownBlock)) (n := t470.length) (c := co33) ?_).2.2; exact (by (with_reducible repeat (first | apply Kd.R_alloc | apply Kd.R_drewN | apply Kd.R_drew)); exact (Kd.R_mono (Kd.R_far (p := ⟨gb500, 2, none⟩) (Kd.R_far (p := ⟨gb500, 1, none⟩) (Kd.R_far (p := ⟨gb500, 0, none⟩) (Kd.R_types HO_476001.out BK500.out (by decide)) (fun _ hk => hk.2) (.bool t494)) (fun _ hk => hk.2) (.slice Ao101 t495.length co101)) (fun _ hk => hk.2) (.int .i64 t498)) (fun _ h_ => h_.1)))); (case side2 => exact (Kd.R_reads' HO_476001.out).2.1); (case side3 => refine (Kd.R_reads' (e := 34) (base := w.heap.size) (ok := fun k_ => ((((True ∧ some k_ ≠ (.slice Ao19 t456.length co19 : Value).ownBlock) ∧ some k_ ≠ (.slice Ao26 t463.length co26 : Value).ownBlock) ∧ some k_ ≠ (.slice Ao33 t470.length co33 : Value).ownBlock) ∧ some k_ ≠ (.slice Ao42 t480.length co42 : Value).ownBlock)) (n := t495.length) (c := co101) ?_).2.2; exact (by (with_reducible repeat (first | apply Kd.R_alloc | apply Kd.R_drewN | apply Kd.R_drew)); exact (Kd.R_mono (Kd.R_far (p := ⟨gb500, 2, none⟩) (Kd.R_far (p := ⟨gb500, 1, none⟩) (Kd.R_far (p := ⟨gb500, 0, none⟩) (Kd.R_types HO497.out BK500.out (by decide)) (fun _ hk => hk.2) (.bool t494)) (fun _ hk => hk.2) (.slice Ao101 t495.length co101)) (fun _ hk => hk.2) (.int .i64 t498)) (fun _ h_ => h_.1)))); (case side4 => exact (Kd.R_reads' HO497.out).2.1); rintro e w107 ⟨rfl, hb⟩; replace HO_462001 := Aside0.mk (Kd.R_below (by (with_reducible repeat (first | apply Kd.R_alloc | apply Kd.R_drewN | apply Kd.R_drew)); exact (Kd.R_mono (Kd.R_far (p := ⟨gb500, 2, none⟩) (Kd.R_far (p := ⟨gb500, 1, none⟩) (Kd.R_far (p := ⟨gb500, 0, none⟩) (Kd.R_types HO_462001.out BK500.out (by decide)) (fun _ hk => hk.2) (.bool t494)) (fun _ hk => hk.2) (.slice Ao101 t495.length co101)) (fun _ hk => hk.2) (.int .i64 t498)) (fun _ h_ => h_.1))) hb); replace HO_469001 := Aside0.mk (Kd.R_below (by (with_reducible repeat (first | apply Kd.R_alloc | apply Kd.R_drewN | apply Kd.R_drew)); exact (Kd.R_mono (Kd.R_far (p := ⟨gb500, 2, none⟩) (Kd.R_far (p := ⟨gb500, 1, none⟩) (Kd.R_far (p := ⟨gb500, 0, none⟩) (Kd.R_types HO_469001.out BK500.out (by decide)) (fun _ hk => hk.2) (.bool t494)) (fun _ hk => hk.2) (.slice Ao101 t495.length co101)) (fun _ hk => hk.2) (.int .i64 t498)) (fun _ h_ => h_.1))) hb); replace HO_476001 := Aside0.mk (Kd.R_below (by (with_reducible repeat (first | apply Kd.R_alloc | apply Kd.R_drewN | apply Kd.R_drew)); exact (Kd.R_mono (Kd.R_far (p := ⟨gb500, 2, none⟩) (Kd.R_far (p := ⟨gb500, 1, none⟩) (Kd.R_far (p := ⟨gb500, 0, none⟩) (Kd.R_types HO_476001.out BK500.out (by decide)) (fun _ hk => hk.2) (.bool t494)) (fun _ hk => hk.2) (.slice Ao101 t495.length co101)) (fun _ hk => hk.2) (.int .i64 t498)) (fun _ h_ => h_.1))) hb); replace HO_486001 := Aside0.mk (Kd.R_below (by (with_reducible repeat (first | apply Kd.R_alloc | apply Kd.R_drewN | apply Kd.R_drew)); exact (Kd.R_mono (Kd.R_far (p := ⟨gb500, 2, none⟩) (Kd.R_far (p := ⟨gb500, 1, none⟩) (Kd.R_far (p := ⟨gb500, 0, none⟩) (Kd.R_types HO_486001.out BK500.out (by decide)) (fun _ hk => hk.2) (.bool t494)) (fun _ hk => hk.2) (.slice Ao101 t495.length co101)) (fun _ hk => hk.2) (.int .i64 t498)) (fun _ h_ => h_.1))) hb); replace HO493 := Aside0.mk (Kd.R_below (by (with_reducible repeat (first | apply Kd.R_alloc | apply Kd.R_drewN | apply Kd.R_drew)); exact (Kd.R_mono (Kd.R_far (p := ⟨gb500, 2, none⟩) (Kd.R_far (p := ⟨gb500, 1, none⟩) (Kd.R_far (p := ⟨gb500, 0, none⟩) (Kd.R_types HO493.out BK500.out (by decide)) (fun _ hk => hk.2) (.bool t494)) (fun _ hk => hk.2) (.slice Ao101 t495.length co101)) (fun _ hk => hk.2) (.int .i64 t498)) (fun _ h_ => h_.1))) hb); replace HO497 := Aside0.mk (Kd.R_below (by (with_reducible repeat (first | apply Kd.R_alloc | apply Kd.R_drewN | apply Kd.R_drew)); exact (Kd.R_mono (Kd.R_far (p := ⟨gb500, 2, none⟩) (Kd.R_far (p := ⟨gb500, 1, none⟩) (Kd.R_far (p := ⟨gb500, 0, none⟩) (Kd.R_types HO497.out BK500.out (by decide)) (fun _ hk => hk.2) (.bool t494)) (fun _ hk => hk.2) (.slice Ao101 t495.length co101)) (fun _ hk => hk.2) (.int .i64 t498)) (fun _ h_ => h_.1))) hb); replace BK453 := Aside0.mk (blk_below (g := gb453) (o := .cells #[.bool a0_0, .slice A0_1 l0_1.length c0_1, .int .i64 a0_2] 36 (0, 0)) (by (with_reducible repeat (first | refine blk_drewN ?_ _ | refine blk_drew ?_ | refine blk_alloc ?_ _)); refine blk_far ?_ NB453_500.out _; (with_reducible repeat (first | refine blk_drewN ?_ _ | refine blk_drew ?_ | refine blk_alloc ?_ _)); refine blk_far ?_ NB453_500.out _; (with_reducible repeat (first | refine blk_drewN ?_ _ | refine blk_drew ?_ | refine blk_alloc ?_ _)); refine blk_far ?_ NB453_500.out _; (with_reducible repeat (first | refine blk_drewN ?_ _ | refine blk_drew ?_ | refine blk_alloc ?_ _)); exact BK453.out) hb); replace BK461 := Aside0.mk (blk_below (g := gb461) (o := .cells #[.bool t455, .slice Ao19 t456.length co19, .int .i64 t459] 36 (0, 0)) (by (with_reducible repeat (first | refine blk_drewN ?_ _ | refine blk_drew ?_ | refine blk_alloc ?_ _)); refine blk_far ?_ NB461_500.out _; (with_reducible repeat (first | refine blk_drewN ?_ _ | refine blk_drew ?_ | refine blk_alloc ?_ _)); refine blk_far ?_ NB461_500.out _; (with_reducible repeat (first | refine blk_drewN ?_ _ | refine blk_drew ?_ | refine blk_alloc ?_ _)); refine blk_far ?_ NB461_500.out _; (with_reducible repeat (first | refine blk_drewN ?_ _ | refine blk_drew ?_ | refine blk_alloc ?_ _)); exact BK461.out) hb); replace BK468 := Aside0.mk (blk_below (g := gb468) (o := .cells #[.bool t462, .slice Ao26 t463.length co26, .int .i64 t466] 36 (0, 0)) (by (with_reducible repeat (first | refine blk_drewN ?_ _ | refine blk_drew ?_ | refine blk_alloc ?_ _)); refine blk_far ?_ NB468_500.out _; (with_reducible repeat (first | refine blk_drewN ?_ _ | refine blk_drew ?_ | refine blk_alloc ?_ _)); refine blk_far ?_ NB468_500.out _; (with_reducible repeat (first | refine blk_drewN ?_ _ | refine blk_drew ?_ | refine blk_alloc ?_ _)); refine blk_far ?_ NB468_500.out _; (with_reducible repeat (first | refine blk_drewN ?_ _ | refine blk_drew ?_ | refine blk_alloc ?_ _)); exact BK468.out) hb); replace BK475 := Aside0.mk (blk_below (g := gb475) (o := .cells #[.bool t469, .slice Ao33 t470.length co33, .int .i64 t473] 36 (0, 0)) (by (with_reducible repeat (first | refine blk_drewN ?_ _ | refine blk_drew ?_ | refine blk_alloc ?_ _)); refine blk_far ?_ NB475_500.out _; (with_reducible repeat (first | refine blk_drewN ?_ _ | refine blk_drew ?_ | refine blk_alloc ?_ _)); refine blk_far ?_ NB475_500.out _; (with_reducible repeat (first | refine blk_drewN ?_ _ | refine blk_drew ?_ | refine blk_alloc ?_ _)); refine blk_far ?_ NB475_500.out _; (with_reducible repeat (first | refine blk_drewN ?_ _ | refine blk_drew ?_ | refine blk_alloc ?_ _)); exact BK475.out) hb); replace BK485 := Aside0.mk (blk_below (g := gb485) (o := .cells #[.bool false, .slice Ao42 t480.length co42, .int .i64 t483] 36 (0, 0)) (by (with_reducible repeat (first | refine blk_drewN ?_ _ | refine blk_drew ?_ | refine blk_alloc ?_ _)); refine blk_far ?_ NB485_500.out _; (with_reducible repeat (first | refine blk_drewN ?_ _ | refine blk_drew ?_ | refine blk_alloc ?_ _)); refine blk_far ?_ NB485_500.out _; (with_reducible repeat (first | refine blk_drewN ?_ _ | refine blk_drew ?_ | refine blk_alloc ?_ _)); refine blk_far ?_ NB485_500.out _; (with_reducible repeat (first | refine blk_drewN ?_ _ | refine blk_drew ?_ | refine blk_alloc ?_ _)); exact BK485.out) hb); replace BK500 := Aside0.mk (blk_below (g := gb500) (o := .cells #[.bool t494, .slice Ao101 t495.length co101, .int .i64 t498] 36 (0, 0)) (by (with_reducible repeat (first | refine blk_drewN ?_ _ | refine blk_drew ?_ | refine blk_alloc ?_ _)); refine blk_put (cs := #[.bool t494, .slice Ao101 t495.length co101, .int .i64 0]) ?_ 2 _ rfl; (with_reducible repeat (first | refine blk_drewN ?_ _ | refine blk_drew ?_ | refine blk_alloc ?_ _)); refine blk_put (cs := #[.bool t494, .slice none 0 0, .int .i64 0]) ?_ 1 _ rfl; (with_reducible repeat (first | refine blk_drewN ?_ _ | refine blk_drew ?_ | refine blk_alloc ?_ _)); refine blk_put (cs := #[.bool false, .slice none 0 0, .int .i64 0]) ?_ 0 _ rfl; (with_reducible repeat (first | refine blk_drewN ?_ _ | refine blk_drew ?_ | refine blk_alloc ?_ _)); exact BK500.out) hb); replace HB := Aside0.mk (below_step (bw_ HB) hb); (try clear hb); (try clear hb2); (try clear hk); (try clear hi)))
                          go_ret
                          exact ⟨by first | rfl | (simp [errW_none, errW_some] <;> rfl) | (simp [*, errW_none, errW_some] <;> rfl), by repeat (first | (with_reducible first | exact HB.out | apply below_alloc | apply pw_below_drewN | apply below_drew1 | refine below_set ?_ GE453.out | refine below_set ?_ GE461.out | refine below_set ?_ GE468.out | refine below_set ?_ GE475.out | refine below_set ?_ GE485.out | refine below_set ?_ GE500.out) | exact HB.out)⟩
                        · replace c90 := Bool.eq_false_iff.mpr c90
                          subst c90
                          have H1 : (some false) = some r := by rw [if_neg (show ¬ (false = true) by decide)] at H; exact H
                          clear H
                          have H := H1
                          clear H1
                          exact absurd (Option.some.inj H) (by subst hT; decide)
                      · rw [if_neg c88] at H
                        have c88b0 : (t474 == 0) = false := beq_eq_false_iff_ne.mpr c88
                        have c88b1 : (t474 != 0) = true := bne_iff_ne.mpr c88
                        exact absurd (Option.some.inj H) (by subst hT; decide)
                    · replace c87 := Bool.eq_false_iff.mpr c87
                      subst c87
                      have H1 : (some (t474 == 4)) = some r := by rw [if_neg (show ¬ (false = true) by decide)] at H; exact H
                      clear H
                      have H := H1
                      clear H1
                      obtain rfl := Option.some.inj H
                      go_wp2_with (first | ((with_reducible refine gate_callee (f := 34) rfl ?_); refine gl_ (some 96) rfl rfl Tryd.func34 (by kernel_rfl) rfl #[.int .u64 (IntKind.u64.wrap (-(IntKind.u64.wrap (a1))))] rfl ?_; (with_reducible refine (vernierref01_Word.calls kj59 (IntKind.u64.wrap (-(IntKind.u64.wrap (a1)))) t491 _ A85.out).mono ?_); rintro e w108 ⟨v492, rfl, ho0, hb⟩; refine ⟨_, rfl, ?_⟩; replace HO_462001 := Aside0.mk (Kd.R_below (rl_ HO_462001) hb); replace HO_469001 := Aside0.mk (Kd.R_below (rl_ HO_469001) hb); replace HO_476001 := Aside0.mk (Kd.R_below (rl_ HO_476001) hb); replace HO_486001 := Aside0.mk (Kd.R_below (rl_ HO_486001) hb); have HO493 := Aside0.mk (Kd.R_lower ho0 (below_size (bw_ HB))); replace BK453 := Aside0.mk (blk_below (bl_ BK453) hb); replace BK461 := Aside0.mk (blk_below (bl_ BK461) hb); replace BK468 := Aside0.mk (blk_below (bl_ BK468) hb); replace BK475 := Aside0.mk (blk_below (bl_ BK475) hb); replace BK485 := Aside0.mk (blk_below (bl_ BK485) hb); replace HB := Aside0.mk (below_step (bw_ HB) hb); (try clear hb); (try clear hb2); (try clear hk); (try clear hi); (try clear ho0); obtain ⟨Ao109, co109, eo109⟩ := Kd.R_slice HO493.out; subst eo109) | ((with_reducible refine gate_callee (f := 28) rfl ?_); refine gl_ (some 98) rfl rfl Tryd.func28 (by kernel_rfl) rfl #[.bool true, .slice Ao109 t491.length co109, .int .i64 a2] rfl ?_; (with_reducible refine (vernierlaw04_told.calls kj59 true (fun k_ => some k_ = (.slice Ao109 t491.length co109 : Value).ownBlock) _ _ t491 a2 t494 t495 t498 false _ ?side1 A86.out).mono ?_); (case side1 => exact Kd.R_V (Kd.R_tight rfl (Kd.R_types (Kd.R_types (Kd.R_types (Kd.R_types (Kd.R_types (Kd.R_apart' (Kd.R_apart' (Kd.R_apart' (Kd.R_apart' (HO493.out) (Kd.R_typed HO_462001.out) (by decide)) (Kd.R_typed HO_469001.out) (by decide)) (Kd.R_typed HO_476001.out) (by decide)) (Kd.R_typed HO_486001.out) (by decide)) BK453.out (by decide)) BK461.out (by decide)) BK468.out (by decide)) BK475.out (by decide)) BK485.out (by decide)))); rintro e w110 ⟨v496, rfl, ho0, hb⟩; refine ⟨_, rfl, ?_⟩; replace HO493 := Aside0.mk (Kd.R_below (rl_ HO493) hb); have HO497 := Aside0.mk (Kd.R_lower (Kd.R_new' (Kd.R_new' (Kd.R_new' (Kd.R_new' (Kd.R_mono (ok' := fun k_ => True) ho0 (fun _ hk_ => trivial)) (Kd.R_lt (rl_ HO_462001))) (Kd.R_lt (rl_ HO_469001))) (Kd.R_lt (rl_ HO_476001))) (Kd.R_lt (rl_ HO_486001))) (below_size (bw_ HB))); replace HO_462001 := Aside0.mk (Kd.R_elder' (rl_ HO_462001) (Kd.R_base ho0) hb); replace HO_469001 := Aside0.mk (Kd.R_elder' (rl_ HO_469001) (Kd.R_base ho0) hb); replace HO_476001 := Aside0.mk (Kd.R_elder' (rl_ HO_476001) (Kd.R_base ho0) hb); replace HO_486001 := Aside0.mk (Kd.R_elder' (rl_ HO_486001) (Kd.R_base ho0) hb); replace BK453 := Aside0.mk (blk_below (bl_ BK453) hb); replace BK461 := Aside0.mk (blk_below (bl_ BK461) hb); replace BK468 := Aside0.mk (blk_below (bl_ BK468) hb); replace BK475 := Aside0.mk (blk_below (bl_ BK475) hb); replace BK485 := Aside0.mk (blk_below (bl_ BK485) hb); replace HB := Aside0.mk (below_step (bw_ HB) hb); (try clear hb); (try clear hb2); (try clear hk); (try clear hi); (try clear ho0)) | ((with_reducible refine gate_dst (N := 16) rfl ?_); refine box_event ?hg (N := 16) ?hd (cs := #[.bool false, .slice none 0 0, .int .i64 0]) (t := 36) ?hr ?_; (case hd => rfl); (case hg => rfl); (case hr => first | (go_simp; done) | (go_simp; rfl)); intro gb500 hg w111 hbox hb; replace HO_462001 := Aside0.mk (Kd.R_below (rl_ HO_462001) hb); replace HO_469001 := Aside0.mk (Kd.R_below (rl_ HO_469001) hb); replace HO_476001 := Aside0.mk (Kd.R_below (rl_ HO_476001) hb); replace HO_486001 := Aside0.mk (Kd.R_below (rl_ HO_486001) hb); replace HO493 := Aside0.mk (Kd.R_below (rl_ HO493) hb); replace HO497 := Aside0.mk (Kd.R_below (rl_ HO497) hb); have BK500 := Aside0.mk (hbox); have GW500 := Aside0.mk ((by rw [hg]; exact (below_size (bw_ HB)) : w.heap.size ≤ gb500)); have GE500 := Aside0.mk ((by rw [hg]; exact (below_size (bw_ HB)) : w.heap.size ≤ gb500)); replace HB := Aside0.mk (below_step (bw_ HB) hb); have NB453_500 := Aside0.mk ((by rw [hg]; exact Nat.ne_of_lt (blk_lt (bl_ BK453)) : gb453 ≠ gb500)); have NB500_453 := Aside0.mk ((by rw [hg]; exact Nat.ne_of_gt (blk_lt (bl_ BK453)) : gb500 ≠ gb453)); replace BK453 := Aside0.mk (blk_below (bl_ BK453) hb); have NB461_500 := Aside0.mk ((by rw [hg]; exact Nat.ne_of_lt (blk_lt (bl_ BK461)) : gb461 ≠ gb500)); have NB500_461 := Aside0.mk ((by rw [hg]; exact Nat.ne_of_gt (blk_lt (bl_ BK461)) : gb500 ≠ gb461)); replace BK461 := Aside0.mk (blk_below (bl_ BK461) hb); have NB468_500 := Aside0.mk ((by rw [hg]; exact Nat.ne_of_lt (blk_lt (bl_ BK468)) : gb468 ≠ gb500)); have NB500_468 := Aside0.mk ((by rw [hg]; exact Nat.ne_of_gt (blk_lt (bl_ BK468)) : gb500 ≠ gb468)); replace BK468 := Aside0.mk (blk_below (bl_ BK468) hb); have NB475_500 := Aside0.mk ((by rw [hg]; exact Nat.ne_of_lt (blk_lt (bl_ BK475)) : gb475 ≠ gb500)); have NB500_475 := Aside0.mk ((by rw [hg]; exact Nat.ne_of_gt (blk_lt (bl_ BK475)) : gb500 ≠ gb475)); replace BK475 := Aside0.mk (blk_below (bl_ BK475) hb); have NB485_500 := Aside0.mk ((by rw [hg]; exact Nat.ne_of_lt (blk_lt (bl_ BK485)) : gb485 ≠ gb500)); have NB500_485 := Aside0.mk ((by rw [hg]; exact Nat.ne_of_gt (blk_lt (bl_ BK485)) : gb500 ≠ gb485)); replace BK485 := Aside0.mk (blk_below (bl_ BK485) hb); clear hb hbox hg; have hnb112 := NB500_453.out; have hnc112 := NB453_500.out; have hnb113 := NB500_461.out; have hnc113 := NB461_500.out; have hnb114 := NB500_468.out; have hnc114 := NB468_500.out; have hnb115 := NB500_475.out; have hnc115 := NB475_500.out; have hnb116 := NB500_485.out; have hnc116 := NB485_500.out; have hcz117_0 : w111.cell? ⟨gb500, 0, none⟩ = some (.bool false) := (blk_cell BK500.out 0).trans rfl; have hcz117_1 : w111.cell? ⟨gb500, 1, none⟩ = some (.slice none 0 0) := (blk_cell BK500.out 1).trans rfl; have hcz117_2 : w111.cell? ⟨gb500, 2, none⟩ = some (.int .i64 0) := (blk_cell BK500.out 2).trans rfl; have hfz117_0 := blk_frozen BK500.out 0; have hfz117_1 := blk_frozen BK500.out 1; have hfz117_2 := blk_frozen BK500.out 2; obtain ⟨Ao118, co118, eo118⟩ := Kd.R_slice HO497.out; subst eo118))
                      go_ret
                      exact ⟨by first | rfl | (simp [errW_none, errW_some] <;> rfl) | (simp [*, errW_none, errW_some] <;> rfl), by repeat (first | (with_reducible first | exact HB.out | apply below_alloc | apply pw_below_drewN | apply below_drew1 | refine below_set ?_ GE453.out | refine below_set ?_ GE461.out | refine below_set ?_ GE468.out | refine below_set ?_ GE475.out | refine below_set ?_ GE485.out | refine below_set ?_ GE500.out) | exact HB.out)⟩
                  · rw [if_neg c84] at H
                    have c84b0 : decide (a1 < 0) = false := decide_eq_false c84
                    (try rw [c84b0] at H)
                    clear c84
                    replace H := Option.bind_eq_some_iff.mp H
                    obtain ⟨t502, A1190, H⟩ := H
                    replace H : ((vernierlaw04_told.f kj59 false t502 a2).bind fun bt505 => (if bt505.2.2.2 = true then (if t474 = 0 then ((vernierlaw04_same.f kj59 t469 t470 t473 bt505.1 bt505.2.1 bt505.2.2.1).bind fun t512 => (if t512 = true then (some true) else (some false))) else (some false)) else (some (t474 == 4)))) = some r := H
                    have A119 := Aside0.mk A1190
                    clear A1190
                    replace H := Option.bind_eq_some_iff.mp H
                    obtain ⟨⟨t505, t506, t509, t510⟩, A1200, H⟩ := H
                    replace H : (if t510 = true then (if t474 = 0 then ((vernierlaw04_same.f kj59 t469 t470 t473 t505 t506 t509).bind fun t512 => (if t512 = true then (some true) else (some false))) else (some false)) else (some (t474 == 4))) = some r := H
                    have A120 := Aside0.mk A1200
                    clear A1200
                    by_cases c121 : t510 = true
                    · subst c121
                      have H1 : (if t474 = 0 then ((vernierlaw04_same.f kj59 t469 t470 t473 t505 t506 t509).bind fun t512 => (if t512 = true then (some true) else (some false))) else (some false)) = some r := by rw [if_pos rfl] at H; exact H
                      clear H
                      have H := H1
                      clear H1
                      by_cases c122 : t474 = 0
                      · rw [if_pos c122] at H
                        have c122b0 : (t474 == 0) = true := beq_iff_eq.mpr c122
                        have c122b1 : (t474 != 0) = false := bne_eq_false_iff_eq.mpr c122
                        clear c122
                        replace H := Option.bind_eq_some_iff.mp H
                        obtain ⟨t512, A1230, H⟩ := H
                        replace H : (if t512 = true then (some true) else (some false)) = some r := H
                        have A123 := Aside0.mk A1230
                        clear A1230
                        by_cases c124 : t512 = true
                        · subst c124
                          have H1 : (some true) = some r := by rw [if_pos rfl] at H; exact H
                          clear H
                          have H := H1
                          clear H1
                          obtain rfl := Option.some.inj H
                          go_wp2_with (first | ((with_reducible refine gate_callee (f := 34) rfl ?_); refine gl_ (some 96) rfl rfl Tryd.func34 (by kernel_rfl) rfl #[.int .u64 (IntKind.u64.wrap (a1))] rfl ?_; (with_reducible refine (vernierref01_Word.calls kj59 (IntKind.u64.wrap (a1)) t502 _ A119.out).mono ?_); rintro e w125 ⟨v503, rfl, ho0, hb⟩; refine ⟨_, rfl, ?_⟩; replace HO_462001 := Aside0.mk (Kd.R_below (rl_ HO_462001) hb); replace HO_469001 := Aside0.mk (Kd.R_below (rl_ HO_469001) hb); replace HO_476001 := Aside0.mk (Kd.R_below (rl_ HO_476001) hb); replace HO_486001 := Aside0.mk (Kd.R_below (rl_ HO_486001) hb); have HO504 := Aside0.mk (Kd.R_lower ho0 (below_size (bw_ HB))); replace BK453 := Aside0.mk (blk_below (bl_ BK453) hb); replace BK461 := Aside0.mk (blk_below (bl_ BK461) hb); replace BK468 := Aside0.mk (blk_below (bl_ BK468) hb); replace BK475 := Aside0.mk (blk_below (bl_ BK475) hb); replace BK485 := Aside0.mk (blk_below (bl_ BK485) hb); replace HB := Aside0.mk (below_step (bw_ HB) hb); (try clear hb); (try clear hb2); (try clear hk); (try clear hi); (try clear ho0); obtain ⟨Ao126, co126, eo126⟩ := Kd.R_slice HO504.out; subst eo126) | ((with_reducible refine gate_callee (f := 28) rfl ?_); refine gl_ (some 98) rfl rfl Tryd.func28 (by kernel_rfl) rfl #[.bool false, .slice Ao126 t502.length co126, .int .i64 a2] rfl ?_; (with_reducible refine (vernierlaw04_told.calls kj59 false (fun k_ => some k_ = (.slice Ao126 t502.length co126 : Value).ownBlock) _ _ t502 a2 t505 t506 t509 true _ ?side1 A120.out).mono ?_); (case side1 => exact Kd.R_V (Kd.R_tight rfl (Kd.R_types (Kd.R_types (Kd.R_types (Kd.R_types (Kd.R_types (Kd.R_apart' (Kd.R_apart' (Kd.R_apart' (Kd.R_apart' (HO504.out) (Kd.R_typed HO_462001.out) (by decide)) (Kd.R_typed HO_469001.out) (by decide)) (Kd.R_typed HO_476001.out) (by decide)) (Kd.R_typed HO_486001.out) (by decide)) BK453.out (by decide)) BK461.out (by decide)) BK468.out (by decide)) BK475.out (by decide)) BK485.out (by decide)))); rintro e w127 ⟨v507, rfl, ho0, hb⟩; refine ⟨_, rfl, ?_⟩; replace HO504 := Aside0.mk (Kd.R_below (rl_ HO504) hb); have HO508 := Aside0.mk (Kd.R_lower (Kd.R_new' (Kd.R_new' (Kd.R_new' (Kd.R_new' (Kd.R_mono (ok' := fun k_ => True) ho0 (fun _ hk_ => trivial)) (Kd.R_lt (rl_ HO_462001))) (Kd.R_lt (rl_ HO_469001))) (Kd.R_lt (rl_ HO_476001))) (Kd.R_lt (rl_ HO_486001))) (below_size (bw_ HB))); replace HO_462001 := Aside0.mk (Kd.R_elder' (rl_ HO_462001) (Kd.R_base ho0) hb); replace HO_469001 := Aside0.mk (Kd.R_elder' (rl_ HO_469001) (Kd.R_base ho0) hb); replace HO_476001 := Aside0.mk (Kd.R_elder' (rl_ HO_476001) (Kd.R_base ho0) hb); replace HO_486001 := Aside0.mk (Kd.R_elder' (rl_ HO_486001) (Kd.R_base ho0) hb); replace BK453 := Aside0.mk (blk_below (bl_ BK453) hb); replace BK461 := Aside0.mk (blk_below (bl_ BK461) hb); replace BK468 := Aside0.mk (blk_below (bl_ BK468) hb); replace BK475 := Aside0.mk (blk_below (bl_ BK475) hb); replace BK485 := Aside0.mk (blk_below (bl_ BK485) hb); replace HB := Aside0.mk (below_step (bw_ HB) hb); (try clear hb); (try clear hb2); (try clear hk); (try clear hi); (try clear ho0)) | ((with_reducible refine gate_dst (N := 16) rfl ?_); refine box_event ?hg (N := 16) ?hd (cs := #[.bool false, .slice none 0 0, .int .i64 0]) (t := 36) ?hr ?_; (case hd => rfl); (case hg => rfl); (case hr => first | (go_simp; done) | (go_simp; rfl)); intro gb511 hg w128 hbox hb; replace HO_462001 := Aside0.mk (Kd.R_below (rl_ HO_462001) hb); replace HO_469001 := Aside0.mk (Kd.R_below (rl_ HO_469001) hb); replace HO_476001 := Aside0.mk (Kd.R_below (rl_ HO_476001) hb); replace HO_486001 := Aside0.mk (Kd.R_below (rl_ HO_486001) hb); replace HO504 := Aside0.mk (Kd.R_below (rl_ HO504) hb); replace HO508 := Aside0.mk (Kd.R_below (rl_ HO508) hb); have BK511 := Aside0.mk (hbox); have GW511 := Aside0.mk ((by rw [hg]; exact (below_size (bw_ HB)) : w.heap.size ≤ gb511)); have GE511 := Aside0.mk ((by rw [hg]; exact (below_size (bw_ HB)) : w.heap.size ≤ gb511)); replace HB := Aside0.mk (below_step (bw_ HB) hb); have NB453_511 := Aside0.mk ((by rw [hg]; exact Nat.ne_of_lt (blk_lt (bl_ BK453)) : gb453 ≠ gb511)); have NB511_453 := Aside0.mk ((by rw [hg]; exact Nat.ne_of_gt (blk_lt (bl_ BK453)) : gb511 ≠ gb453)); replace BK453 := Aside0.mk (blk_below (bl_ BK453) hb); have NB461_511 := Aside0.mk ((by rw [hg]; exact Nat.ne_of_lt (blk_lt (bl_ BK461)) : gb461 ≠ gb511)); have NB511_461 := Aside0.mk ((by rw [hg]; exact Nat.ne_of_gt (blk_lt (bl_ BK461)) : gb511 ≠ gb461)); replace BK461 := Aside0.mk (blk_below (bl_ BK461) hb); have NB468_511 := Aside0.mk ((by rw [hg]; exact Nat.ne_of_lt (blk_lt (bl_ BK468)) : gb468 ≠ gb511)); have NB511_468 := Aside0.mk ((by rw [hg]; exact Nat.ne_of_gt (blk_lt (bl_ BK468)) : gb511 ≠ gb468)); replace BK468 := Aside0.mk (blk_below (bl_ BK468) hb); have NB475_511 := Aside0.mk ((by rw [hg]; exact Nat.ne_of_lt (blk_lt (bl_ BK475)) : gb475 ≠ gb511)); have NB511_475 := Aside0.mk ((by rw [hg]; exact Nat.ne_of_gt (blk_lt (bl_ BK475)) : gb511 ≠ gb475)); replace BK475 := Aside0.mk (blk_below (bl_ BK475) hb); have NB485_511 := Aside0.mk ((by rw [hg]; exact Nat.ne_of_lt (blk_lt (bl_ BK485)) : gb485 ≠ gb511)); have NB511_485 := Aside0.mk ((by rw [hg]; exact Nat.ne_of_gt (blk_lt (bl_ BK485)) : gb511 ≠ gb485)); replace BK485 := Aside0.mk (blk_below (bl_ BK485) hb); clear hb hbox hg; have hnb129 := NB511_453.out; have hnc129 := NB453_511.out; have hnb130 := NB511_461.out; have hnc130 := NB461_511.out; have hnb131 := NB511_468.out; have hnc131 := NB468_511.out; have hnb132 := NB511_475.out; have hnc132 := NB475_511.out; have hnb133 := NB511_485.out; have hnc133 := NB485_511.out; have hcz134_0 : w128.cell? ⟨gb511, 0, none⟩ = some (.bool false) := (blk_cell BK511.out 0).trans rfl; have hcz134_1 : w128.cell? ⟨gb511, 1, none⟩ = some (.slice none 0 0) := (blk_cell BK511.out 1).trans rfl; have hcz134_2 : w128.cell? ⟨gb511, 2, none⟩ = some (.int .i64 0) := (blk_cell BK511.out 2).trans rfl; have hfz134_0 := blk_frozen BK511.out 0; have hfz134_1 := blk_frozen BK511.out 1; have hfz134_2 := blk_frozen BK511.out 2; obtain ⟨Ao135, co135, eo135⟩ := Kd.R_slice HO508.out; subst eo135; have hnb136 := NB475_453.out; have hnc136 := NB453_475.out; have hnb137 := NB475_461.out; have hnc137 := NB461_475.out; have hnb138 := NB475_468.out; have hnc138 := NB468_475.out; have hnb139 := NB475_485.out; have hnc139 := NB485_475.out; have hcz140_0 : w128.cell? ⟨gb475, 0, none⟩ = some (.bool t469) := (blk_cell BK475.out 0).trans rfl; have hcz140_1 : w128.cell? ⟨gb475, 1, none⟩ = some (.slice Ao33 t470.length co33) := (blk_cell BK475.out 1).trans rfl; have hcz140_2 : w128.cell? ⟨gb475, 2, none⟩ = some (.int .i64 t473) := (blk_cell BK475.out 2).trans rfl; have hfz140_0 := blk_frozen BK475.out 0; have hfz140_1 := blk_frozen BK475.out 1; have hfz140_2 := blk_frozen BK475.out 2) | (go_at_call 33; (with_reducible refine (vernierlaw04_same.calls kj59 t469 _ _ t470 t473 t505 _ _ t506 t509 true _ ?side1 ?side2 ?side3 ?side4 A123.out).mono ?_); (case side1 => refine (Kd.R_reads' (e := 34) (base := w.heap.size) (ok := fun k_ => ((some k_ ≠ (.slice Ao19 t456.length co19 : Value).ownBlock ∧ (some k_ ≠ (.slice Ao26 t463.length co26 : Value).ownBlock ∧ some k_ ≠ (.slice Ao42 t480.length co42 : Value).ownBlock)) ∧ some k_ ≠ (.slice Ao135 t506.length co135 : Value).ownBlock)) (n := t470.length) (c := co33) ?_).2.2; exact (by (with_reducible repeat (first | apply Kd.R_alloc | apply Kd.R_drewN | apply Kd.R_drew)); exact (Kd.R_mono (Kd.R_far (p := ⟨gb511, 2, none⟩) (Kd.R_far (p := ⟨gb511, 1, none⟩) (Kd.R_far (p := ⟨gb511, 0, none⟩) (Kd.R_types HO_476001.out BK511.out (by decide)) (fun _ hk => hk.2) (.bool t505)) (fun _ hk => hk.2) (.slice Ao135 t506.length co135)) (fun _ hk => hk.2) (.int .i64 t509)) (fun _ h_ => h_.1)))); (case side2 => exact (Kd.R_reads' HO_476001.out).2.1); (case side3 => refine (Kd.R_reads' (e := 34) (base := w.heap.size) (ok := fun k_ => ((((True ∧ some k_ ≠ (.slice Ao19 t456.length co19 : Value).ownBlock) ∧ some k_ ≠ (.slice Ao26 t463.length co26 : Value).ownBlock) ∧ some k_ ≠ (.slice Ao33 t470.length co33 : Value).ownBlock) ∧ some k_ ≠ (.slice Ao42 t480.length co42 : Value).ownBlock)) (n := t506.length) (c := co135) ?_).2.2; exact (by (with_reducible repeat (first | apply Kd.R_alloc | apply Kd.R_drewN | apply Kd.R_drew)); exact (Kd.R_mono (Kd.R_far (p := ⟨gb511, 2, none⟩) (Kd.R_far (p := ⟨gb511, 1, none⟩) (Kd.R_far (p := ⟨gb511, 0, none⟩) (Kd.R_types HO508.out BK511.out (by decide)) (fun _ hk => hk.2) (.bool t505)) (fun _ hk => hk.2) (.slice Ao135 t506.length co135)) (fun _ hk => hk.2) (.int .i64 t509)) (fun _ h_ => h_.1)))); (case side4 => exact (Kd.R_reads' HO508.out).2.1); rintro e w141 ⟨rfl, hb⟩; replace HO_462001 := Aside0.mk (Kd.R_below (by (with_reducible repeat (first | apply Kd.R_alloc | apply Kd.R_drewN | apply Kd.R_drew)); exact (Kd.R_mono (Kd.R_far (p := ⟨gb511, 2, none⟩) (Kd.R_far (p := ⟨gb511, 1, none⟩) (Kd.R_far (p := ⟨gb511, 0, none⟩) (Kd.R_types HO_462001.out BK511.out (by decide)) (fun _ hk => hk.2) (.bool t505)) (fun _ hk => hk.2) (.slice Ao135 t506.length co135)) (fun _ hk => hk.2) (.int .i64 t509)) (fun _ h_ => h_.1))) hb); replace HO_469001 := Aside0.mk (Kd.R_below (by (with_reducible repeat (first | apply Kd.R_alloc | apply Kd.R_drewN | apply Kd.R_drew)); exact (Kd.R_mono (Kd.R_far (p := ⟨gb511, 2, none⟩) (Kd.R_far (p := ⟨gb511, 1, none⟩) (Kd.R_far (p := ⟨gb511, 0, none⟩) (Kd.R_types HO_469001.out BK511.out (by decide)) (fun _ hk => hk.2) (.bool t505)) (fun _ hk => hk.2) (.slice Ao135 t506.length co135)) (fun _ hk => hk.2) (.int .i64 t509)) (fun _ h_ => h_.1))) hb); replace HO_476001 := Aside0.mk (Kd.R_below (by (with_reducible repeat (first | apply Kd.R_alloc | apply Kd.R_drewN | apply Kd.R_drew)); exact (Kd.R_mono (Kd.R_far (p := ⟨gb511, 2, none⟩) (Kd.R_far (p := ⟨gb511, 1, none⟩) (Kd.R_far (p := ⟨gb511, 0, none⟩) (Kd.R_types HO_476001.out BK511.out (by decide)) (fun _ hk => hk.2) (.bool t505)) (fun _ hk => hk.2) (.slice Ao135 t506.length co135)) (fun _ hk => hk.2) (.int .i64 t509)) (fun _ h_ => h_.1))) hb); replace HO_486001 := Aside0.mk (Kd.R_below (by (with_reducible repeat (first | apply Kd.R_alloc | apply Kd.R_drewN | apply Kd.R_drew)); exact (Kd.R_mono (Kd.R_far (p := ⟨gb511, 2, none⟩) (Kd.R_far (p := ⟨gb511, 1, none⟩) (Kd.R_far (p := ⟨gb511, 0, none⟩) (Kd.R_types HO_486001.out BK511.out (by decide)) (fun _ hk => hk.2) (.bool t505)) (fun _ hk => hk.2) (.slice Ao135 t506.length co135)) (fun _ hk => hk.2) (.int .i64 t509)) (fun _ h_ => h_.1))) hb); replace HO504 := Aside0.mk (Kd.R_below (by (with_reducible repeat (first | apply Kd.R_alloc | apply Kd.R_drewN | apply Kd.R_drew)); exact (Kd.R_mono (Kd.R_far (p := ⟨gb511, 2, none⟩) (Kd.R_far (p := ⟨gb511, 1, none⟩) (Kd.R_far (p := ⟨gb511, 0, none⟩) (Kd.R_types HO504.out BK511.out (by decide)) (fun _ hk => hk.2) (.bool t505)) (fun _ hk => hk.2) (.slice Ao135 t506.length co135)) (fun _ hk => hk.2) (.int .i64 t509)) (fun _ h_ => h_.1))) hb); replace HO508 := Aside0.mk (Kd.R_below (by (with_reducible repeat (first | apply Kd.R_alloc | apply Kd.R_drewN | apply Kd.R_drew)); exact (Kd.R_mono (Kd.R_far (p := ⟨gb511, 2, none⟩) (Kd.R_far (p := ⟨gb511, 1, none⟩) (Kd.R_far (p := ⟨gb511, 0, none⟩) (Kd.R_types HO508.out BK511.out (by decide)) (fun _ hk => hk.2) (.bool t505)) (fun _ hk => hk.2) (.slice Ao135 t506.length co135)) (fun _ hk => hk.2) (.int .i64 t509)) (fun _ h_ => h_.1))) hb); replace BK453 := Aside0.mk (blk_below (g := gb453) (o := .cells #[.bool a0_0, .slice A0_1 l0_1.length c0_1, .int .i64 a0_2] 36 (0, 0)) (by (with_reducible repeat (first | refine blk_drewN ?_ _ | refine blk_drew ?_ | refine blk_alloc ?_ _)); refine blk_far ?_ NB453_511.out _; (with_reducible repeat (first | refine blk_drewN ?_ _ | refine blk_drew ?_ | refine blk_alloc ?_ _)); refine blk_far ?_ NB453_511.out _; (with_reducible repeat (first | refine blk_drewN ?_ _ | refine blk_drew ?_ | refine blk_alloc ?_ _)); refine blk_far ?_ NB453_511.out _; (with_reducible repeat (first | refine blk_drewN ?_ _ | refine blk_drew ?_ | refine blk_alloc ?_ _)); exact BK453.out) hb); replace BK461 := Aside0.mk (blk_below (g := gb461) (o := .cells #[.bool t455, .slice Ao19 t456.length co19, .int .i64 t459] 36 (0, 0)) (by (with_reducible repeat (first | refine blk_drewN ?_ _ | refine blk_drew ?_ | refine blk_alloc ?_ _)); refine blk_far ?_ NB461_511.out _; (with_reducible repeat (first | refine blk_drewN ?_ _ | refine blk_drew ?_ | refine blk_alloc ?_ _)); refine blk_far ?_ NB461_511.out _; (with_reducible repeat (first | refine blk_drewN ?_ _ | refine blk_drew ?_ | refine blk_alloc ?_ _)); refine blk_far ?_ NB461_511.out _; (with_reducible repeat (first | refine blk_drewN ?_ _ | refine blk_drew ?_ | refine blk_alloc ?_ _)); exact BK461.out) hb); replace BK468 := Aside0.mk (blk_below (g := gb468) (o := .cells #[.bool t462, .slice Ao26 t463.length co26, .int .i64 t466] 36 (0, 0)) (by (with_reducible repeat (first | refine blk_drewN ?_ _ | refine blk_drew ?_ | refine blk_alloc ?_ _)); refine blk_far ?_ NB468_511.out _; (with_reducible repeat (first | refine blk_drewN ?_ _ | refine blk_drew ?_ | refine blk_alloc ?_ _)); refine blk_far ?_ NB468_511.out _; (with_reducible repeat (first | refine blk_drewN ?_ _ | refine blk_drew ?_ | refine blk_alloc ?_ _)); refine blk_far ?_ NB468_511.out _; (with_reducible repeat (first | refine blk_drewN ?_ _ | refine blk_drew ?_ | refine blk_alloc ?_ _)); exact BK468.out) hb); replace BK475 := Aside0.mk (blk_below (g := gb475) (o := .cells #[.bool t469, .slice Ao33 t470.length co33, .int .i64 t473] 36 (0, 0)) (by (with_reducible repeat (first | refine blk_drewN ?_ _ | refine blk_drew ?_ | refine blk_alloc ?_ _)); refine blk_far ?_ NB475_511.out _; (with_reducible repeat (first | refine blk_drewN ?_ _ | refine blk_drew ?_ | refine blk_alloc ?_ _)); refine blk_far ?_ NB475_511.out _; (with_reducible repeat (first | refine blk_drewN ?_ _ | refine blk_drew ?_ | refine blk_alloc ?_ _)); refine blk_far ?_ NB475_511.out _; (with_reducible repeat (first | refine blk_drewN ?_ _ | refine blk_drew ?_ | refine blk_alloc ?_ _)); exact BK475.out) hb); replace BK485 := Aside0.mk (blk_below (g := gb485) (o := .cells #[.bool false, .slice Ao42 t480.length co42, .int .i64 t483] 36 (0, 0)) (by (with_reducible repeat (first | refine blk_drewN ?_ _ | refine blk_drew ?_ | refine blk_alloc ?_ _)); refine blk_far ?_ NB485_511.out _; (with_reducible repeat (first | refine blk_drewN ?_ _ | refine blk_drew ?_ | refine blk_alloc ?_ _)); refine blk_far ?_ NB485_511.out _; (with_reducible repeat (first | refine blk_drewN ?_ _ | refine blk_drew ?_ | refine blk_alloc ?_ _)); refine blk_far ?_ NB485_511.out _; (with_reducible repeat (first | refine blk_drewN ?_ _ | refine blk_drew ?_ | refine blk_alloc ?_ _)); exact BK485.out) hb); replace BK511 := Aside0.mk (blk_below (g := gb511) (o := .cells #[.bool t505, .slice Ao135 t506.length co135, .int .i64 t509] 36 (0, 0)) (by (with_reducible repeat (first | refine blk_drewN ?_ _ | refine blk_drew ?_ | refine blk_alloc ?_ _)); refine blk_put (cs := #[.bool t505, .slice Ao135 t506.length co135, .int .i64 0]) ?_ 2 _ rfl; (with_reducible repeat (first | refine blk_drewN ?_ _ | refine blk_drew ?_ | refine blk_alloc ?_ _)); refine blk_put (cs := #[.bool t505, .slice none 0 0, .int .i64 0]) ?_ 1 _ rfl; (with_reducible repeat (first | refine blk_drewN ?_ _ | refine blk_drew ?_ | refine blk_alloc ?_ _)); refine blk_put (cs := #[.bool false, .slice none 0 0, .int .i64 0]) ?_ 0 _ rfl; (with_reducible repeat (first | refine blk_drewN ?_ _ | refine blk_drew ?_ | refine blk_alloc ?_ _)); exact BK511.out) hb); replace HB := Aside0.mk (below_step (bw_ HB) hb); (try clear hb); (try clear hb2); (try clear hk); (try clear hi)))
                          go_ret
                          exact ⟨by first | rfl | (simp [errW_none, errW_some] <;> rfl) | (simp [*, errW_none, errW_some] <;> rfl), by repeat (first | (with_reducible first | exact HB.out | apply below_alloc | apply pw_below_drewN | apply below_drew1 | refine below_set ?_ GE453.out | refine below_set ?_ GE461.out | refine below_set ?_ GE468.out | refine below_set ?_ GE475.out | refine below_set ?_ GE485.out | refine below_set ?_ GE511.out) | exact HB.out)⟩
                        · replace c124 := Bool.eq_false_iff.mpr c124
                          subst c124
                          have H1 : (some false) = some r := by rw [if_neg (show ¬ (false = true) by decide)] at H; exact H
                          clear H
                          have H := H1
                          clear H1
                          exact absurd (Option.some.inj H) (by subst hT; decide)
                      · rw [if_neg c122] at H
                        have c122b0 : (t474 == 0) = false := beq_eq_false_iff_ne.mpr c122
                        have c122b1 : (t474 != 0) = true := bne_iff_ne.mpr c122
                        exact absurd (Option.some.inj H) (by subst hT; decide)
                    · replace c121 := Bool.eq_false_iff.mpr c121
                      subst c121
                      have H1 : (some (t474 == 4)) = some r := by rw [if_neg (show ¬ (false = true) by decide)] at H; exact H
                      clear H
                      have H := H1
                      clear H1
                      obtain rfl := Option.some.inj H
                      go_wp2_with (first | ((with_reducible refine gate_callee (f := 34) rfl ?_); refine gl_ (some 96) rfl rfl Tryd.func34 (by kernel_rfl) rfl #[.int .u64 (IntKind.u64.wrap (a1))] rfl ?_; (with_reducible refine (vernierref01_Word.calls kj59 (IntKind.u64.wrap (a1)) t502 _ A119.out).mono ?_); rintro e w142 ⟨v503, rfl, ho0, hb⟩; refine ⟨_, rfl, ?_⟩; replace HO_462001 := Aside0.mk (Kd.R_below (rl_ HO_462001) hb); replace HO_469001 := Aside0.mk (Kd.R_below (rl_ HO_469001) hb); replace HO_476001 := Aside0.mk (Kd.R_below (rl_ HO_476001) hb); replace HO_486001 := Aside0.mk (Kd.R_below (rl_ HO_486001) hb); have HO504 := Aside0.mk (Kd.R_lower ho0 (below_size (bw_ HB))); replace BK453 := Aside0.mk (blk_below (bl_ BK453) hb); replace BK461 := Aside0.mk (blk_below (bl_ BK461) hb); replace BK468 := Aside0.mk (blk_below (bl_ BK468) hb); replace BK475 := Aside0.mk (blk_below (bl_ BK475) hb); replace BK485 := Aside0.mk (blk_below (bl_ BK485) hb); replace HB := Aside0.mk (below_step (bw_ HB) hb); (try clear hb); (try clear hb2); (try clear hk); (try clear hi); (try clear ho0); obtain ⟨Ao143, co143, eo143⟩ := Kd.R_slice HO504.out; subst eo143) | ((with_reducible refine gate_callee (f := 28) rfl ?_); refine gl_ (some 98) rfl rfl Tryd.func28 (by kernel_rfl) rfl #[.bool false, .slice Ao143 t502.length co143, .int .i64 a2] rfl ?_; (with_reducible refine (vernierlaw04_told.calls kj59 false (fun k_ => some k_ = (.slice Ao143 t502.length co143 : Value).ownBlock) _ _ t502 a2 t505 t506 t509 false _ ?side1 A120.out).mono ?_); (case side1 => exact Kd.R_V (Kd.R_tight rfl (Kd.R_types (Kd.R_types (Kd.R_types (Kd.R_types (Kd.R_types (Kd.R_apart' (Kd.R_apart' (Kd.R_apart' (Kd.R_apart' (HO504.out) (Kd.R_typed HO_462001.out) (by decide)) (Kd.R_typed HO_469001.out) (by decide)) (Kd.R_typed HO_476001.out) (by decide)) (Kd.R_typed HO_486001.out) (by decide)) BK453.out (by decide)) BK461.out (by decide)) BK468.out (by decide)) BK475.out (by decide)) BK485.out (by decide)))); rintro e w144 ⟨v507, rfl, ho0, hb⟩; refine ⟨_, rfl, ?_⟩; replace HO504 := Aside0.mk (Kd.R_below (rl_ HO504) hb); have HO508 := Aside0.mk (Kd.R_lower (Kd.R_new' (Kd.R_new' (Kd.R_new' (Kd.R_new' (Kd.R_mono (ok' := fun k_ => True) ho0 (fun _ hk_ => trivial)) (Kd.R_lt (rl_ HO_462001))) (Kd.R_lt (rl_ HO_469001))) (Kd.R_lt (rl_ HO_476001))) (Kd.R_lt (rl_ HO_486001))) (below_size (bw_ HB))); replace HO_462001 := Aside0.mk (Kd.R_elder' (rl_ HO_462001) (Kd.R_base ho0) hb); replace HO_469001 := Aside0.mk (Kd.R_elder' (rl_ HO_469001) (Kd.R_base ho0) hb); replace HO_476001 := Aside0.mk (Kd.R_elder' (rl_ HO_476001) (Kd.R_base ho0) hb); replace HO_486001 := Aside0.mk (Kd.R_elder' (rl_ HO_486001) (Kd.R_base ho0) hb); replace BK453 := Aside0.mk (blk_below (bl_ BK453) hb); replace BK461 := Aside0.mk (blk_below (bl_ BK461) hb); replace BK468 := Aside0.mk (blk_below (bl_ BK468) hb); replace BK475 := Aside0.mk (blk_below (bl_ BK475) hb); replace BK485 := Aside0.mk (blk_below (bl_ BK485) hb); replace HB := Aside0.mk (below_step (bw_ HB) hb); (try clear hb); (try clear hb2); (try clear hk); (try clear hi); (try clear ho0)) | ((with_reducible refine gate_dst (N := 16) rfl ?_); refine box_event ?hg (N := 16) ?hd (cs := #[.bool false, .slice none 0 0, .int .i64 0]) (t := 36) ?hr ?_; (case hd => rfl); (case hg => rfl); (case hr => first | (go_simp; done) | (go_simp; rfl)); intro gb511 hg w145 hbox hb; replace HO_462001 := Aside0.mk (Kd.R_below (rl_ HO_462001) hb); replace HO_469001 := Aside0.mk (Kd.R_below (rl_ HO_469001) hb); replace HO_476001 := Aside0.mk (Kd.R_below (rl_ HO_476001) hb); replace HO_486001 := Aside0.mk (Kd.R_below (rl_ HO_486001) hb); replace HO504 := Aside0.mk (Kd.R_below (rl_ HO504) hb); replace HO508 := Aside0.mk (Kd.R_below (rl_ HO508) hb); have BK511 := Aside0.mk (hbox); have GW511 := Aside0.mk ((by rw [hg]; exact (below_size (bw_ HB)) : w.heap.size ≤ gb511)); have GE511 := Aside0.mk ((by rw [hg]; exact (below_size (bw_ HB)) : w.heap.size ≤ gb511)); replace HB := Aside0.mk (below_step (bw_ HB) hb); have NB453_511 := Aside0.mk ((by rw [hg]; exact Nat.ne_of_lt (blk_lt (bl_ BK453)) : gb453 ≠ gb511)); have NB511_453 := Aside0.mk ((by rw [hg]; exact Nat.ne_of_gt (blk_lt (bl_ BK453)) : gb511 ≠ gb453)); replace BK453 := Aside0.mk (blk_below (bl_ BK453) hb); have NB461_511 := Aside0.mk ((by rw [hg]; exact Nat.ne_of_lt (blk_lt (bl_ BK461)) : gb461 ≠ gb511)); have NB511_461 := Aside0.mk ((by rw [hg]; exact Nat.ne_of_gt (blk_lt (bl_ BK461)) : gb511 ≠ gb461)); replace BK461 := Aside0.mk (blk_below (bl_ BK461) hb); have NB468_511 := Aside0.mk ((by rw [hg]; exact Nat.ne_of_lt (blk_lt (bl_ BK468)) : gb468 ≠ gb511)); have NB511_468 := Aside0.mk ((by rw [hg]; exact Nat.ne_of_gt (blk_lt (bl_ BK468)) : gb511 ≠ gb468)); replace BK468 := Aside0.mk (blk_below (bl_ BK468) hb); have NB475_511 := Aside0.mk ((by rw [hg]; exact Nat.ne_of_lt (blk_lt (bl_ BK475)) : gb475 ≠ gb511)); have NB511_475 := Aside0.mk ((by rw [hg]; exact Nat.ne_of_gt (blk_lt (bl_ BK475)) : gb511 ≠ gb475)); replace BK475 := Aside0.mk (blk_below (bl_ BK475) hb); have NB485_511 := Aside0.mk ((by rw [hg]; exact Nat.ne_of_lt (blk_lt (bl_ BK485)) : gb485 ≠ gb511)); have NB511_485 := Aside0.mk ((by rw [hg]; exact Nat.ne_of_gt (blk_lt (bl_ BK485)) : gb511 ≠ gb485)); replace BK485 := Aside0.mk (blk_below (bl_ BK485) hb); clear hb hbox hg; have hnb146 := NB511_453.out; have hnc146 := NB453_511.out; have hnb147 := NB511_461.out; have hnc147 := NB461_511.out; have hnb148 := NB511_468.out; have hnc148 := NB468_511.out; have hnb149 := NB511_475.out; have hnc149 := NB475_511.out; have hnb150 := NB511_485.out; have hnc150 := NB485_511.out; have hcz151_0 : w145.cell? ⟨gb511, 0, none⟩ = some (.bool false) := (blk_cell BK511.out 0).trans rfl; have hcz151_1 : w145.cell? ⟨gb511, 1, none⟩ = some (.slice none 0 0) := (blk_cell BK511.out 1).trans rfl; have hcz151_2 : w145.cell? ⟨gb511, 2, none⟩ = some (.int .i64 0) := (blk_cell BK511.out 2).trans rfl; have hfz151_0 := blk_frozen BK511.out 0; have hfz151_1 := blk_frozen BK511.out 1; have hfz151_2 := blk_frozen BK511.out 2; obtain ⟨Ao152, co152, eo152⟩ := Kd.R_slice HO508.out; subst eo152))
                      go_ret
                      exact ⟨by first | rfl | (simp [errW_none, errW_some] <;> rfl) | (simp [*, errW_none, errW_some] <;> rfl), by repeat (first | (with_reducible first | exact HB.out | apply below_alloc | apply pw_below_drewN | apply below_drew1 | refine below_set ?_ GE453.out | refine below_set ?_ GE461.out | refine below_set ?_ GE468.out | refine below_set ?_ GE475.out | refine below_set ?_ GE485.out | refine below_set ?_ GE511.out) | exact HB.out)⟩
          · replace c59 := Bool.eq_false_iff.mpr c59
            subst c59
            have H1 : (some false) = some r := by rw [if_neg (show ¬ (false = true) by decide)] at H; exact H
            clear H
            have H := H1
            clear H1
            exact absurd (Option.some.inj H) (by subst hT; decide)
  · replace c5 := Bool.eq_false_iff.mpr c5
    subst c5
    have H1 : (some false) = some r := by rw [if_neg (show ¬ (false = true) by decide)] at H; exact H
    clear H
    have H := H1
    clear H1
    exact absurd (Option.some.inj H) (by subst hT; decide)
end Go.Proofs.YtjgdpjbkmcjbcaaDoor.PG
