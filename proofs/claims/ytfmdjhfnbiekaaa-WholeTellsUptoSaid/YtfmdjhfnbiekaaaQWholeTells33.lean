/- Contracts of Go functions: each call answers what the Lean function of its name answers. Written by a program of this session (vprint.py) round the print of the kit. -/
import Derived.Test.YtfmdjhfnbiekaaaQWholeTells12
import Derived.Test.YtfmdjhfnbiekaaaQWholeTells13
import Derived.Test.YtfmdjhfnbiekaaaQWholeTells14
import Derived.Test.YtfmdjhfnbiekaaaQWholeTells15
import Derived.Test.YtfmdjhfnbiekaaaQWholeTells24
import Derived.Test.YtfmdjhfnbiekaaaQWholeTells25
import Derived.Test.YtfmdjhfnbiekaaaQWholeTells28
import Derived.Test.YtfmdjhfnbiekaaaQWholeTells31
import Derived.Test.YtfmdjhfnbiekaaaQWholeTells32
namespace Go.Proofs.Ytfmdjhfnbiekaaa.PW
open Go.RowKit Go.Proofs.YtfmdjhfnbiekaaaW.PrintWords Go.Proofs.YtfmdjhfnbiekaaaW.PrintLast Go.Proofs.YtfmdjhfnbiekaaaW.PrintMore
attribute [local go_sem] max2_int min2_int max_two min_two max_three min_three max_four min_four
set_option linter.unusedVariables false
set_option linter.unusedSimpArgs false
def vernierlaw03_WholeTells.j0 : Nat → Int → List Int → List Int → Int → Int → Bool → List Int → Bool → List Int → Bool → List Int → Bool → List Int → Bool → List Int → Option (Bool)
  | 0, _, _, _, _, _, _, _, _, _, _, _, _, _, _, _ => none
  | k + 1, x2, x7, x8, x14, x15, x357000, x357001, x358000, x358001, x381000, x381001, x392000, x392001, x415000, x415001 => (vernierref01_Word.f k x15).bind fun t422 => ((vernierref01_Limbs.f k t422).bind fun t425 => ((whole_Add.f k x357000 x357001 x358000 x358001).bind fun bt429 => ((vernierlaw03_same.f k bt429.1 bt429.2 x381000 x381001).bind fun t433 => (if t433 = true then ((whole_Sub.f k x357000 x357001 x358000 x358001).bind fun bt434 => ((vernierlaw03_same.f k bt434.1 bt434.2 x392000 x392001).bind fun t438 => (if t438 = true then ((whole_Mul.f k x357000 x357001 x358000 x358001).bind fun bt439 => ((vernierlaw03_same.f k bt439.1 bt439.2 x415000 x415001).bind fun t443 => (if t443 = true then ((whole_Cmp.f k x357000 x357001 x358000 x358001).bind fun t444 => (if t444 = x14 then ((whole_Sign.f k x357000 x357001).bind fun t445 => ((vernierref01_Cmp.f k x7 x8).bind fun t446 => (if t445 = t446 then ((whole_Norm.f k x357000 x357001).bind fun bt447 => ((vernierlaw03_made.f k x7 x8).bind fun bt451 => ((vernierlaw03_same.f k bt447.1 bt447.2 bt451.1 bt451.2).bind fun t455 => (if t455 = true then ((whole_Neg.f k x357000 x357001).bind fun bt456 => ((vernierlaw03_made.f k x8 x7).bind fun bt460 => ((vernierlaw03_same.f k bt456.1 bt456.2 bt460.1 bt460.2).bind fun t464 => (if t464 = true then ((whole_Of.f k x2).bind fun bt465 => ((vernierlaw03_same.f k bt465.1 bt465.2 (decide (x2 < 0)) t425).bind fun t469 => (if t469 = true then ((vernierlaw03_alive.f k).bind fun t470 => (some t470)) else (some false)))) else (some false))))) else (some false))))) else (some false)))) else (some false))) else (some false)))) else (some false)))) else (some false)))))
def vernierlaw03_WholeTells.f (k : Nat) (a0_0 : Bool) (l0_1 : List Int) (a1_0 : Bool) (l1_1 : List Int) (a2 : Int) : Option (Bool) := (vernierlaw03_parts.f k a0_0 l0_1).bind fun bt358 => ((vernierlaw03_parts.f k a1_0 l1_1).bind fun bt364 => ((vernierref01_Add.f k bt358.1 bt364.1).bind fun t370 => ((vernierref01_Add.f k bt358.2 bt364.2).bind fun t373 => ((vernierlaw03_made.f k t370 t373).bind fun bt376 => ((vernierref01_Add.f k bt358.1 bt364.2).bind fun t381 => ((vernierref01_Add.f k bt358.2 bt364.1).bind fun t384 => ((vernierlaw03_made.f k t381 t384).bind fun bt387 => ((vernierref01_Mul.f k bt358.1 bt364.1).bind fun t392 => ((vernierref01_Mul.f k bt358.2 bt364.2).bind fun t395 => ((vernierref01_Add.f k t392 t395).bind fun t398 => ((vernierref01_Mul.f k bt358.1 bt364.2).bind fun t401 => ((vernierref01_Mul.f k bt358.2 bt364.1).bind fun t404 => ((vernierref01_Add.f k t401 t404).bind fun t407 => ((vernierlaw03_made.f k t398 t407).bind fun bt410 => ((vernierref01_Add.f k bt358.1 bt364.2).bind fun t415 => ((vernierref01_Add.f k bt358.2 bt364.1).bind fun t418 => ((vernierref01_Cmp.f k t415 t418).bind fun t421 => (if a2 < 0 then (vernierlaw03_WholeTells.j0 k a2 bt358.1 bt358.2 t421 (IntKind.u64.wrap (-(IntKind.u64.wrap (a2)))) a0_0 l0_1 a1_0 l1_1 bt376.1 bt376.2 bt387.1 bt387.2 bt410.1 bt410.2) else (vernierlaw03_WholeTells.j0 k a2 bt358.1 bt358.2 t421 (IntKind.u64.wrap (a2)) a0_0 l0_1 a1_0 l1_1 bt376.1 bt376.2 bt387.1 bt387.2 bt410.1 bt410.2)))))))))))))))))))
def vernierlaw03_WholeTells.T11 : Bool × List (List Nat × List Nat) := (true, [([], []), ([], []), ([0, 1], [0, 1]), ([], []), ([2, 3, 2], [2, 3]), ([4, 4], [4]), ([5], [5]), ([5], [5]), ([6, 7, 5, 5], [5, 6, 7]), ([5], [5]), ([8, 9, 8, 5], [5, 8, 9]), ([5, 10], [5, 10]), ([11, 10], [11]), ([12], [12]), ([12], [12]), ([13, 14, 12, 12], [12, 13, 14]), ([12], [12]), ([15, 16, 15, 12], [12, 15, 16]), ([12, 17], [12, 17]), ([18, 17], [18]), ([19], [19]), ([19], [19]), ([20, 21, 19, 19], [19, 20, 21]), ([19], [19]), ([22, 23, 19], [19, 22, 23]), ([19, 24], [19, 24]), ([25, 22], [25]), ([26], [26]), ([27, 26, 26], [26, 27]), ([26], [26]), ([26], [26]), ([29, 30, 28, 26], [26, 29, 30]), ([28, 31, 26], [26, 28, 31]), ([26, 32], [26, 32]), ([33, 31], [33]), ([34], [34]), ([35, 34, 34], [34, 35]), ([34], [34]), ([34], [34]), ([37, 38, 36, 34], [34, 37, 38]), ([36, 39, 39, 34], [34, 36, 39]), ([34, 40], [34, 40]), ([41, 40], [41]), ([42], [42]), ([43, 42, 42], [42, 43]), ([42], [42]), ([42], [42]), ([45, 46, 44, 42], [42, 45, 46]), ([44, 47, 47, 42], [42, 44, 47]), ([42, 48], [42, 48]), ([49, 48], [49]), ([50], [50]), ([51, 50, 50], [50, 51]), ([50], [50]), ([52, 53, 52, 50], [50, 52, 53]), ([50, 54], [50, 54]), ([55, 54], [55]), ([56, 56], [56]), ([56, 57], [56, 57]), ([58, 57, 0, 1, 2, 3, 4, 5, 6, 7, 8, 9, 10, 11, 12, 13, 14, 15, 16, 17, 18, 19, 20, 21, 22, 23, 24, 25, 26, 27, 28, 29, 30, 31, 32, 33, 34, 35, 36, 37, 38, 39, 40, 41, 42, 43, 44, 45, 46, 47, 48, 49, 50, 51, 52, 53, 54, 55, 56, 57, 58], [58])])
def vernierlaw03_WholeTells.B11 : List Nat := [0, 0, 3, 0, 15, 31, 63, 63, 255, 63, 1023, 2047, 4095, 8191, 8191, 32767, 8191, 131071, 262143, 524287, 1048575, 1048575, 4194303, 1048575, 16777215, 33554431, 67108863, 134217727, 268435455, 134217727, 134217727, 2147483647, 4294967295, 8589934591, 17179869183, 34359738367, 68719476735, 34359738367, 34359738367, 549755813887, 1099511627775, 2199023255551, 4398046511103, 8796093022207, 17592186044415, 8796093022207, 8796093022207, 140737488355327, 281474976710655, 562949953421311, 1125899906842623, 2251799813685247, 4503599627370495, 2251799813685247, 18014398509481983, 36028797018963967, 72057594037927935, 144115188075855871, 288230376151711743, 576460752303423487]
theorem vernierlaw03_WholeTells.tab11 : rtab .any (opsOf Try.f3 11) = vernierlaw03_WholeTells.T11 := by kernel_rfl
theorem vernierlaw03_WholeTells.bits11 : waitsOk vernierlaw03_WholeTells.T11.2 vernierlaw03_WholeTells.B11 = true := by kernel_rfl
set_option maxHeartbeats 8000000 in
set_option maxRecDepth 100000 in
theorem vernierlaw03_WholeTells.calls (k : Nat) (a0_0 : Bool) (A0_1 : Option Addr) (c0_1 : Nat) (l0_1 : List Int) (a1_0 : Bool) (A1_1 : Option Addr) (c1_1 : Nat) (l1_1 : List Int) (a2 : Int) (r : Bool) (w : World) (hr0_1 : Kd.C (Kd.int .u64) w A0_1 l0_1.length l0_1) (hc0_1 : l0_1.length ≤ c0_1) (hr1_1 : Kd.C (Kd.int .u64) w A1_1 l1_1.length l1_1) (hc1_1 : l1_1.length ≤ c1_1) (h : vernierlaw03_WholeTells.f k a0_0 l0_1 a1_0 l1_1 a2 = some r) (hT : r = true := by rfl) :
    Calls Try.prog 3 #[.agg #[.bool a0_0, .slice A0_1 l0_1.length c0_1], .agg #[.bool a1_0, .slice A1_1 l1_1.length c1_1], .int .i64 a2] w fun e w' => e = .returned (.bool r) ∧ Below w.heap.size w w' := by
  have hu24 := Try.underlying24
  have HR0_1 := Aside0.mk hr0_1
  have HC0_1 := Aside0.mk hc0_1
  clear hr0_1 hc0_1
  have HR1_1 := Aside0.mk hr1_1
  have HC1_1 := Aside0.mk hc1_1
  clear hr1_1 hc1_1
  have HB := Aside0.mk (Below.refl w.heap.size w)
  have H : ((vernierlaw03_parts.f k a0_0 l0_1).bind fun bt358 => ((vernierlaw03_parts.f k a1_0 l1_1).bind fun bt364 => ((vernierref01_Add.f k bt358.1 bt364.1).bind fun t370 => ((vernierref01_Add.f k bt358.2 bt364.2).bind fun t373 => ((vernierlaw03_made.f k t370 t373).bind fun bt376 => ((vernierref01_Add.f k bt358.1 bt364.2).bind fun t381 => ((vernierref01_Add.f k bt358.2 bt364.1).bind fun t384 => ((vernierlaw03_made.f k t381 t384).bind fun bt387 => ((vernierref01_Mul.f k bt358.1 bt364.1).bind fun t392 => ((vernierref01_Mul.f k bt358.2 bt364.2).bind fun t395 => ((vernierref01_Add.f k t392 t395).bind fun t398 => ((vernierref01_Mul.f k bt358.1 bt364.2).bind fun t401 => ((vernierref01_Mul.f k bt358.2 bt364.1).bind fun t404 => ((vernierref01_Add.f k t401 t404).bind fun t407 => ((vernierlaw03_made.f k t398 t407).bind fun bt410 => ((vernierref01_Add.f k bt358.1 bt364.2).bind fun t415 => ((vernierref01_Add.f k bt358.2 bt364.1).bind fun t418 => ((vernierref01_Cmp.f k t415 t418).bind fun t421 => (if a2 < 0 then (vernierlaw03_WholeTells.j0 k a2 bt358.1 bt358.2 t421 (IntKind.u64.wrap (-(IntKind.u64.wrap (a2)))) a0_0 l0_1 a1_0 l1_1 bt376.1 bt376.2 bt387.1 bt387.2 bt410.1 bt410.2) else (vernierlaw03_WholeTells.j0 k a2 bt358.1 bt358.2 t421 (IntKind.u64.wrap (a2)) a0_0 l0_1 a1_0 l1_1 bt376.1 bt376.2 bt387.1 bt387.2 bt410.1 bt410.2)))))))))))))))))))) = some r := h
  clear h
  replace H := Option.bind_eq_some_iff.mp H
  obtain ⟨⟨t358, t361⟩, A40, H⟩ := H
  replace H : ((vernierlaw03_parts.f k a1_0 l1_1).bind fun bt364 => ((vernierref01_Add.f k t358 bt364.1).bind fun t370 => ((vernierref01_Add.f k t361 bt364.2).bind fun t373 => ((vernierlaw03_made.f k t370 t373).bind fun bt376 => ((vernierref01_Add.f k t358 bt364.2).bind fun t381 => ((vernierref01_Add.f k t361 bt364.1).bind fun t384 => ((vernierlaw03_made.f k t381 t384).bind fun bt387 => ((vernierref01_Mul.f k t358 bt364.1).bind fun t392 => ((vernierref01_Mul.f k t361 bt364.2).bind fun t395 => ((vernierref01_Add.f k t392 t395).bind fun t398 => ((vernierref01_Mul.f k t358 bt364.2).bind fun t401 => ((vernierref01_Mul.f k t361 bt364.1).bind fun t404 => ((vernierref01_Add.f k t401 t404).bind fun t407 => ((vernierlaw03_made.f k t398 t407).bind fun bt410 => ((vernierref01_Add.f k t358 bt364.2).bind fun t415 => ((vernierref01_Add.f k t361 bt364.1).bind fun t418 => ((vernierref01_Cmp.f k t415 t418).bind fun t421 => (if a2 < 0 then (vernierlaw03_WholeTells.j0 k a2 t358 t361 t421 (IntKind.u64.wrap (-(IntKind.u64.wrap (a2)))) a0_0 l0_1 a1_0 l1_1 bt376.1 bt376.2 bt387.1 bt387.2 bt410.1 bt410.2) else (vernierlaw03_WholeTells.j0 k a2 t358 t361 t421 (IntKind.u64.wrap (a2)) a0_0 l0_1 a1_0 l1_1 bt376.1 bt376.2 bt387.1 bt387.2 bt410.1 bt410.2))))))))))))))))))) = some r := H
  have A4 := Aside0.mk A40
  clear A40
  replace H := Option.bind_eq_some_iff.mp H
  obtain ⟨⟨t364, t367⟩, A50, H⟩ := H
  replace H : ((vernierref01_Add.f k t358 t364).bind fun t370 => ((vernierref01_Add.f k t361 t367).bind fun t373 => ((vernierlaw03_made.f k t370 t373).bind fun bt376 => ((vernierref01_Add.f k t358 t367).bind fun t381 => ((vernierref01_Add.f k t361 t364).bind fun t384 => ((vernierlaw03_made.f k t381 t384).bind fun bt387 => ((vernierref01_Mul.f k t358 t364).bind fun t392 => ((vernierref01_Mul.f k t361 t367).bind fun t395 => ((vernierref01_Add.f k t392 t395).bind fun t398 => ((vernierref01_Mul.f k t358 t367).bind fun t401 => ((vernierref01_Mul.f k t361 t364).bind fun t404 => ((vernierref01_Add.f k t401 t404).bind fun t407 => ((vernierlaw03_made.f k t398 t407).bind fun bt410 => ((vernierref01_Add.f k t358 t367).bind fun t415 => ((vernierref01_Add.f k t361 t364).bind fun t418 => ((vernierref01_Cmp.f k t415 t418).bind fun t421 => (if a2 < 0 then (vernierlaw03_WholeTells.j0 k a2 t358 t361 t421 (IntKind.u64.wrap (-(IntKind.u64.wrap (a2)))) a0_0 l0_1 a1_0 l1_1 bt376.1 bt376.2 bt387.1 bt387.2 bt410.1 bt410.2) else (vernierlaw03_WholeTells.j0 k a2 t358 t361 t421 (IntKind.u64.wrap (a2)) a0_0 l0_1 a1_0 l1_1 bt376.1 bt376.2 bt387.1 bt387.2 bt410.1 bt410.2)))))))))))))))))) = some r := H
  have A5 := Aside0.mk A50
  clear A50
  replace H := Option.bind_eq_some_iff.mp H
  obtain ⟨t370, A60, H⟩ := H
  replace H : ((vernierref01_Add.f k t361 t367).bind fun t373 => ((vernierlaw03_made.f k t370 t373).bind fun bt376 => ((vernierref01_Add.f k t358 t367).bind fun t381 => ((vernierref01_Add.f k t361 t364).bind fun t384 => ((vernierlaw03_made.f k t381 t384).bind fun bt387 => ((vernierref01_Mul.f k t358 t364).bind fun t392 => ((vernierref01_Mul.f k t361 t367).bind fun t395 => ((vernierref01_Add.f k t392 t395).bind fun t398 => ((vernierref01_Mul.f k t358 t367).bind fun t401 => ((vernierref01_Mul.f k t361 t364).bind fun t404 => ((vernierref01_Add.f k t401 t404).bind fun t407 => ((vernierlaw03_made.f k t398 t407).bind fun bt410 => ((vernierref01_Add.f k t358 t367).bind fun t415 => ((vernierref01_Add.f k t361 t364).bind fun t418 => ((vernierref01_Cmp.f k t415 t418).bind fun t421 => (if a2 < 0 then (vernierlaw03_WholeTells.j0 k a2 t358 t361 t421 (IntKind.u64.wrap (-(IntKind.u64.wrap (a2)))) a0_0 l0_1 a1_0 l1_1 bt376.1 bt376.2 bt387.1 bt387.2 bt410.1 bt410.2) else (vernierlaw03_WholeTells.j0 k a2 t358 t361 t421 (IntKind.u64.wrap (a2)) a0_0 l0_1 a1_0 l1_1 bt376.1 bt376.2 bt387.1 bt387.2 bt410.1 bt410.2))))))))))))))))) = some r := H
  have A6 := Aside0.mk A60
  clear A60
  replace H := Option.bind_eq_some_iff.mp H
  obtain ⟨t373, A70, H⟩ := H
  replace H : ((vernierlaw03_made.f k t370 t373).bind fun bt376 => ((vernierref01_Add.f k t358 t367).bind fun t381 => ((vernierref01_Add.f k t361 t364).bind fun t384 => ((vernierlaw03_made.f k t381 t384).bind fun bt387 => ((vernierref01_Mul.f k t358 t364).bind fun t392 => ((vernierref01_Mul.f k t361 t367).bind fun t395 => ((vernierref01_Add.f k t392 t395).bind fun t398 => ((vernierref01_Mul.f k t358 t367).bind fun t401 => ((vernierref01_Mul.f k t361 t364).bind fun t404 => ((vernierref01_Add.f k t401 t404).bind fun t407 => ((vernierlaw03_made.f k t398 t407).bind fun bt410 => ((vernierref01_Add.f k t358 t367).bind fun t415 => ((vernierref01_Add.f k t361 t364).bind fun t418 => ((vernierref01_Cmp.f k t415 t418).bind fun t421 => (if a2 < 0 then (vernierlaw03_WholeTells.j0 k a2 t358 t361 t421 (IntKind.u64.wrap (-(IntKind.u64.wrap (a2)))) a0_0 l0_1 a1_0 l1_1 bt376.1 bt376.2 bt387.1 bt387.2 bt410.1 bt410.2) else (vernierlaw03_WholeTells.j0 k a2 t358 t361 t421 (IntKind.u64.wrap (a2)) a0_0 l0_1 a1_0 l1_1 bt376.1 bt376.2 bt387.1 bt387.2 bt410.1 bt410.2)))))))))))))))) = some r := H
  have A7 := Aside0.mk A70
  clear A70
  replace H := Option.bind_eq_some_iff.mp H
  obtain ⟨⟨t376, t377⟩, A80, H⟩ := H
  replace H : ((vernierref01_Add.f k t358 t367).bind fun t381 => ((vernierref01_Add.f k t361 t364).bind fun t384 => ((vernierlaw03_made.f k t381 t384).bind fun bt387 => ((vernierref01_Mul.f k t358 t364).bind fun t392 => ((vernierref01_Mul.f k t361 t367).bind fun t395 => ((vernierref01_Add.f k t392 t395).bind fun t398 => ((vernierref01_Mul.f k t358 t367).bind fun t401 => ((vernierref01_Mul.f k t361 t364).bind fun t404 => ((vernierref01_Add.f k t401 t404).bind fun t407 => ((vernierlaw03_made.f k t398 t407).bind fun bt410 => ((vernierref01_Add.f k t358 t367).bind fun t415 => ((vernierref01_Add.f k t361 t364).bind fun t418 => ((vernierref01_Cmp.f k t415 t418).bind fun t421 => (if a2 < 0 then (vernierlaw03_WholeTells.j0 k a2 t358 t361 t421 (IntKind.u64.wrap (-(IntKind.u64.wrap (a2)))) a0_0 l0_1 a1_0 l1_1 t376 t377 bt387.1 bt387.2 bt410.1 bt410.2) else (vernierlaw03_WholeTells.j0 k a2 t358 t361 t421 (IntKind.u64.wrap (a2)) a0_0 l0_1 a1_0 l1_1 t376 t377 bt387.1 bt387.2 bt410.1 bt410.2))))))))))))))) = some r := H
  have A8 := Aside0.mk A80
  clear A80
  replace H := Option.bind_eq_some_iff.mp H
  obtain ⟨t381, A90, H⟩ := H
  replace H : ((vernierref01_Add.f k t361 t364).bind fun t384 => ((vernierlaw03_made.f k t381 t384).bind fun bt387 => ((vernierref01_Mul.f k t358 t364).bind fun t392 => ((vernierref01_Mul.f k t361 t367).bind fun t395 => ((vernierref01_Add.f k t392 t395).bind fun t398 => ((vernierref01_Mul.f k t358 t367).bind fun t401 => ((vernierref01_Mul.f k t361 t364).bind fun t404 => ((vernierref01_Add.f k t401 t404).bind fun t407 => ((vernierlaw03_made.f k t398 t407).bind fun bt410 => ((vernierref01_Add.f k t358 t367).bind fun t415 => ((vernierref01_Add.f k t361 t364).bind fun t418 => ((vernierref01_Cmp.f k t415 t418).bind fun t421 => (if a2 < 0 then (vernierlaw03_WholeTells.j0 k a2 t358 t361 t421 (IntKind.u64.wrap (-(IntKind.u64.wrap (a2)))) a0_0 l0_1 a1_0 l1_1 t376 t377 bt387.1 bt387.2 bt410.1 bt410.2) else (vernierlaw03_WholeTells.j0 k a2 t358 t361 t421 (IntKind.u64.wrap (a2)) a0_0 l0_1 a1_0 l1_1 t376 t377 bt387.1 bt387.2 bt410.1 bt410.2)))))))))))))) = some r := H
  have A9 := Aside0.mk A90
  clear A90
  replace H := Option.bind_eq_some_iff.mp H
  obtain ⟨t384, A100, H⟩ := H
  replace H : ((vernierlaw03_made.f k t381 t384).bind fun bt387 => ((vernierref01_Mul.f k t358 t364).bind fun t392 => ((vernierref01_Mul.f k t361 t367).bind fun t395 => ((vernierref01_Add.f k t392 t395).bind fun t398 => ((vernierref01_Mul.f k t358 t367).bind fun t401 => ((vernierref01_Mul.f k t361 t364).bind fun t404 => ((vernierref01_Add.f k t401 t404).bind fun t407 => ((vernierlaw03_made.f k t398 t407).bind fun bt410 => ((vernierref01_Add.f k t358 t367).bind fun t415 => ((vernierref01_Add.f k t361 t364).bind fun t418 => ((vernierref01_Cmp.f k t415 t418).bind fun t421 => (if a2 < 0 then (vernierlaw03_WholeTells.j0 k a2 t358 t361 t421 (IntKind.u64.wrap (-(IntKind.u64.wrap (a2)))) a0_0 l0_1 a1_0 l1_1 t376 t377 bt387.1 bt387.2 bt410.1 bt410.2) else (vernierlaw03_WholeTells.j0 k a2 t358 t361 t421 (IntKind.u64.wrap (a2)) a0_0 l0_1 a1_0 l1_1 t376 t377 bt387.1 bt387.2 bt410.1 bt410.2))))))))))))) = some r := H
  have A10 := Aside0.mk A100
  clear A100
  replace H := Option.bind_eq_some_iff.mp H
  obtain ⟨⟨t387, t388⟩, A110, H⟩ := H
  replace H : ((vernierref01_Mul.f k t358 t364).bind fun t392 => ((vernierref01_Mul.f k t361 t367).bind fun t395 => ((vernierref01_Add.f k t392 t395).bind fun t398 => ((vernierref01_Mul.f k t358 t367).bind fun t401 => ((vernierref01_Mul.f k t361 t364).bind fun t404 => ((vernierref01_Add.f k t401 t404).bind fun t407 => ((vernierlaw03_made.f k t398 t407).bind fun bt410 => ((vernierref01_Add.f k t358 t367).bind fun t415 => ((vernierref01_Add.f k t361 t364).bind fun t418 => ((vernierref01_Cmp.f k t415 t418).bind fun t421 => (if a2 < 0 then (vernierlaw03_WholeTells.j0 k a2 t358 t361 t421 (IntKind.u64.wrap (-(IntKind.u64.wrap (a2)))) a0_0 l0_1 a1_0 l1_1 t376 t377 t387 t388 bt410.1 bt410.2) else (vernierlaw03_WholeTells.j0 k a2 t358 t361 t421 (IntKind.u64.wrap (a2)) a0_0 l0_1 a1_0 l1_1 t376 t377 t387 t388 bt410.1 bt410.2)))))))))))) = some r := H
  have A11 := Aside0.mk A110
  clear A110
  replace H := Option.bind_eq_some_iff.mp H
  obtain ⟨t392, A120, H⟩ := H
  replace H : ((vernierref01_Mul.f k t361 t367).bind fun t395 => ((vernierref01_Add.f k t392 t395).bind fun t398 => ((vernierref01_Mul.f k t358 t367).bind fun t401 => ((vernierref01_Mul.f k t361 t364).bind fun t404 => ((vernierref01_Add.f k t401 t404).bind fun t407 => ((vernierlaw03_made.f k t398 t407).bind fun bt410 => ((vernierref01_Add.f k t358 t367).bind fun t415 => ((vernierref01_Add.f k t361 t364).bind fun t418 => ((vernierref01_Cmp.f k t415 t418).bind fun t421 => (if a2 < 0 then (vernierlaw03_WholeTells.j0 k a2 t358 t361 t421 (IntKind.u64.wrap (-(IntKind.u64.wrap (a2)))) a0_0 l0_1 a1_0 l1_1 t376 t377 t387 t388 bt410.1 bt410.2) else (vernierlaw03_WholeTells.j0 k a2 t358 t361 t421 (IntKind.u64.wrap (a2)) a0_0 l0_1 a1_0 l1_1 t376 t377 t387 t388 bt410.1 bt410.2))))))))))) = some r := H
  have A12 := Aside0.mk A120
  clear A120
  replace H := Option.bind_eq_some_iff.mp H
  obtain ⟨t395, A130, H⟩ := H
  replace H : ((vernierref01_Add.f k t392 t395).bind fun t398 => ((vernierref01_Mul.f k t358 t367).bind fun t401 => ((vernierref01_Mul.f k t361 t364).bind fun t404 => ((vernierref01_Add.f k t401 t404).bind fun t407 => ((vernierlaw03_made.f k t398 t407).bind fun bt410 => ((vernierref01_Add.f k t358 t367).bind fun t415 => ((vernierref01_Add.f k t361 t364).bind fun t418 => ((vernierref01_Cmp.f k t415 t418).bind fun t421 => (if a2 < 0 then (vernierlaw03_WholeTells.j0 k a2 t358 t361 t421 (IntKind.u64.wrap (-(IntKind.u64.wrap (a2)))) a0_0 l0_1 a1_0 l1_1 t376 t377 t387 t388 bt410.1 bt410.2) else (vernierlaw03_WholeTells.j0 k a2 t358 t361 t421 (IntKind.u64.wrap (a2)) a0_0 l0_1 a1_0 l1_1 t376 t377 t387 t388 bt410.1 bt410.2)))))))))) = some r := H
  have A13 := Aside0.mk A130
  clear A130
  replace H := Option.bind_eq_some_iff.mp H
  obtain ⟨t398, A140, H⟩ := H
  replace H : ((vernierref01_Mul.f k t358 t367).bind fun t401 => ((vernierref01_Mul.f k t361 t364).bind fun t404 => ((vernierref01_Add.f k t401 t404).bind fun t407 => ((vernierlaw03_made.f k t398 t407).bind fun bt410 => ((vernierref01_Add.f k t358 t367).bind fun t415 => ((vernierref01_Add.f k t361 t364).bind fun t418 => ((vernierref01_Cmp.f k t415 t418).bind fun t421 => (if a2 < 0 then (vernierlaw03_WholeTells.j0 k a2 t358 t361 t421 (IntKind.u64.wrap (-(IntKind.u64.wrap (a2)))) a0_0 l0_1 a1_0 l1_1 t376 t377 t387 t388 bt410.1 bt410.2) else (vernierlaw03_WholeTells.j0 k a2 t358 t361 t421 (IntKind.u64.wrap (a2)) a0_0 l0_1 a1_0 l1_1 t376 t377 t387 t388 bt410.1 bt410.2))))))))) = some r := H
  have A14 := Aside0.mk A140
  clear A140
  replace H := Option.bind_eq_some_iff.mp H
  obtain ⟨t401, A150, H⟩ := H
  replace H : ((vernierref01_Mul.f k t361 t364).bind fun t404 => ((vernierref01_Add.f k t401 t404).bind fun t407 => ((vernierlaw03_made.f k t398 t407).bind fun bt410 => ((vernierref01_Add.f k t358 t367).bind fun t415 => ((vernierref01_Add.f k t361 t364).bind fun t418 => ((vernierref01_Cmp.f k t415 t418).bind fun t421 => (if a2 < 0 then (vernierlaw03_WholeTells.j0 k a2 t358 t361 t421 (IntKind.u64.wrap (-(IntKind.u64.wrap (a2)))) a0_0 l0_1 a1_0 l1_1 t376 t377 t387 t388 bt410.1 bt410.2) else (vernierlaw03_WholeTells.j0 k a2 t358 t361 t421 (IntKind.u64.wrap (a2)) a0_0 l0_1 a1_0 l1_1 t376 t377 t387 t388 bt410.1 bt410.2)))))))) = some r := H
  have A15 := Aside0.mk A150
  clear A150
  replace H := Option.bind_eq_some_iff.mp H
  obtain ⟨t404, A160, H⟩ := H
  replace H : ((vernierref01_Add.f k t401 t404).bind fun t407 => ((vernierlaw03_made.f k t398 t407).bind fun bt410 => ((vernierref01_Add.f k t358 t367).bind fun t415 => ((vernierref01_Add.f k t361 t364).bind fun t418 => ((vernierref01_Cmp.f k t415 t418).bind fun t421 => (if a2 < 0 then (vernierlaw03_WholeTells.j0 k a2 t358 t361 t421 (IntKind.u64.wrap (-(IntKind.u64.wrap (a2)))) a0_0 l0_1 a1_0 l1_1 t376 t377 t387 t388 bt410.1 bt410.2) else (vernierlaw03_WholeTells.j0 k a2 t358 t361 t421 (IntKind.u64.wrap (a2)) a0_0 l0_1 a1_0 l1_1 t376 t377 t387 t388 bt410.1 bt410.2))))))) = some r := H
  have A16 := Aside0.mk A160
  clear A160
  replace H := Option.bind_eq_some_iff.mp H
  obtain ⟨t407, A170, H⟩ := H
  replace H : ((vernierlaw03_made.f k t398 t407).bind fun bt410 => ((vernierref01_Add.f k t358 t367).bind fun t415 => ((vernierref01_Add.f k t361 t364).bind fun t418 => ((vernierref01_Cmp.f k t415 t418).bind fun t421 => (if a2 < 0 then (vernierlaw03_WholeTells.j0 k a2 t358 t361 t421 (IntKind.u64.wrap (-(IntKind.u64.wrap (a2)))) a0_0 l0_1 a1_0 l1_1 t376 t377 t387 t388 bt410.1 bt410.2) else (vernierlaw03_WholeTells.j0 k a2 t358 t361 t421 (IntKind.u64.wrap (a2)) a0_0 l0_1 a1_0 l1_1 t376 t377 t387 t388 bt410.1 bt410.2)))))) = some r := H
  have A17 := Aside0.mk A170
  clear A170
  replace H := Option.bind_eq_some_iff.mp H
  obtain ⟨⟨t410, t411⟩, A180, H⟩ := H
  replace H : ((vernierref01_Add.f k t358 t367).bind fun t415 => ((vernierref01_Add.f k t361 t364).bind fun t418 => ((vernierref01_Cmp.f k t415 t418).bind fun t421 => (if a2 < 0 then (vernierlaw03_WholeTells.j0 k a2 t358 t361 t421 (IntKind.u64.wrap (-(IntKind.u64.wrap (a2)))) a0_0 l0_1 a1_0 l1_1 t376 t377 t387 t388 t410 t411) else (vernierlaw03_WholeTells.j0 k a2 t358 t361 t421 (IntKind.u64.wrap (a2)) a0_0 l0_1 a1_0 l1_1 t376 t377 t387 t388 t410 t411))))) = some r := H
  have A18 := Aside0.mk A180
  clear A180
  replace H := Option.bind_eq_some_iff.mp H
  obtain ⟨t415, A190, H⟩ := H
  replace H : ((vernierref01_Add.f k t361 t364).bind fun t418 => ((vernierref01_Cmp.f k t415 t418).bind fun t421 => (if a2 < 0 then (vernierlaw03_WholeTells.j0 k a2 t358 t361 t421 (IntKind.u64.wrap (-(IntKind.u64.wrap (a2)))) a0_0 l0_1 a1_0 l1_1 t376 t377 t387 t388 t410 t411) else (vernierlaw03_WholeTells.j0 k a2 t358 t361 t421 (IntKind.u64.wrap (a2)) a0_0 l0_1 a1_0 l1_1 t376 t377 t387 t388 t410 t411)))) = some r := H
  have A19 := Aside0.mk A190
  clear A190
  replace H := Option.bind_eq_some_iff.mp H
  obtain ⟨t418, A200, H⟩ := H
  replace H : ((vernierref01_Cmp.f k t415 t418).bind fun t421 => (if a2 < 0 then (vernierlaw03_WholeTells.j0 k a2 t358 t361 t421 (IntKind.u64.wrap (-(IntKind.u64.wrap (a2)))) a0_0 l0_1 a1_0 l1_1 t376 t377 t387 t388 t410 t411) else (vernierlaw03_WholeTells.j0 k a2 t358 t361 t421 (IntKind.u64.wrap (a2)) a0_0 l0_1 a1_0 l1_1 t376 t377 t387 t388 t410 t411))) = some r := H
  have A20 := Aside0.mk A200
  clear A200
  replace H := Option.bind_eq_some_iff.mp H
  obtain ⟨t421, A210, H⟩ := H
  replace H : (if a2 < 0 then (vernierlaw03_WholeTells.j0 k a2 t358 t361 t421 (IntKind.u64.wrap (-(IntKind.u64.wrap (a2)))) a0_0 l0_1 a1_0 l1_1 t376 t377 t387 t388 t410 t411) else (vernierlaw03_WholeTells.j0 k a2 t358 t361 t421 (IntKind.u64.wrap (a2)) a0_0 l0_1 a1_0 l1_1 t376 t377 t387 t388 t410 t411)) = some r := H
  have A21 := Aside0.mk A210
  clear A210
  have HC22 := Aside0.mk H
  clear H
  go_enter Try.func3, Try.ntmps3
  go_upto_if 66 with (first | ((with_reducible refine gate_dst (N := 3) rfl ?_); refine box_event ?hg (N := 3) ?hd (cs := #[.bool a0_0, .slice A0_1 l0_1.length c0_1]) (t := 24) ?hr ?_; (case hd => rfl); (case hg => rfl); (case hr => first | (go_simp; done) | (go_simp; rfl)); intro gb356 hg w23 hbox hb; have BK356 := Aside0.mk (hbox); have GW356 := Aside0.mk ((by rw [hg]; exact (below_size (bw_ HB)) : w.heap.size ≤ gb356)); have GE356 := Aside0.mk ((by rw [hg]; exact (below_size (bw_ HB)) : w.heap.size ≤ gb356)); replace HB := Aside0.mk (below_step (bw_ HB) hb); clear hb hbox hg) | ((with_reducible refine gate_dst (N := 4) rfl ?_); refine box_event ?hg (N := 4) ?hd (cs := #[.bool a1_0, .slice A1_1 l1_1.length c1_1]) (t := 24) ?hr ?_; (case hd => rfl); (case hg => rfl); (case hr => first | (go_simp; done) | (go_simp; rfl)); intro gb357 hg w24 hbox hb; have BK357 := Aside0.mk (hbox); have GW357 := Aside0.mk ((by rw [hg]; exact (below_size (bw_ HB)) : w.heap.size ≤ gb357)); have GE357 := Aside0.mk ((by rw [hg]; exact (below_size (bw_ HB)) : w.heap.size ≤ gb357)); replace HB := Aside0.mk (below_step (bw_ HB) hb); have NB356_357 := Aside0.mk ((by rw [hg]; exact Nat.ne_of_lt (blk_lt (bl_ BK356)) : gb356 ≠ gb357)); have NB357_356 := Aside0.mk ((by rw [hg]; exact Nat.ne_of_gt (blk_lt (bl_ BK356)) : gb357 ≠ gb356)); replace BK356 := Aside0.mk (blk_below (bl_ BK356) hb); clear hb hbox hg; have hnb25 := NB356_357.out; have hnc25 := NB357_356.out; have hcz26_0 : w24.cell? ⟨gb356, 0, none⟩ = some (.bool a0_0) := (blk_cell BK356.out 0).trans rfl; have hcz26_1 : w24.cell? ⟨gb356, 1, none⟩ = some (.slice A0_1 l0_1.length c0_1) := (blk_cell BK356.out 1).trans rfl; have hfz26_0 := blk_frozen BK356.out 0; have hfz26_1 := blk_frozen BK356.out 1) | ((with_reducible refine gate_callee (f := 15) rfl ?_); refine gl_ (some 19) rfl rfl Try.func15 (by kernel_rfl) rfl #[.agg #[.bool a0_0, .slice A0_1 l0_1.length c0_1]] rfl ?_; (with_reducible refine (vernierlaw03_parts.calls k a0_0 _ _ l0_1 t358 t361 _ ?side1 ?side2 A4.out).mono ?_); (case side1 => exact cl_ (Kd.C_below HR0_1.out HB.out)); (case side2 => exact HC0_1.out); rintro e w27 ⟨v359, v362, rfl, ho0, ho1, hb⟩; refine ⟨_, rfl, ?_⟩; have HO360 := Aside0.mk (Kd.R_lower ho0 (below_size (bw_ HB))); have HO363 := Aside0.mk (Kd.R_lower ho1 (below_size (bw_ HB))); replace BK356 := Aside0.mk (blk_below (bl_ BK356) hb); replace BK357 := Aside0.mk (blk_below (bl_ BK357) hb); replace HB := Aside0.mk (below_step (bw_ HB) hb); (try clear hb); (try clear hb2); (try clear hk); (try clear hi); (try clear ho0); (try clear ho1); have hcz28_0 : w27.cell? ⟨gb357, 0, none⟩ = some (.bool a1_0) := (blk_cell BK357.out 0).trans rfl; have hcz28_1 : w27.cell? ⟨gb357, 1, none⟩ = some (.slice A1_1 l1_1.length c1_1) := (blk_cell BK357.out 1).trans rfl; have hfz28_0 := blk_frozen BK357.out 0; have hfz28_1 := blk_frozen BK357.out 1) | ((with_reducible refine gate_callee (f := 15) rfl ?_); refine gl_ (some 24) rfl rfl Try.func15 (by kernel_rfl) rfl #[.agg #[.bool a1_0, .slice A1_1 l1_1.length c1_1]] rfl ?_; (with_reducible refine (vernierlaw03_parts.calls k a1_0 _ _ l1_1 t364 t367 _ ?side1 ?side2 A5.out).mono ?_); (case side1 => exact cl_ (Kd.C_below HR1_1.out HB.out)); (case side2 => exact HC1_1.out); rintro e w29 ⟨v365, v368, rfl, ho0, ho1, hb⟩; refine ⟨_, rfl, ?_⟩; have HO366 := Aside0.mk (Kd.R_lower (Kd.R_new' (Kd.R_new' ho0 (Kd.R_lt (rl_ HO360))) (Kd.R_lt (rl_ HO363))) (below_size (bw_ HB))); have HO369 := Aside0.mk (Kd.R_lower (Kd.R_new' (Kd.R_new' ho1 (Kd.R_lt (rl_ HO360))) (Kd.R_lt (rl_ HO363))) (below_size (bw_ HB))); replace HO360 := Aside0.mk (Kd.R_mono (Kd.R_told (Kd.R_told (Kd.R_old (rl_ HO360) hb) (Kd.R_base ho0)) (Kd.R_base ho1)) (fun _ h_ => h_.1)); replace HO363 := Aside0.mk (Kd.R_mono (Kd.R_told (Kd.R_told (Kd.R_old (rl_ HO363) hb) (Kd.R_base ho0)) (Kd.R_base ho1)) (fun _ h_ => h_.1)); replace BK356 := Aside0.mk (blk_below (bl_ BK356) hb); replace BK357 := Aside0.mk (blk_below (bl_ BK357) hb); replace HB := Aside0.mk (below_step (bw_ HB) hb); (try clear hb); (try clear hb2); (try clear hk); (try clear hi); (try clear ho0); (try clear ho1); obtain ⟨Ao30, co30, eo30⟩ := Kd.R_slice HO360.out; subst eo30; obtain ⟨Ao31, co31, eo31⟩ := Kd.R_slice HO366.out; subst eo31) | ((with_reducible refine gate_callee (f := 17) rfl ?_); refine gl_ (some 29) rfl rfl Try.func17 (by kernel_rfl) rfl #[.slice Ao30 t358.length co30, .slice Ao31 t364.length co31] rfl ?_; (with_reducible refine (vernierref01_Add.calls k _ _ t358 _ _ t364 t370 _ ?side1 ?side2 ?side3 ?side4 A6.out).mono ?_); (case side1 => repeat (first | exact (Kd.R_reads' HO360.out).2.2 | (with_reducible refine Kd.C_alloc ?_ _) | (with_reducible refine Kd.C_drewN ?_ _) | (with_reducible refine Kd.C_drew ?_))); (case side2 => exact (Kd.R_reads' HO360.out).2.1); (case side3 => repeat (first | exact (Kd.R_reads' HO366.out).2.2 | (with_reducible refine Kd.C_alloc ?_ _) | (with_reducible refine Kd.C_drewN ?_ _) | (with_reducible refine Kd.C_drew ?_))); (case side4 => exact (Kd.R_reads' HO366.out).2.1); rintro e w32 ⟨v371, rfl, ho0, hb⟩; refine ⟨_, rfl, ?_⟩; have HO372 := Aside0.mk (Kd.R_lower (Kd.R_new' (Kd.R_new' (Kd.R_new' (Kd.R_new' ho0 (Kd.R_lt (rl_ HO360))) (Kd.R_lt (rl_ HO363))) (Kd.R_lt (rl_ HO366))) (Kd.R_lt (rl_ HO369))) (below_size (bw_ HB))); replace HO360 := Aside0.mk (Kd.R_elder' (rl_ HO360) (Kd.R_base ho0) hb); replace HO363 := Aside0.mk (Kd.R_elder' (rl_ HO363) (Kd.R_base ho0) hb); replace HO366 := Aside0.mk (Kd.R_elder' (rl_ HO366) (Kd.R_base ho0) hb); replace HO369 := Aside0.mk (Kd.R_elder' (rl_ HO369) (Kd.R_base ho0) hb); replace BK356 := Aside0.mk (blk_below (bl_ BK356) hb); replace BK357 := Aside0.mk (blk_below (bl_ BK357) hb); replace HB := Aside0.mk (below_step (bw_ HB) hb); (try clear hb); (try clear hb2); (try clear hk); (try clear hi); (try clear ho0); obtain ⟨Ao33, co33, eo33⟩ := Kd.R_slice HO363.out; subst eo33; obtain ⟨Ao34, co34, eo34⟩ := Kd.R_slice HO369.out; subst eo34) | ((with_reducible refine gate_callee (f := 17) rfl ?_); refine gl_ (some 32) rfl rfl Try.func17 (by kernel_rfl) rfl #[.slice Ao33 t361.length co33, .slice Ao34 t367.length co34] rfl ?_; (with_reducible refine (vernierref01_Add.calls k _ _ t361 _ _ t367 t373 _ ?side1 ?side2 ?side3 ?side4 A7.out).mono ?_); (case side1 => repeat (first | exact (Kd.R_reads' HO363.out).2.2 | (with_reducible refine Kd.C_alloc ?_ _) | (with_reducible refine Kd.C_drewN ?_ _) | (with_reducible refine Kd.C_drew ?_))); (case side2 => exact (Kd.R_reads' HO363.out).2.1); (case side3 => repeat (first | exact (Kd.R_reads' HO369.out).2.2 | (with_reducible refine Kd.C_alloc ?_ _) | (with_reducible refine Kd.C_drewN ?_ _) | (with_reducible refine Kd.C_drew ?_))); (case side4 => exact (Kd.R_reads' HO369.out).2.1); rintro e w35 ⟨v374, rfl, ho0, hb⟩; refine ⟨_, rfl, ?_⟩; have HO375 := Aside0.mk (Kd.R_lower (Kd.R_new' (Kd.R_new' (Kd.R_new' (Kd.R_new' (Kd.R_new' ho0 (Kd.R_lt (rl_ HO360))) (Kd.R_lt (rl_ HO363))) (Kd.R_lt (rl_ HO366))) (Kd.R_lt (rl_ HO369))) (Kd.R_lt (rl_ HO372))) (below_size (bw_ HB))); replace HO360 := Aside0.mk (Kd.R_elder' (rl_ HO360) (Kd.R_base ho0) hb); replace HO363 := Aside0.mk (Kd.R_elder' (rl_ HO363) (Kd.R_base ho0) hb); replace HO366 := Aside0.mk (Kd.R_elder' (rl_ HO366) (Kd.R_base ho0) hb); replace HO369 := Aside0.mk (Kd.R_elder' (rl_ HO369) (Kd.R_base ho0) hb); replace HO372 := Aside0.mk (Kd.R_elder' (rl_ HO372) (Kd.R_base ho0) hb); replace BK356 := Aside0.mk (blk_below (bl_ BK356) hb); replace BK357 := Aside0.mk (blk_below (bl_ BK357) hb); replace HB := Aside0.mk (below_step (bw_ HB) hb); (try clear hb); (try clear hb2); (try clear hk); (try clear hi); (try clear ho0); obtain ⟨Ao36, co36, eo36⟩ := Kd.R_slice HO372.out; subst eo36; obtain ⟨Ao37, co37, eo37⟩ := Kd.R_slice HO375.out; subst eo37) | ((with_reducible refine gate_callee (f := 16) rfl ?_); refine gl_ (some 33) rfl rfl Try.func16 (by kernel_rfl) rfl #[.slice Ao36 t370.length co36, .slice Ao37 t373.length co37] rfl ?_; (with_reducible refine (vernierlaw03_made.calls k _ _ t370 _ _ t373 t376 t377 _ ?side1 ?side2 ?side3 ?side4 A8.out).mono ?_); (case side1 => repeat (first | exact (Kd.R_reads' HO372.out).2.2 | (with_reducible refine Kd.C_alloc ?_ _) | (with_reducible refine Kd.C_drewN ?_ _) | (with_reducible refine Kd.C_drew ?_))); (case side2 => exact (Kd.R_reads' HO372.out).2.1); (case side3 => repeat (first | exact (Kd.R_reads' HO375.out).2.2 | (with_reducible refine Kd.C_alloc ?_ _) | (with_reducible refine Kd.C_drewN ?_ _) | (with_reducible refine Kd.C_drew ?_))); (case side4 => exact (Kd.R_reads' HO375.out).2.1); rintro e w38 ⟨v378, rfl, ho0, hb⟩; refine ⟨_, rfl, ?_⟩; replace HO360 := Aside0.mk (Kd.R_below (rl_ HO360) hb); replace HO363 := Aside0.mk (Kd.R_below (rl_ HO363) hb); replace HO366 := Aside0.mk (Kd.R_below (rl_ HO366) hb); replace HO369 := Aside0.mk (Kd.R_below (rl_ HO369) hb); replace HO372 := Aside0.mk (Kd.R_below (rl_ HO372) hb); replace HO375 := Aside0.mk (Kd.R_below (rl_ HO375) hb); have HO379 := Aside0.mk (Kd.R_lower ho0 (below_size (bw_ HB))); replace BK356 := Aside0.mk (blk_below (bl_ BK356) hb); replace BK357 := Aside0.mk (blk_below (bl_ BK357) hb); replace HB := Aside0.mk (below_step (bw_ HB) hb); (try clear hb); (try clear hb2); (try clear hk); (try clear hi); (try clear ho0)) | ((with_reducible refine gate_dst (N := 11) rfl ?_); refine box_event ?hg (N := 11) ?hd (cs := #[.bool false, .slice none 0 0]) (t := 24) ?hr ?_; (case hd => rfl); (case hg => rfl); (case hr => first | (go_simp; done) | (go_simp; rfl)); intro gb380 hg w39 hbox hb; replace HO360 := Aside0.mk (Kd.R_below (rl_ HO360) hb); replace HO363 := Aside0.mk (Kd.R_below (rl_ HO363) hb); replace HO366 := Aside0.mk (Kd.R_below (rl_ HO366) hb); replace HO369 := Aside0.mk (Kd.R_below (rl_ HO369) hb); replace HO372 := Aside0.mk (Kd.R_below (rl_ HO372) hb); replace HO375 := Aside0.mk (Kd.R_below (rl_ HO375) hb); replace HO379 := Aside0.mk (Kd.R_below (rl_ HO379) hb); have BK380 := Aside0.mk (hbox); have GW380 := Aside0.mk ((by rw [hg]; exact (below_size (bw_ HB)) : w.heap.size ≤ gb380)); have GE380 := Aside0.mk ((by rw [hg]; exact (below_size (bw_ HB)) : w.heap.size ≤ gb380)); replace HB := Aside0.mk (below_step (bw_ HB) hb); have NB356_380 := Aside0.mk ((by rw [hg]; exact Nat.ne_of_lt (blk_lt (bl_ BK356)) : gb356 ≠ gb380)); have NB380_356 := Aside0.mk ((by rw [hg]; exact Nat.ne_of_gt (blk_lt (bl_ BK356)) : gb380 ≠ gb356)); replace BK356 := Aside0.mk (blk_below (bl_ BK356) hb); have NB357_380 := Aside0.mk ((by rw [hg]; exact Nat.ne_of_lt (blk_lt (bl_ BK357)) : gb357 ≠ gb380)); have NB380_357 := Aside0.mk ((by rw [hg]; exact Nat.ne_of_gt (blk_lt (bl_ BK357)) : gb380 ≠ gb357)); replace BK357 := Aside0.mk (blk_below (bl_ BK357) hb); clear hb hbox hg; have hnb40 := NB380_356.out; have hnc40 := NB356_380.out; have hnb41 := NB380_357.out; have hnc41 := NB357_380.out; have hcz42_0 : w39.cell? ⟨gb380, 0, none⟩ = some (.bool false) := (blk_cell BK380.out 0).trans rfl; have hcz42_1 : w39.cell? ⟨gb380, 1, none⟩ = some (.slice none 0 0) := (blk_cell BK380.out 1).trans rfl; have hfz42_0 := blk_frozen BK380.out 0; have hfz42_1 := blk_frozen BK380.out 1; obtain ⟨Ao43, co43, eo43⟩ := Kd.R_slice HO379.out; subst eo43) | ((with_reducible refine gate_callee (f := 17) rfl ?_); refine gl_ (some 36) rfl rfl Try.func17 (by kernel_rfl) rfl #[.slice Ao30 t358.length co30, .slice Ao34 t367.length co34] rfl ?_; (with_reducible refine (vernierref01_Add.calls k _ _ t358 _ _ t367 t381 _ ?side1 ?side2 ?side3 ?side4 A9.out).mono ?_); (case side1 => refine (Kd.R_reads' (e := 3) (base := w.heap.size) (ok := fun k_ => ((((some k_ ≠ (.slice Ao33 t361.length co33 : Value).ownBlock ∧ some k_ ≠ (.slice Ao31 t364.length co31 : Value).ownBlock) ∧ some k_ ≠ (.slice Ao34 t367.length co34 : Value).ownBlock) ∧ some k_ ≠ (.slice Ao36 t370.length co36 : Value).ownBlock) ∧ some k_ ≠ (.slice Ao37 t373.length co37 : Value).ownBlock)) (n := t358.length) (c := co30) ?_).2.2; exact (by (with_reducible repeat (first | apply Kd.R_alloc | apply Kd.R_drewN | apply Kd.R_drew)); exact (Kd.R_mono (Kd.R_far (p := ⟨gb380, 1, none⟩) (Kd.R_far (p := ⟨gb380, 0, none⟩) (Kd.R_types HO360.out BK380.out (by decide)) (fun _ hk => hk.2) (.bool t376)) (fun _ hk => hk.2) (.slice Ao43 t377.length co43)) (fun _ h_ => h_.1)))); (case side2 => exact (Kd.R_reads' HO360.out).2.1); (case side3 => refine (Kd.R_reads' (e := 3) (base := w.heap.size) (ok := fun k_ => ((((some k_ ≠ (.slice Ao31 t364.length co31 : Value).ownBlock ∧ some k_ ≠ (.slice Ao30 t358.length co30 : Value).ownBlock) ∧ some k_ ≠ (.slice Ao33 t361.length co33 : Value).ownBlock) ∧ some k_ ≠ (.slice Ao36 t370.length co36 : Value).ownBlock) ∧ some k_ ≠ (.slice Ao37 t373.length co37 : Value).ownBlock)) (n := t367.length) (c := co34) ?_).2.2; exact (by (with_reducible repeat (first | apply Kd.R_alloc | apply Kd.R_drewN | apply Kd.R_drew)); exact (Kd.R_mono (Kd.R_far (p := ⟨gb380, 1, none⟩) (Kd.R_far (p := ⟨gb380, 0, none⟩) (Kd.R_types HO369.out BK380.out (by decide)) (fun _ hk => hk.2) (.bool t376)) (fun _ hk => hk.2) (.slice Ao43 t377.length co43)) (fun _ h_ => h_.1)))); (case side4 => exact (Kd.R_reads' HO369.out).2.1); rintro e w44 ⟨v382, rfl, ho0, hb⟩; refine ⟨_, rfl, ?_⟩; replace HO379 := Aside0.mk (Kd.R_below (by (with_reducible repeat (first | apply Kd.R_alloc | apply Kd.R_drewN | apply Kd.R_drew)); exact (Kd.R_mono (Kd.R_far (p := ⟨gb380, 1, none⟩) (Kd.R_far (p := ⟨gb380, 0, none⟩) (Kd.R_types HO379.out BK380.out (by decide)) (fun _ hk => hk.2) (.bool t376)) (fun _ hk => hk.2) (.slice Ao43 t377.length co43)) (fun _ h_ => h_.1))) hb); have HO383 := Aside0.mk (Kd.R_lower (Kd.R_new' (Kd.R_new' (Kd.R_new' (Kd.R_new' (Kd.R_new' (Kd.R_new' ho0 (Kd.R_lt (by (with_reducible repeat (first | apply Kd.R_alloc | apply Kd.R_drewN | apply Kd.R_drew)); exact (Kd.R_mono (Kd.R_far (p := ⟨gb380, 1, none⟩) (Kd.R_far (p := ⟨gb380, 0, none⟩) (Kd.R_types HO360.out BK380.out (by decide)) (fun _ hk => hk.2) (.bool t376)) (fun _ hk => hk.2) (.slice Ao43 t377.length co43)) (fun _ h_ => h_.1))))) (Kd.R_lt (by (with_reducible repeat (first | apply Kd.R_alloc | apply Kd.R_drewN | apply Kd.R_drew)); exact (Kd.R_mono (Kd.R_far (p := ⟨gb380, 1, none⟩) (Kd.R_far (p := ⟨gb380, 0, none⟩) (Kd.R_types HO363.out BK380.out (by decide)) (fun _ hk => hk.2) (.bool t376)) (fun _ hk => hk.2) (.slice Ao43 t377.length co43)) (fun _ h_ => h_.1))))) (Kd.R_lt (by (with_reducible repeat (first | apply Kd.R_alloc | apply Kd.R_drewN | apply Kd.R_drew)); exact (Kd.R_mono (Kd.R_far (p := ⟨gb380, 1, none⟩) (Kd.R_far (p := ⟨gb380, 0, none⟩) (Kd.R_types HO366.out BK380.out (by decide)) (fun _ hk => hk.2) (.bool t376)) (fun _ hk => hk.2) (.slice Ao43 t377.length co43)) (fun _ h_ => h_.1))))) (Kd.R_lt (by (with_reducible repeat (first | apply Kd.R_alloc | apply Kd.R_drewN | apply Kd.R_drew)); exact (Kd.R_mono (Kd.R_far (p := ⟨gb380, 1, none⟩) (Kd.R_far (p := ⟨gb380, 0, none⟩) (Kd.R_types HO369.out BK380.out (by decide)) (fun _ hk => hk.2) (.bool t376)) (fun _ hk => hk.2) (.slice Ao43 t377.length co43)) (fun _ h_ => h_.1))))) (Kd.R_lt (by (with_reducible repeat (first | apply Kd.R_alloc | apply Kd.R_drewN | apply Kd.R_drew)); exact (Kd.R_mono (Kd.R_far (p := ⟨gb380, 1, none⟩) (Kd.R_far (p := ⟨gb380, 0, none⟩) (Kd.R_types HO372.out BK380.out (by decide)) (fun _ hk => hk.2) (.bool t376)) (fun _ hk => hk.2) (.slice Ao43 t377.length co43)) (fun _ h_ => h_.1))))) (Kd.R_lt (by (with_reducible repeat (first | apply Kd.R_alloc | apply Kd.R_drewN | apply Kd.R_drew)); exact (Kd.R_mono (Kd.R_far (p := ⟨gb380, 1, none⟩) (Kd.R_far (p := ⟨gb380, 0, none⟩) (Kd.R_types HO375.out BK380.out (by decide)) (fun _ hk => hk.2) (.bool t376)) (fun _ hk => hk.2) (.slice Ao43 t377.length co43)) (fun _ h_ => h_.1))))) (below_size (bw_ HB))); replace HO360 := Aside0.mk (Kd.R_elder' (by (with_reducible repeat (first | apply Kd.R_alloc | apply Kd.R_drewN | apply Kd.R_drew)); exact (Kd.R_mono (Kd.R_far (p := ⟨gb380, 1, none⟩) (Kd.R_far (p := ⟨gb380, 0, none⟩) (Kd.R_types HO360.out BK380.out (by decide)) (fun _ hk => hk.2) (.bool t376)) (fun _ hk => hk.2) (.slice Ao43 t377.length co43)) (fun _ h_ => h_.1))) (Kd.R_base ho0) hb); replace HO363 := Aside0.mk (Kd.R_elder' (by (with_reducible repeat (first | apply Kd.R_alloc | apply Kd.R_drewN | apply Kd.R_drew)); exact (Kd.R_mono (Kd.R_far (p := ⟨gb380, 1, none⟩) (Kd.R_far (p := ⟨gb380, 0, none⟩) (Kd.R_types HO363.out BK380.out (by decide)) (fun _ hk => hk.2) (.bool t376)) (fun _ hk => hk.2) (.slice Ao43 t377.length co43)) (fun _ h_ => h_.1))) (Kd.R_base ho0) hb); replace HO366 := Aside0.mk (Kd.R_elder' (by (with_reducible repeat (first | apply Kd.R_alloc | apply Kd.R_drewN | apply Kd.R_drew)); exact (Kd.R_mono (Kd.R_far (p := ⟨gb380, 1, none⟩) (Kd.R_far (p := ⟨gb380, 0, none⟩) (Kd.R_types HO366.out BK380.out (by decide)) (fun _ hk => hk.2) (.bool t376)) (fun _ hk => hk.2) (.slice Ao43 t377.length co43)) (fun _ h_ => h_.1))) (Kd.R_base ho0) hb); replace HO369 := Aside0.mk (Kd.R_elder' (by (with_reducible repeat (first | apply Kd.R_alloc | apply Kd.R_drewN | apply Kd.R_drew)); exact (Kd.R_mono (Kd.R_far (p := ⟨gb380, 1, none⟩) (Kd.R_far (p := ⟨gb380, 0, none⟩) (Kd.R_types HO369.out BK380.out (by decide)) (fun _ hk => hk.2) (.bool t376)) (fun _ hk => hk.2) (.slice Ao43 t377.length co43)) (fun _ h_ => h_.1))) (Kd.R_base ho0) hb); replace HO372 := Aside0.mk (Kd.R_elder' (by (with_reducible repeat (first | apply Kd.R_alloc | apply Kd.R_drewN | apply Kd.R_drew)); exact (Kd.R_mono (Kd.R_far (p := ⟨gb380, 1, none⟩) (Kd.R_far (p := ⟨gb380, 0, none⟩) (Kd.R_types HO372.out BK380.out (by decide)) (fun _ hk => hk.2) (.bool t376)) (fun _ hk => hk.2) (.slice Ao43 t377.length co43)) (fun _ h_ => h_.1))) (Kd.R_base ho0) hb); replace HO375 := Aside0.mk (Kd.R_elder' (by (with_reducible repeat (first | apply Kd.R_alloc | apply Kd.R_drewN | apply Kd.R_drew)); exact (Kd.R_mono (Kd.R_far (p := ⟨gb380, 1, none⟩) (Kd.R_far (p := ⟨gb380, 0, none⟩) (Kd.R_types HO375.out BK380.out (by decide)) (fun _ hk => hk.2) (.bool t376)) (fun _ hk => hk.2) (.slice Ao43 t377.length co43)) (fun _ h_ => h_.1))) (Kd.R_base ho0) hb); replace BK356 := Aside0.mk (blk_below (g := gb356) (o := .cells #[.bool a0_0, .slice A0_1 l0_1.length c0_1] 24 (0, 0)) (by (with_reducible repeat (first | refine blk_drewN ?_ _ | refine blk_drew ?_ | refine blk_alloc ?_ _)); refine blk_far ?_ NB356_380.out _; (with_reducible repeat (first | refine blk_drewN ?_ _ | refine blk_drew ?_ | refine blk_alloc ?_ _)); refine blk_far ?_ NB356_380.out _; (with_reducible repeat (first | refine blk_drewN ?_ _ | refine blk_drew ?_ | refine blk_alloc ?_ _)); exact BK356.out) hb); replace BK357 := Aside0.mk (blk_below (g := gb357) (o := .cells #[.bool a1_0, .slice A1_1 l1_1.length c1_1] 24 (0, 0)) (by (with_reducible repeat (first | refine blk_drewN ?_ _ | refine blk_drew ?_ | refine blk_alloc ?_ _)); refine blk_far ?_ NB357_380.out _; (with_reducible repeat (first | refine blk_drewN ?_ _ | refine blk_drew ?_ | refine blk_alloc ?_ _)); refine blk_far ?_ NB357_380.out _; (with_reducible repeat (first | refine blk_drewN ?_ _ | refine blk_drew ?_ | refine blk_alloc ?_ _)); exact BK357.out) hb); replace BK380 := Aside0.mk (blk_below (g := gb380) (o := .cells #[.bool t376, .slice Ao43 t377.length co43] 24 (0, 0)) (by (with_reducible repeat (first | refine blk_drewN ?_ _ | refine blk_drew ?_ | refine blk_alloc ?_ _)); refine blk_put (cs := #[.bool t376, .slice none 0 0]) ?_ 1 _ rfl; (with_reducible repeat (first | refine blk_drewN ?_ _ | refine blk_drew ?_ | refine blk_alloc ?_ _)); refine blk_put (cs := #[.bool false, .slice none 0 0]) ?_ 0 _ rfl; (with_reducible repeat (first | refine blk_drewN ?_ _ | refine blk_drew ?_ | refine blk_alloc ?_ _)); exact BK380.out) hb); replace HB := Aside0.mk (below_step (bw_ HB) hb); (try clear hb); (try clear hb2); (try clear hk); (try clear hi); (try clear ho0)) | ((with_reducible refine gate_callee (f := 17) rfl ?_); refine gl_ (some 39) rfl rfl Try.func17 (by kernel_rfl) rfl #[.slice Ao33 t361.length co33, .slice Ao31 t364.length co31] rfl ?_; (with_reducible refine (vernierref01_Add.calls k _ _ t361 _ _ t364 t384 _ ?side1 ?side2 ?side3 ?side4 A10.out).mono ?_); (case side1 => repeat (first | exact (Kd.R_reads' HO363.out).2.2 | (with_reducible refine Kd.C_alloc ?_ _) | (with_reducible refine Kd.C_drewN ?_ _) | (with_reducible refine Kd.C_drew ?_))); (case side2 => exact (Kd.R_reads' HO363.out).2.1); (case side3 => repeat (first | exact (Kd.R_reads' HO366.out).2.2 | (with_reducible refine Kd.C_alloc ?_ _) | (with_reducible refine Kd.C_drewN ?_ _) | (with_reducible refine Kd.C_drew ?_))); (case side4 => exact (Kd.R_reads' HO366.out).2.1); rintro e w45 ⟨v385, rfl, ho0, hb⟩; refine ⟨_, rfl, ?_⟩; replace HO379 := Aside0.mk (Kd.R_below (rl_ HO379) hb); have HO386 := Aside0.mk (Kd.R_lower (Kd.R_new' (Kd.R_new' (Kd.R_new' (Kd.R_new' (Kd.R_new' (Kd.R_new' (Kd.R_new' ho0 (Kd.R_lt (rl_ HO360))) (Kd.R_lt (rl_ HO363))) (Kd.R_lt (rl_ HO366))) (Kd.R_lt (rl_ HO369))) (Kd.R_lt (rl_ HO372))) (Kd.R_lt (rl_ HO375))) (Kd.R_lt (rl_ HO383))) (below_size (bw_ HB))); replace HO360 := Aside0.mk (Kd.R_elder' (rl_ HO360) (Kd.R_base ho0) hb); replace HO363 := Aside0.mk (Kd.R_elder' (rl_ HO363) (Kd.R_base ho0) hb); replace HO366 := Aside0.mk (Kd.R_elder' (rl_ HO366) (Kd.R_base ho0) hb); replace HO369 := Aside0.mk (Kd.R_elder' (rl_ HO369) (Kd.R_base ho0) hb); replace HO372 := Aside0.mk (Kd.R_elder' (rl_ HO372) (Kd.R_base ho0) hb); replace HO375 := Aside0.mk (Kd.R_elder' (rl_ HO375) (Kd.R_base ho0) hb); replace HO383 := Aside0.mk (Kd.R_elder' (rl_ HO383) (Kd.R_base ho0) hb); replace BK356 := Aside0.mk (blk_below (bl_ BK356) hb); replace BK357 := Aside0.mk (blk_below (bl_ BK357) hb); replace BK380 := Aside0.mk (blk_below (bl_ BK380) hb); replace HB := Aside0.mk (below_step (bw_ HB) hb); (try clear hb); (try clear hb2); (try clear hk); (try clear hi); (try clear ho0); obtain ⟨Ao46, co46, eo46⟩ := Kd.R_slice HO383.out; subst eo46; obtain ⟨Ao47, co47, eo47⟩ := Kd.R_slice HO386.out; subst eo47) | ((with_reducible refine gate_callee (f := 16) rfl ?_); refine gl_ (some 40) rfl rfl Try.func16 (by kernel_rfl) rfl #[.slice Ao46 t381.length co46, .slice Ao47 t384.length co47] rfl ?_; (with_reducible refine (vernierlaw03_made.calls k _ _ t381 _ _ t384 t387 t388 _ ?side1 ?side2 ?side3 ?side4 A11.out).mono ?_); (case side1 => repeat (first | exact (Kd.R_reads' HO383.out).2.2 | (with_reducible refine Kd.C_alloc ?_ _) | (with_reducible refine Kd.C_drewN ?_ _) | (with_reducible refine Kd.C_drew ?_))); (case side2 => exact (Kd.R_reads' HO383.out).2.1); (case side3 => repeat (first | exact (Kd.R_reads' HO386.out).2.2 | (with_reducible refine Kd.C_alloc ?_ _) | (with_reducible refine Kd.C_drewN ?_ _) | (with_reducible refine Kd.C_drew ?_))); (case side4 => exact (Kd.R_reads' HO386.out).2.1); rintro e w48 ⟨v389, rfl, ho0, hb⟩; refine ⟨_, rfl, ?_⟩; replace HO360 := Aside0.mk (Kd.R_below (rl_ HO360) hb); replace HO363 := Aside0.mk (Kd.R_below (rl_ HO363) hb); replace HO366 := Aside0.mk (Kd.R_below (rl_ HO366) hb); replace HO369 := Aside0.mk (Kd.R_below (rl_ HO369) hb); replace HO372 := Aside0.mk (Kd.R_below (rl_ HO372) hb); replace HO375 := Aside0.mk (Kd.R_below (rl_ HO375) hb); replace HO383 := Aside0.mk (Kd.R_below (rl_ HO383) hb); replace HO386 := Aside0.mk (Kd.R_below (rl_ HO386) hb); have HO390 := Aside0.mk (Kd.R_lower (Kd.R_new' ho0 (Kd.R_lt (rl_ HO379))) (below_size (bw_ HB))); replace HO379 := Aside0.mk (Kd.R_elder' (rl_ HO379) (Kd.R_base ho0) hb); replace BK356 := Aside0.mk (blk_below (bl_ BK356) hb); replace BK357 := Aside0.mk (blk_below (bl_ BK357) hb); replace BK380 := Aside0.mk (blk_below (bl_ BK380) hb); replace HB := Aside0.mk (below_step (bw_ HB) hb); (try clear hb); (try clear hb2); (try clear hk); (try clear hi); (try clear ho0)) | ((with_reducible refine gate_dst (N := 12) rfl ?_); refine box_event ?hg (N := 12) ?hd (cs := #[.bool false, .slice none 0 0]) (t := 24) ?hr ?_; (case hd => rfl); (case hg => rfl); (case hr => first | (go_simp; done) | (go_simp; rfl)); intro gb391 hg w49 hbox hb; replace HO360 := Aside0.mk (Kd.R_below (rl_ HO360) hb); replace HO363 := Aside0.mk (Kd.R_below (rl_ HO363) hb); replace HO366 := Aside0.mk (Kd.R_below (rl_ HO366) hb); replace HO369 := Aside0.mk (Kd.R_below (rl_ HO369) hb); replace HO372 := Aside0.mk (Kd.R_below (rl_ HO372) hb); replace HO375 := Aside0.mk (Kd.R_below (rl_ HO375) hb); replace HO379 := Aside0.mk (Kd.R_below (rl_ HO379) hb); replace HO383 := Aside0.mk (Kd.R_below (rl_ HO383) hb); replace HO386 := Aside0.mk (Kd.R_below (rl_ HO386) hb); replace HO390 := Aside0.mk (Kd.R_below (rl_ HO390) hb); have BK391 := Aside0.mk (hbox); have GW391 := Aside0.mk ((by rw [hg]; exact (below_size (bw_ HB)) : w.heap.size ≤ gb391)); have GE391 := Aside0.mk ((by rw [hg]; exact (below_size (bw_ HB)) : w.heap.size ≤ gb391)); replace HB := Aside0.mk (below_step (bw_ HB) hb); have NB356_391 := Aside0.mk ((by rw [hg]; exact Nat.ne_of_lt (blk_lt (bl_ BK356)) : gb356 ≠ gb391)); have NB391_356 := Aside0.mk ((by rw [hg]; exact Nat.ne_of_gt (blk_lt (bl_ BK356)) : gb391 ≠ gb356)); replace BK356 := Aside0.mk (blk_below (bl_ BK356) hb); have NB357_391 := Aside0.mk ((by rw [hg]; exact Nat.ne_of_lt (blk_lt (bl_ BK357)) : gb357 ≠ gb391)); have NB391_357 := Aside0.mk ((by rw [hg]; exact Nat.ne_of_gt (blk_lt (bl_ BK357)) : gb391 ≠ gb357)); replace BK357 := Aside0.mk (blk_below (bl_ BK357) hb); have NB380_391 := Aside0.mk ((by rw [hg]; exact Nat.ne_of_lt (blk_lt (bl_ BK380)) : gb380 ≠ gb391)); have NB391_380 := Aside0.mk ((by rw [hg]; exact Nat.ne_of_gt (blk_lt (bl_ BK380)) : gb391 ≠ gb380)); replace BK380 := Aside0.mk (blk_below (bl_ BK380) hb); clear hb hbox hg; have hnb50 := NB391_356.out; have hnc50 := NB356_391.out; have hnb51 := NB391_357.out; have hnc51 := NB357_391.out; have hnb52 := NB391_380.out; have hnc52 := NB380_391.out; have hcz53_0 : w49.cell? ⟨gb391, 0, none⟩ = some (.bool false) := (blk_cell BK391.out 0).trans rfl; have hcz53_1 : w49.cell? ⟨gb391, 1, none⟩ = some (.slice none 0 0) := (blk_cell BK391.out 1).trans rfl; have hfz53_0 := blk_frozen BK391.out 0; have hfz53_1 := blk_frozen BK391.out 1; obtain ⟨Ao54, co54, eo54⟩ := Kd.R_slice HO390.out; subst eo54) | ((with_reducible refine gate_callee (f := 18) rfl ?_); refine gl_ (some 43) rfl rfl Try.func18 (by kernel_rfl) rfl #[.slice Ao30 t358.length co30, .slice Ao31 t364.length co31] rfl ?_; (with_reducible refine (vernierref01_Mul.calls k _ _ t358 _ _ t364 t392 _ ?side1 ?side2 ?side3 ?side4 A12.out).mono ?_); (case side1 => refine (Kd.R_reads' (e := 3) (base := w.heap.size) (ok := fun k_ => ((((((some k_ ≠ (.slice Ao33 t361.length co33 : Value).ownBlock ∧ some k_ ≠ (.slice Ao31 t364.length co31 : Value).ownBlock) ∧ some k_ ≠ (.slice Ao34 t367.length co34 : Value).ownBlock) ∧ some k_ ≠ (.slice Ao36 t370.length co36 : Value).ownBlock) ∧ some k_ ≠ (.slice Ao37 t373.length co37 : Value).ownBlock) ∧ some k_ ≠ (.slice Ao46 t381.length co46 : Value).ownBlock) ∧ some k_ ≠ (.slice Ao47 t384.length co47 : Value).ownBlock)) (n := t358.length) (c := co30) ?_).2.2; exact (by (with_reducible repeat (first | apply Kd.R_alloc | apply Kd.R_drewN | apply Kd.R_drew)); exact (Kd.R_mono (Kd.R_far (p := ⟨gb391, 1, none⟩) (Kd.R_far (p := ⟨gb391, 0, none⟩) (Kd.R_types HO360.out BK391.out (by decide)) (fun _ hk => hk.2) (.bool t387)) (fun _ hk => hk.2) (.slice Ao54 t388.length co54)) (fun _ h_ => h_.1)))); (case side2 => exact (Kd.R_reads' HO360.out).2.1); (case side3 => refine (Kd.R_reads' (e := 3) (base := w.heap.size) (ok := fun k_ => ((((((some k_ ≠ (.slice Ao34 t367.length co34 : Value).ownBlock ∧ some k_ ≠ (.slice Ao30 t358.length co30 : Value).ownBlock) ∧ some k_ ≠ (.slice Ao33 t361.length co33 : Value).ownBlock) ∧ some k_ ≠ (.slice Ao36 t370.length co36 : Value).ownBlock) ∧ some k_ ≠ (.slice Ao37 t373.length co37 : Value).ownBlock) ∧ some k_ ≠ (.slice Ao46 t381.length co46 : Value).ownBlock) ∧ some k_ ≠ (.slice Ao47 t384.length co47 : Value).ownBlock)) (n := t364.length) (c := co31) ?_).2.2; exact (by (with_reducible repeat (first | apply Kd.R_alloc | apply Kd.R_drewN | apply Kd.R_drew)); exact (Kd.R_mono (Kd.R_far (p := ⟨gb391, 1, none⟩) (Kd.R_far (p := ⟨gb391, 0, none⟩) (Kd.R_types HO366.out BK391.out (by decide)) (fun _ hk => hk.2) (.bool t387)) (fun _ hk => hk.2) (.slice Ao54 t388.length co54)) (fun _ h_ => h_.1)))); (case side4 => exact (Kd.R_reads' HO366.out).2.1); rintro e w55 ⟨v393, rfl, ho0, hb⟩; refine ⟨_, rfl, ?_⟩; replace HO379 := Aside0.mk (Kd.R_below (by (with_reducible repeat (first | apply Kd.R_alloc | apply Kd.R_drewN | apply Kd.R_drew)); exact (Kd.R_mono (Kd.R_far (p := ⟨gb391, 1, none⟩) (Kd.R_far (p := ⟨gb391, 0, none⟩) (Kd.R_types HO379.out BK391.out (by decide)) (fun _ hk => hk.2) (.bool t387)) (fun _ hk => hk.2) (.slice Ao54 t388.length co54)) (fun _ h_ => h_.1))) hb); replace HO390 := Aside0.mk (Kd.R_below (by (with_reducible repeat (first | apply Kd.R_alloc | apply Kd.R_drewN | apply Kd.R_drew)); exact (Kd.R_mono (Kd.R_far (p := ⟨gb391, 1, none⟩) (Kd.R_far (p := ⟨gb391, 0, none⟩) (Kd.R_types HO390.out BK391.out (by decide)) (fun _ hk => hk.2) (.bool t387)) (fun _ hk => hk.2) (.slice Ao54 t388.length co54)) (fun _ h_ => h_.1))) hb); have HO394 := Aside0.mk (Kd.R_lower (Kd.R_new' (Kd.R_new' (Kd.R_new' (Kd.R_new' (Kd.R_new' (Kd.R_new' (Kd.R_new' (Kd.R_new' ho0 (Kd.R_lt (by (with_reducible repeat (first | apply Kd.R_alloc | apply Kd.R_drewN | apply Kd.R_drew)); exact (Kd.R_mono (Kd.R_far (p := ⟨gb391, 1, none⟩) (Kd.R_far (p := ⟨gb391, 0, none⟩) (Kd.R_types HO360.out BK391.out (by decide)) (fun _ hk => hk.2) (.bool t387)) (fun _ hk => hk.2) (.slice Ao54 t388.length co54)) (fun _ h_ => h_.1))))) (Kd.R_lt (by (with_reducible repeat (first | apply Kd.R_alloc | apply Kd.R_drewN | apply Kd.R_drew)); exact (Kd.R_mono (Kd.R_far (p := ⟨gb391, 1, none⟩) (Kd.R_far (p := ⟨gb391, 0, none⟩) (Kd.R_types HO363.out BK391.out (by decide)) (fun _ hk => hk.2) (.bool t387)) (fun _ hk => hk.2) (.slice Ao54 t388.length co54)) (fun _ h_ => h_.1))))) (Kd.R_lt (by (with_reducible repeat (first | apply Kd.R_alloc | apply Kd.R_drewN | apply Kd.R_drew)); exact (Kd.R_mono (Kd.R_far (p := ⟨gb391, 1, none⟩) (Kd.R_far (p := ⟨gb391, 0, none⟩) (Kd.R_types HO366.out BK391.out (by decide)) (fun _ hk => hk.2) (.bool t387)) (fun _ hk => hk.2) (.slice Ao54 t388.length co54)) (fun _ h_ => h_.1))))) (Kd.R_lt (by (with_reducible repeat (first | apply Kd.R_alloc | apply Kd.R_drewN | apply Kd.R_drew)); exact (Kd.R_mono (Kd.R_far (p := ⟨gb391, 1, none⟩) (Kd.R_far (p := ⟨gb391, 0, none⟩) (Kd.R_types HO369.out BK391.out (by decide)) (fun _ hk => hk.2) (.bool t387)) (fun _ hk => hk.2) (.slice Ao54 t388.length co54)) (fun _ h_ => h_.1))))) (Kd.R_lt (by (with_reducible repeat (first | apply Kd.R_alloc | apply Kd.R_drewN | apply Kd.R_drew)); exact (Kd.R_mono (Kd.R_far (p := ⟨gb391, 1, none⟩) (Kd.R_far (p := ⟨gb391, 0, none⟩) (Kd.R_types HO372.out BK391.out (by decide)) (fun _ hk => hk.2) (.bool t387)) (fun _ hk => hk.2) (.slice Ao54 t388.length co54)) (fun _ h_ => h_.1))))) (Kd.R_lt (by (with_reducible repeat (first | apply Kd.R_alloc | apply Kd.R_drewN | apply Kd.R_drew)); exact (Kd.R_mono (Kd.R_far (p := ⟨gb391, 1, none⟩) (Kd.R_far (p := ⟨gb391, 0, none⟩) (Kd.R_types HO375.out BK391.out (by decide)) (fun _ hk => hk.2) (.bool t387)) (fun _ hk => hk.2) (.slice Ao54 t388.length co54)) (fun _ h_ => h_.1))))) (Kd.R_lt (by (with_reducible repeat (first | apply Kd.R_alloc | apply Kd.R_drewN | apply Kd.R_drew)); exact (Kd.R_mono (Kd.R_far (p := ⟨gb391, 1, none⟩) (Kd.R_far (p := ⟨gb391, 0, none⟩) (Kd.R_types HO383.out BK391.out (by decide)) (fun _ hk => hk.2) (.bool t387)) (fun _ hk => hk.2) (.slice Ao54 t388.length co54)) (fun _ h_ => h_.1))))) (Kd.R_lt (by (with_reducible repeat (first | apply Kd.R_alloc | apply Kd.R_drewN | apply Kd.R_drew)); exact (Kd.R_mono (Kd.R_far (p := ⟨gb391, 1, none⟩) (Kd.R_far (p := ⟨gb391, 0, none⟩) (Kd.R_types HO386.out BK391.out (by decide)) (fun _ hk => hk.2) (.bool t387)) (fun _ hk => hk.2) (.slice Ao54 t388.length co54)) (fun _ h_ => h_.1))))) (below_size (bw_ HB))); replace HO360 := Aside0.mk (Kd.R_elder' (by (with_reducible repeat (first | apply Kd.R_alloc | apply Kd.R_drewN | apply Kd.R_drew)); exact (Kd.R_mono (Kd.R_far (p := ⟨gb391, 1, none⟩) (Kd.R_far (p := ⟨gb391, 0, none⟩) (Kd.R_types HO360.out BK391.out (by decide)) (fun _ hk => hk.2) (.bool t387)) (fun _ hk => hk.2) (.slice Ao54 t388.length co54)) (fun _ h_ => h_.1))) (Kd.R_base ho0) hb); replace HO363 := Aside0.mk (Kd.R_elder' (by (with_reducible repeat (first | apply Kd.R_alloc | apply Kd.R_drewN | apply Kd.R_drew)); exact (Kd.R_mono (Kd.R_far (p := ⟨gb391, 1, none⟩) (Kd.R_far (p := ⟨gb391, 0, none⟩) (Kd.R_types HO363.out BK391.out (by decide)) (fun _ hk => hk.2) (.bool t387)) (fun _ hk => hk.2) (.slice Ao54 t388.length co54)) (fun _ h_ => h_.1))) (Kd.R_base ho0) hb); replace HO366 := Aside0.mk (Kd.R_elder' (by (with_reducible repeat (first | apply Kd.R_alloc | apply Kd.R_drewN | apply Kd.R_drew)); exact (Kd.R_mono (Kd.R_far (p := ⟨gb391, 1, none⟩) (Kd.R_far (p := ⟨gb391, 0, none⟩) (Kd.R_types HO366.out BK391.out (by decide)) (fun _ hk => hk.2) (.bool t387)) (fun _ hk => hk.2) (.slice Ao54 t388.length co54)) (fun _ h_ => h_.1))) (Kd.R_base ho0) hb); replace HO369 := Aside0.mk (Kd.R_elder' (by (with_reducible repeat (first | apply Kd.R_alloc | apply Kd.R_drewN | apply Kd.R_drew)); exact (Kd.R_mono (Kd.R_far (p := ⟨gb391, 1, none⟩) (Kd.R_far (p := ⟨gb391, 0, none⟩) (Kd.R_types HO369.out BK391.out (by decide)) (fun _ hk => hk.2) (.bool t387)) (fun _ hk => hk.2) (.slice Ao54 t388.length co54)) (fun _ h_ => h_.1))) (Kd.R_base ho0) hb); replace HO372 := Aside0.mk (Kd.R_elder' (by (with_reducible repeat (first | apply Kd.R_alloc | apply Kd.R_drewN | apply Kd.R_drew)); exact (Kd.R_mono (Kd.R_far (p := ⟨gb391, 1, none⟩) (Kd.R_far (p := ⟨gb391, 0, none⟩) (Kd.R_types HO372.out BK391.out (by decide)) (fun _ hk => hk.2) (.bool t387)) (fun _ hk => hk.2) (.slice Ao54 t388.length co54)) (fun _ h_ => h_.1))) (Kd.R_base ho0) hb); replace HO375 := Aside0.mk (Kd.R_elder' (by (with_reducible repeat (first | apply Kd.R_alloc | apply Kd.R_drewN | apply Kd.R_drew)); exact (Kd.R_mono (Kd.R_far (p := ⟨gb391, 1, none⟩) (Kd.R_far (p := ⟨gb391, 0, none⟩) (Kd.R_types HO375.out BK391.out (by decide)) (fun _ hk => hk.2) (.bool t387)) (fun _ hk => hk.2) (.slice Ao54 t388.length co54)) (fun _ h_ => h_.1))) (Kd.R_base ho0) hb); replace HO383 := Aside0.mk (Kd.R_elder' (by (with_reducible repeat (first | apply Kd.R_alloc | apply Kd.R_drewN | apply Kd.R_drew)); exact (Kd.R_mono (Kd.R_far (p := ⟨gb391, 1, none⟩) (Kd.R_far (p := ⟨gb391, 0, none⟩) (Kd.R_types HO383.out BK391.out (by decide)) (fun _ hk => hk.2) (.bool t387)) (fun _ hk => hk.2) (.slice Ao54 t388.length co54)) (fun _ h_ => h_.1))) (Kd.R_base ho0) hb); replace HO386 := Aside0.mk (Kd.R_elder' (by (with_reducible repeat (first | apply Kd.R_alloc | apply Kd.R_drewN | apply Kd.R_drew)); exact (Kd.R_mono (Kd.R_far (p := ⟨gb391, 1, none⟩) (Kd.R_far (p := ⟨gb391, 0, none⟩) (Kd.R_types HO386.out BK391.out (by decide)) (fun _ hk => hk.2) (.bool t387)) (fun _ hk => hk.2) (.slice Ao54 t388.length co54)) (fun _ h_ => h_.1))) (Kd.R_base ho0) hb); replace BK356 := Aside0.mk (blk_below (g := gb356) (o := .cells #[.bool a0_0, .slice A0_1 l0_1.length c0_1] 24 (0, 0)) (by (with_reducible repeat (first | refine blk_drewN ?_ _ | refine blk_drew ?_ | refine blk_alloc ?_ _)); refine blk_far ?_ NB356_391.out _; (with_reducible repeat (first | refine blk_drewN ?_ _ | refine blk_drew ?_ | refine blk_alloc ?_ _)); refine blk_far ?_ NB356_391.out _; (with_reducible repeat (first | refine blk_drewN ?_ _ | refine blk_drew ?_ | refine blk_alloc ?_ _)); exact BK356.out) hb); replace BK357 := Aside0.mk (blk_below (g := gb357) (o := .cells #[.bool a1_0, .slice A1_1 l1_1.length c1_1] 24 (0, 0)) (by (with_reducible repeat (first | refine blk_drewN ?_ _ | refine blk_drew ?_ | refine blk_alloc ?_ _)); refine blk_far ?_ NB357_391.out _; (with_reducible repeat (first | refine blk_drewN ?_ _ | refine blk_drew ?_ | refine blk_alloc ?_ _)); refine blk_far ?_ NB357_391.out _; (with_reducible repeat (first | refine blk_drewN ?_ _ | refine blk_drew ?_ | refine blk_alloc ?_ _)); exact BK357.out) hb); replace BK380 := Aside0.mk (blk_below (g := gb380) (o := .cells #[.bool t376, .slice Ao43 t377.length co43] 24 (0, 0)) (by (with_reducible repeat (first | refine blk_drewN ?_ _ | refine blk_drew ?_ | refine blk_alloc ?_ _)); refine blk_far ?_ NB380_391.out _; (with_reducible repeat (first | refine blk_drewN ?_ _ | refine blk_drew ?_ | refine blk_alloc ?_ _)); refine blk_far ?_ NB380_391.out _; (with_reducible repeat (first | refine blk_drewN ?_ _ | refine blk_drew ?_ | refine blk_alloc ?_ _)); exact BK380.out) hb); replace BK391 := Aside0.mk (blk_below (g := gb391) (o := .cells #[.bool t387, .slice Ao54 t388.length co54] 24 (0, 0)) (by (with_reducible repeat (first | refine blk_drewN ?_ _ | refine blk_drew ?_ | refine blk_alloc ?_ _)); refine blk_put (cs := #[.bool t387, .slice none 0 0]) ?_ 1 _ rfl; (with_reducible repeat (first | refine blk_drewN ?_ _ | refine blk_drew ?_ | refine blk_alloc ?_ _)); refine blk_put (cs := #[.bool false, .slice none 0 0]) ?_ 0 _ rfl; (with_reducible repeat (first | refine blk_drewN ?_ _ | refine blk_drew ?_ | refine blk_alloc ?_ _)); exact BK391.out) hb); replace HB := Aside0.mk (below_step (bw_ HB) hb); (try clear hb); (try clear hb2); (try clear hk); (try clear hi); (try clear ho0)) | ((with_reducible refine gate_callee (f := 18) rfl ?_); refine gl_ (some 46) rfl rfl Try.func18 (by kernel_rfl) rfl #[.slice Ao33 t361.length co33, .slice Ao34 t367.length co34] rfl ?_; (with_reducible refine (vernierref01_Mul.calls k _ _ t361 _ _ t367 t395 _ ?side1 ?side2 ?side3 ?side4 A13.out).mono ?_); (case side1 => repeat (first | exact (Kd.R_reads' HO363.out).2.2 | (with_reducible refine Kd.C_alloc ?_ _) | (with_reducible refine Kd.C_drewN ?_ _) | (with_reducible refine Kd.C_drew ?_))); (case side2 => exact (Kd.R_reads' HO363.out).2.1); (case side3 => repeat (first | exact (Kd.R_reads' HO369.out).2.2 | (with_reducible refine Kd.C_alloc ?_ _) | (with_reducible refine Kd.C_drewN ?_ _) | (with_reducible refine Kd.C_drew ?_))); (case side4 => exact (Kd.R_reads' HO369.out).2.1); rintro e w56 ⟨v396, rfl, ho0, hb⟩; refine ⟨_, rfl, ?_⟩; replace HO379 := Aside0.mk (Kd.R_below (rl_ HO379) hb); replace HO390 := Aside0.mk (Kd.R_below (rl_ HO390) hb); have HO397 := Aside0.mk (Kd.R_lower (Kd.R_new' (Kd.R_new' (Kd.R_new' (Kd.R_new' (Kd.R_new' (Kd.R_new' (Kd.R_new' (Kd.R_new' (Kd.R_new' ho0 (Kd.R_lt (rl_ HO360))) (Kd.R_lt (rl_ HO363))) (Kd.R_lt (rl_ HO366))) (Kd.R_lt (rl_ HO369))) (Kd.R_lt (rl_ HO372))) (Kd.R_lt (rl_ HO375))) (Kd.R_lt (rl_ HO383))) (Kd.R_lt (rl_ HO386))) (Kd.R_lt (rl_ HO394))) (below_size (bw_ HB))); replace HO360 := Aside0.mk (Kd.R_elder' (rl_ HO360) (Kd.R_base ho0) hb); replace HO363 := Aside0.mk (Kd.R_elder' (rl_ HO363) (Kd.R_base ho0) hb); replace HO366 := Aside0.mk (Kd.R_elder' (rl_ HO366) (Kd.R_base ho0) hb); replace HO369 := Aside0.mk (Kd.R_elder' (rl_ HO369) (Kd.R_base ho0) hb); replace HO372 := Aside0.mk (Kd.R_elder' (rl_ HO372) (Kd.R_base ho0) hb); replace HO375 := Aside0.mk (Kd.R_elder' (rl_ HO375) (Kd.R_base ho0) hb); replace HO383 := Aside0.mk (Kd.R_elder' (rl_ HO383) (Kd.R_base ho0) hb); replace HO386 := Aside0.mk (Kd.R_elder' (rl_ HO386) (Kd.R_base ho0) hb); replace HO394 := Aside0.mk (Kd.R_elder' (rl_ HO394) (Kd.R_base ho0) hb); replace BK356 := Aside0.mk (blk_below (bl_ BK356) hb); replace BK357 := Aside0.mk (blk_below (bl_ BK357) hb); replace BK380 := Aside0.mk (blk_below (bl_ BK380) hb); replace BK391 := Aside0.mk (blk_below (bl_ BK391) hb); replace HB := Aside0.mk (below_step (bw_ HB) hb); (try clear hb); (try clear hb2); (try clear hk); (try clear hi); (try clear ho0); obtain ⟨Ao57, co57, eo57⟩ := Kd.R_slice HO394.out; subst eo57; obtain ⟨Ao58, co58, eo58⟩ := Kd.R_slice HO397.out; subst eo58) | ((with_reducible refine gate_callee (f := 17) rfl ?_); refine gl_ (some 47) rfl rfl Try.func17 (by kernel_rfl) rfl #[.slice Ao57 t392.length co57, .slice Ao58 t395.length co58] rfl ?_; (with_reducible refine (vernierref01_Add.calls k _ _ t392 _ _ t395 t398 _ ?side1 ?side2 ?side3 ?side4 A14.out).mono ?_); (case side1 => repeat (first | exact (Kd.R_reads' HO394.out).2.2 | (with_reducible refine Kd.C_alloc ?_ _) | (with_reducible refine Kd.C_drewN ?_ _) | (with_reducible refine Kd.C_drew ?_))); (case side2 => exact (Kd.R_reads' HO394.out).2.1); (case side3 => repeat (first | exact (Kd.R_reads' HO397.out).2.2 | (with_reducible refine Kd.C_alloc ?_ _) | (with_reducible refine Kd.C_drewN ?_ _) | (with_reducible refine Kd.C_drew ?_))); (case side4 => exact (Kd.R_reads' HO397.out).2.1); rintro e w59 ⟨v399, rfl, ho0, hb⟩; refine ⟨_, rfl, ?_⟩; replace HO379 := Aside0.mk (Kd.R_below (rl_ HO379) hb); replace HO390 := Aside0.mk (Kd.R_below (rl_ HO390) hb); have HO400 := Aside0.mk (Kd.R_lower (Kd.R_new' (Kd.R_new' (Kd.R_new' (Kd.R_new' (Kd.R_new' (Kd.R_new' (Kd.R_new' (Kd.R_new' (Kd.R_new' (Kd.R_new' ho0 (Kd.R_lt (rl_ HO360))) (Kd.R_lt (rl_ HO363))) (Kd.R_lt (rl_ HO366))) (Kd.R_lt (rl_ HO369))) (Kd.R_lt (rl_ HO372))) (Kd.R_lt (rl_ HO375))) (Kd.R_lt (rl_ HO383))) (Kd.R_lt (rl_ HO386))) (Kd.R_lt (rl_ HO394))) (Kd.R_lt (rl_ HO397))) (below_size (bw_ HB))); replace HO360 := Aside0.mk (Kd.R_elder' (rl_ HO360) (Kd.R_base ho0) hb); replace HO363 := Aside0.mk (Kd.R_elder' (rl_ HO363) (Kd.R_base ho0) hb); replace HO366 := Aside0.mk (Kd.R_elder' (rl_ HO366) (Kd.R_base ho0) hb); replace HO369 := Aside0.mk (Kd.R_elder' (rl_ HO369) (Kd.R_base ho0) hb); replace HO372 := Aside0.mk (Kd.R_elder' (rl_ HO372) (Kd.R_base ho0) hb); replace HO375 := Aside0.mk (Kd.R_elder' (rl_ HO375) (Kd.R_base ho0) hb); replace HO383 := Aside0.mk (Kd.R_elder' (rl_ HO383) (Kd.R_base ho0) hb); replace HO386 := Aside0.mk (Kd.R_elder' (rl_ HO386) (Kd.R_base ho0) hb); replace HO394 := Aside0.mk (Kd.R_elder' (rl_ HO394) (Kd.R_base ho0) hb); replace HO397 := Aside0.mk (Kd.R_elder' (rl_ HO397) (Kd.R_base ho0) hb); replace BK356 := Aside0.mk (blk_below (bl_ BK356) hb); replace BK357 := Aside0.mk (blk_below (bl_ BK357) hb); replace BK380 := Aside0.mk (blk_below (bl_ BK380) hb); replace BK391 := Aside0.mk (blk_below (bl_ BK391) hb); replace HB := Aside0.mk (below_step (bw_ HB) hb); (try clear hb); (try clear hb2); (try clear hk); (try clear hi); (try clear ho0)) | ((with_reducible refine gate_callee (f := 18) rfl ?_); refine gl_ (some 50) rfl rfl Try.func18 (by kernel_rfl) rfl #[.slice Ao30 t358.length co30, .slice Ao34 t367.length co34] rfl ?_; (with_reducible refine (vernierref01_Mul.calls k _ _ t358 _ _ t367 t401 _ ?side1 ?side2 ?side3 ?side4 A15.out).mono ?_); (case side1 => repeat (first | exact (Kd.R_reads' HO360.out).2.2 | (with_reducible refine Kd.C_alloc ?_ _) | (with_reducible refine Kd.C_drewN ?_ _) | (with_reducible refine Kd.C_drew ?_))); (case side2 => exact (Kd.R_reads' HO360.out).2.1); (case side3 => repeat (first | exact (Kd.R_reads' HO369.out).2.2 | (with_reducible refine Kd.C_alloc ?_ _) | (with_reducible refine Kd.C_drewN ?_ _) | (with_reducible refine Kd.C_drew ?_))); (case side4 => exact (Kd.R_reads' HO369.out).2.1); rintro e w60 ⟨v402, rfl, ho0, hb⟩; refine ⟨_, rfl, ?_⟩; replace HO379 := Aside0.mk (Kd.R_below (rl_ HO379) hb); replace HO390 := Aside0.mk (Kd.R_below (rl_ HO390) hb); have HO403 := Aside0.mk (Kd.R_lower (Kd.R_new' (Kd.R_new' (Kd.R_new' (Kd.R_new' (Kd.R_new' (Kd.R_new' (Kd.R_new' (Kd.R_new' (Kd.R_new' (Kd.R_new' (Kd.R_new' ho0 (Kd.R_lt (rl_ HO360))) (Kd.R_lt (rl_ HO363))) (Kd.R_lt (rl_ HO366))) (Kd.R_lt (rl_ HO369))) (Kd.R_lt (rl_ HO372))) (Kd.R_lt (rl_ HO375))) (Kd.R_lt (rl_ HO383))) (Kd.R_lt (rl_ HO386))) (Kd.R_lt (rl_ HO394))) (Kd.R_lt (rl_ HO397))) (Kd.R_lt (rl_ HO400))) (below_size (bw_ HB))); replace HO360 := Aside0.mk (Kd.R_elder' (rl_ HO360) (Kd.R_base ho0) hb); replace HO363 := Aside0.mk (Kd.R_elder' (rl_ HO363) (Kd.R_base ho0) hb); replace HO366 := Aside0.mk (Kd.R_elder' (rl_ HO366) (Kd.R_base ho0) hb); replace HO369 := Aside0.mk (Kd.R_elder' (rl_ HO369) (Kd.R_base ho0) hb); replace HO372 := Aside0.mk (Kd.R_elder' (rl_ HO372) (Kd.R_base ho0) hb); replace HO375 := Aside0.mk (Kd.R_elder' (rl_ HO375) (Kd.R_base ho0) hb); replace HO383 := Aside0.mk (Kd.R_elder' (rl_ HO383) (Kd.R_base ho0) hb); replace HO386 := Aside0.mk (Kd.R_elder' (rl_ HO386) (Kd.R_base ho0) hb); replace HO394 := Aside0.mk (Kd.R_elder' (rl_ HO394) (Kd.R_base ho0) hb); replace HO397 := Aside0.mk (Kd.R_elder' (rl_ HO397) (Kd.R_base ho0) hb); replace HO400 := Aside0.mk (Kd.R_elder' (rl_ HO400) (Kd.R_base ho0) hb); replace BK356 := Aside0.mk (blk_below (bl_ BK356) hb); replace BK357 := Aside0.mk (blk_below (bl_ BK357) hb); replace BK380 := Aside0.mk (blk_below (bl_ BK380) hb); replace BK391 := Aside0.mk (blk_below (bl_ BK391) hb); replace HB := Aside0.mk (below_step (bw_ HB) hb); (try clear hb); (try clear hb2); (try clear hk); (try clear hi); (try clear ho0)) | ((with_reducible refine gate_callee (f := 18) rfl ?_); refine gl_ (some 53) rfl rfl Try.func18 (by kernel_rfl) rfl #[.slice Ao33 t361.length co33, .slice Ao31 t364.length co31] rfl ?_; (with_reducible refine (vernierref01_Mul.calls k _ _ t361 _ _ t364 t404 _ ?side1 ?side2 ?side3 ?side4 A16.out).mono ?_); (case side1 => repeat (first | exact (Kd.R_reads' HO363.out).2.2 | (with_reducible refine Kd.C_alloc ?_ _) | (with_reducible refine Kd.C_drewN ?_ _) | (with_reducible refine Kd.C_drew ?_))); (case side2 => exact (Kd.R_reads' HO363.out).2.1); (case side3 => repeat (first | exact (Kd.R_reads' HO366.out).2.2 | (with_reducible refine Kd.C_alloc ?_ _) | (with_reducible refine Kd.C_drewN ?_ _) | (with_reducible refine Kd.C_drew ?_))); (case side4 => exact (Kd.R_reads' HO366.out).2.1); rintro e w61 ⟨v405, rfl, ho0, hb⟩; refine ⟨_, rfl, ?_⟩; replace HO379 := Aside0.mk (Kd.R_below (rl_ HO379) hb); replace HO390 := Aside0.mk (Kd.R_below (rl_ HO390) hb); have HO406 := Aside0.mk (Kd.R_lower (Kd.R_new' (Kd.R_new' (Kd.R_new' (Kd.R_new' (Kd.R_new' (Kd.R_new' (Kd.R_new' (Kd.R_new' (Kd.R_new' (Kd.R_new' (Kd.R_new' (Kd.R_new' ho0 (Kd.R_lt (rl_ HO360))) (Kd.R_lt (rl_ HO363))) (Kd.R_lt (rl_ HO366))) (Kd.R_lt (rl_ HO369))) (Kd.R_lt (rl_ HO372))) (Kd.R_lt (rl_ HO375))) (Kd.R_lt (rl_ HO383))) (Kd.R_lt (rl_ HO386))) (Kd.R_lt (rl_ HO394))) (Kd.R_lt (rl_ HO397))) (Kd.R_lt (rl_ HO400))) (Kd.R_lt (rl_ HO403))) (below_size (bw_ HB))); replace HO360 := Aside0.mk (Kd.R_elder' (rl_ HO360) (Kd.R_base ho0) hb); replace HO363 := Aside0.mk (Kd.R_elder' (rl_ HO363) (Kd.R_base ho0) hb); replace HO366 := Aside0.mk (Kd.R_elder' (rl_ HO366) (Kd.R_base ho0) hb); replace HO369 := Aside0.mk (Kd.R_elder' (rl_ HO369) (Kd.R_base ho0) hb); replace HO372 := Aside0.mk (Kd.R_elder' (rl_ HO372) (Kd.R_base ho0) hb); replace HO375 := Aside0.mk (Kd.R_elder' (rl_ HO375) (Kd.R_base ho0) hb); replace HO383 := Aside0.mk (Kd.R_elder' (rl_ HO383) (Kd.R_base ho0) hb); replace HO386 := Aside0.mk (Kd.R_elder' (rl_ HO386) (Kd.R_base ho0) hb); replace HO394 := Aside0.mk (Kd.R_elder' (rl_ HO394) (Kd.R_base ho0) hb); replace HO397 := Aside0.mk (Kd.R_elder' (rl_ HO397) (Kd.R_base ho0) hb); replace HO400 := Aside0.mk (Kd.R_elder' (rl_ HO400) (Kd.R_base ho0) hb); replace HO403 := Aside0.mk (Kd.R_elder' (rl_ HO403) (Kd.R_base ho0) hb); replace BK356 := Aside0.mk (blk_below (bl_ BK356) hb); replace BK357 := Aside0.mk (blk_below (bl_ BK357) hb); replace BK380 := Aside0.mk (blk_below (bl_ BK380) hb); replace BK391 := Aside0.mk (blk_below (bl_ BK391) hb); replace HB := Aside0.mk (below_step (bw_ HB) hb); (try clear hb); (try clear hb2); (try clear hk); (try clear hi); (try clear ho0); obtain ⟨Ao62, co62, eo62⟩ := Kd.R_slice HO403.out; subst eo62; obtain ⟨Ao63, co63, eo63⟩ := Kd.R_slice HO406.out; subst eo63) | ((with_reducible refine gate_callee (f := 17) rfl ?_); refine gl_ (some 54) rfl rfl Try.func17 (by kernel_rfl) rfl #[.slice Ao62 t401.length co62, .slice Ao63 t404.length co63] rfl ?_; (with_reducible refine (vernierref01_Add.calls k _ _ t401 _ _ t404 t407 _ ?side1 ?side2 ?side3 ?side4 A17.out).mono ?_); (case side1 => repeat (first | exact (Kd.R_reads' HO403.out).2.2 | (with_reducible refine Kd.C_alloc ?_ _) | (with_reducible refine Kd.C_drewN ?_ _) | (with_reducible refine Kd.C_drew ?_))); (case side2 => exact (Kd.R_reads' HO403.out).2.1); (case side3 => repeat (first | exact (Kd.R_reads' HO406.out).2.2 | (with_reducible refine Kd.C_alloc ?_ _) | (with_reducible refine Kd.C_drewN ?_ _) | (with_reducible refine Kd.C_drew ?_))); (case side4 => exact (Kd.R_reads' HO406.out).2.1); rintro e w64 ⟨v408, rfl, ho0, hb⟩; refine ⟨_, rfl, ?_⟩; replace HO379 := Aside0.mk (Kd.R_below (rl_ HO379) hb); replace HO390 := Aside0.mk (Kd.R_below (rl_ HO390) hb); have HO409 := Aside0.mk (Kd.R_lower (Kd.R_new' (Kd.R_new' (Kd.R_new' (Kd.R_new' (Kd.R_new' (Kd.R_new' (Kd.R_new' (Kd.R_new' (Kd.R_new' (Kd.R_new' (Kd.R_new' (Kd.R_new' (Kd.R_new' ho0 (Kd.R_lt (rl_ HO360))) (Kd.R_lt (rl_ HO363))) (Kd.R_lt (rl_ HO366))) (Kd.R_lt (rl_ HO369))) (Kd.R_lt (rl_ HO372))) (Kd.R_lt (rl_ HO375))) (Kd.R_lt (rl_ HO383))) (Kd.R_lt (rl_ HO386))) (Kd.R_lt (rl_ HO394))) (Kd.R_lt (rl_ HO397))) (Kd.R_lt (rl_ HO400))) (Kd.R_lt (rl_ HO403))) (Kd.R_lt (rl_ HO406))) (below_size (bw_ HB))); replace HO360 := Aside0.mk (Kd.R_elder' (rl_ HO360) (Kd.R_base ho0) hb); replace HO363 := Aside0.mk (Kd.R_elder' (rl_ HO363) (Kd.R_base ho0) hb); replace HO366 := Aside0.mk (Kd.R_elder' (rl_ HO366) (Kd.R_base ho0) hb); replace HO369 := Aside0.mk (Kd.R_elder' (rl_ HO369) (Kd.R_base ho0) hb); replace HO372 := Aside0.mk (Kd.R_elder' (rl_ HO372) (Kd.R_base ho0) hb); replace HO375 := Aside0.mk (Kd.R_elder' (rl_ HO375) (Kd.R_base ho0) hb); replace HO383 := Aside0.mk (Kd.R_elder' (rl_ HO383) (Kd.R_base ho0) hb); replace HO386 := Aside0.mk (Kd.R_elder' (rl_ HO386) (Kd.R_base ho0) hb); replace HO394 := Aside0.mk (Kd.R_elder' (rl_ HO394) (Kd.R_base ho0) hb); replace HO397 := Aside0.mk (Kd.R_elder' (rl_ HO397) (Kd.R_base ho0) hb); replace HO400 := Aside0.mk (Kd.R_elder' (rl_ HO400) (Kd.R_base ho0) hb); replace HO403 := Aside0.mk (Kd.R_elder' (rl_ HO403) (Kd.R_base ho0) hb); replace HO406 := Aside0.mk (Kd.R_elder' (rl_ HO406) (Kd.R_base ho0) hb); replace BK356 := Aside0.mk (blk_below (bl_ BK356) hb); replace BK357 := Aside0.mk (blk_below (bl_ BK357) hb); replace BK380 := Aside0.mk (blk_below (bl_ BK380) hb); replace BK391 := Aside0.mk (blk_below (bl_ BK391) hb); replace HB := Aside0.mk (below_step (bw_ HB) hb); (try clear hb); (try clear hb2); (try clear hk); (try clear hi); (try clear ho0); obtain ⟨Ao65, co65, eo65⟩ := Kd.R_slice HO400.out; subst eo65; obtain ⟨Ao66, co66, eo66⟩ := Kd.R_slice HO409.out; subst eo66) | ((with_reducible refine gate_callee (f := 16) rfl ?_); refine gl_ (some 55) rfl rfl Try.func16 (by kernel_rfl) rfl #[.slice Ao65 t398.length co65, .slice Ao66 t407.length co66] rfl ?_; (with_reducible refine (vernierlaw03_made.calls k _ _ t398 _ _ t407 t410 t411 _ ?side1 ?side2 ?side3 ?side4 A18.out).mono ?_); (case side1 => repeat (first | exact (Kd.R_reads' HO400.out).2.2 | (with_reducible refine Kd.C_alloc ?_ _) | (with_reducible refine Kd.C_drewN ?_ _) | (with_reducible refine Kd.C_drew ?_))); (case side2 => exact (Kd.R_reads' HO400.out).2.1); (case side3 => repeat (first | exact (Kd.R_reads' HO409.out).2.2 | (with_reducible refine Kd.C_alloc ?_ _) | (with_reducible refine Kd.C_drewN ?_ _) | (with_reducible refine Kd.C_drew ?_))); (case side4 => exact (Kd.R_reads' HO409.out).2.1); rintro e w67 ⟨v412, rfl, ho0, hb⟩; refine ⟨_, rfl, ?_⟩; replace HO360 := Aside0.mk (Kd.R_below (rl_ HO360) hb); replace HO363 := Aside0.mk (Kd.R_below (rl_ HO363) hb); replace HO366 := Aside0.mk (Kd.R_below (rl_ HO366) hb); replace HO369 := Aside0.mk (Kd.R_below (rl_ HO369) hb); replace HO372 := Aside0.mk (Kd.R_below (rl_ HO372) hb); replace HO375 := Aside0.mk (Kd.R_below (rl_ HO375) hb); replace HO383 := Aside0.mk (Kd.R_below (rl_ HO383) hb); replace HO386 := Aside0.mk (Kd.R_below (rl_ HO386) hb); replace HO394 := Aside0.mk (Kd.R_below (rl_ HO394) hb); replace HO397 := Aside0.mk (Kd.R_below (rl_ HO397) hb); replace HO400 := Aside0.mk (Kd.R_below (rl_ HO400) hb); replace HO403 := Aside0.mk (Kd.R_below (rl_ HO403) hb); replace HO406 := Aside0.mk (Kd.R_below (rl_ HO406) hb); replace HO409 := Aside0.mk (Kd.R_below (rl_ HO409) hb); have HO413 := Aside0.mk (Kd.R_lower (Kd.R_new' (Kd.R_new' ho0 (Kd.R_lt (rl_ HO379))) (Kd.R_lt (rl_ HO390))) (below_size (bw_ HB))); replace HO379 := Aside0.mk (Kd.R_elder' (rl_ HO379) (Kd.R_base ho0) hb); replace HO390 := Aside0.mk (Kd.R_elder' (rl_ HO390) (Kd.R_base ho0) hb); replace BK356 := Aside0.mk (blk_below (bl_ BK356) hb); replace BK357 := Aside0.mk (blk_below (bl_ BK357) hb); replace BK380 := Aside0.mk (blk_below (bl_ BK380) hb); replace BK391 := Aside0.mk (blk_below (bl_ BK391) hb); replace HB := Aside0.mk (below_step (bw_ HB) hb); (try clear hb); (try clear hb2); (try clear hk); (try clear hi); (try clear ho0)) | ((with_reducible refine gate_dst (N := 13) rfl ?_); refine box_event ?hg (N := 13) ?hd (cs := #[.bool false, .slice none 0 0]) (t := 24) ?hr ?_; (case hd => rfl); (case hg => rfl); (case hr => first | (go_simp; done) | (go_simp; rfl)); intro gb414 hg w68 hbox hb; replace HO360 := Aside0.mk (Kd.R_below (rl_ HO360) hb); replace HO363 := Aside0.mk (Kd.R_below (rl_ HO363) hb); replace HO366 := Aside0.mk (Kd.R_below (rl_ HO366) hb); replace HO369 := Aside0.mk (Kd.R_below (rl_ HO369) hb); replace HO372 := Aside0.mk (Kd.R_below (rl_ HO372) hb); replace HO375 := Aside0.mk (Kd.R_below (rl_ HO375) hb); replace HO379 := Aside0.mk (Kd.R_below (rl_ HO379) hb); replace HO383 := Aside0.mk (Kd.R_below (rl_ HO383) hb); replace HO386 := Aside0.mk (Kd.R_below (rl_ HO386) hb); replace HO390 := Aside0.mk (Kd.R_below (rl_ HO390) hb); replace HO394 := Aside0.mk (Kd.R_below (rl_ HO394) hb); replace HO397 := Aside0.mk (Kd.R_below (rl_ HO397) hb); replace HO400 := Aside0.mk (Kd.R_below (rl_ HO400) hb); replace HO403 := Aside0.mk (Kd.R_below (rl_ HO403) hb); replace HO406 := Aside0.mk (Kd.R_below (rl_ HO406) hb); replace HO409 := Aside0.mk (Kd.R_below (rl_ HO409) hb); replace HO413 := Aside0.mk (Kd.R_below (rl_ HO413) hb); have BK414 := Aside0.mk (hbox); have GW414 := Aside0.mk ((by rw [hg]; exact (below_size (bw_ HB)) : w.heap.size ≤ gb414)); have GE414 := Aside0.mk ((by rw [hg]; exact (below_size (bw_ HB)) : w.heap.size ≤ gb414)); replace HB := Aside0.mk (below_step (bw_ HB) hb); have NB356_414 := Aside0.mk ((by rw [hg]; exact Nat.ne_of_lt (blk_lt (bl_ BK356)) : gb356 ≠ gb414)); have NB414_356 := Aside0.mk ((by rw [hg]; exact Nat.ne_of_gt (blk_lt (bl_ BK356)) : gb414 ≠ gb356)); replace BK356 := Aside0.mk (blk_below (bl_ BK356) hb); have NB357_414 := Aside0.mk ((by rw [hg]; exact Nat.ne_of_lt (blk_lt (bl_ BK357)) : gb357 ≠ gb414)); have NB414_357 := Aside0.mk ((by rw [hg]; exact Nat.ne_of_gt (blk_lt (bl_ BK357)) : gb414 ≠ gb357)); replace BK357 := Aside0.mk (blk_below (bl_ BK357) hb); have NB380_414 := Aside0.mk ((by rw [hg]; exact Nat.ne_of_lt (blk_lt (bl_ BK380)) : gb380 ≠ gb414)); have NB414_380 := Aside0.mk ((by rw [hg]; exact Nat.ne_of_gt (blk_lt (bl_ BK380)) : gb414 ≠ gb380)); replace BK380 := Aside0.mk (blk_below (bl_ BK380) hb); have NB391_414 := Aside0.mk ((by rw [hg]; exact Nat.ne_of_lt (blk_lt (bl_ BK391)) : gb391 ≠ gb414)); have NB414_391 := Aside0.mk ((by rw [hg]; exact Nat.ne_of_gt (blk_lt (bl_ BK391)) : gb414 ≠ gb391)); replace BK391 := Aside0.mk (blk_below (bl_ BK391) hb); clear hb hbox hg; have hnb69 := NB414_356.out; have hnc69 := NB356_414.out; have hnb70 := NB414_357.out; have hnc70 := NB357_414.out; have hnb71 := NB414_380.out; have hnc71 := NB380_414.out; have hnb72 := NB414_391.out; have hnc72 := NB391_414.out; have hcz73_0 : w68.cell? ⟨gb414, 0, none⟩ = some (.bool false) := (blk_cell BK414.out 0).trans rfl; have hcz73_1 : w68.cell? ⟨gb414, 1, none⟩ = some (.slice none 0 0) := (blk_cell BK414.out 1).trans rfl; have hfz73_0 := blk_frozen BK414.out 0; have hfz73_1 := blk_frozen BK414.out 1; obtain ⟨Ao74, co74, eo74⟩ := Kd.R_slice HO413.out; subst eo74) | ((with_reducible refine gate_callee (f := 17) rfl ?_); refine gl_ (some 58) rfl rfl Try.func17 (by kernel_rfl) rfl #[.slice Ao30 t358.length co30, .slice Ao34 t367.length co34] rfl ?_; (with_reducible refine (vernierref01_Add.calls k _ _ t358 _ _ t367 t415 _ ?side1 ?side2 ?side3 ?side4 A19.out).mono ?_); (case side1 => refine (Kd.R_reads' (e := 3) (base := w.heap.size) (ok := fun k_ => ((((((((((((some k_ ≠ (.slice Ao33 t361.length co33 : Value).ownBlock ∧ some k_ ≠ (.slice Ao31 t364.length co31 : Value).ownBlock) ∧ some k_ ≠ (.slice Ao34 t367.length co34 : Value).ownBlock) ∧ some k_ ≠ (.slice Ao36 t370.length co36 : Value).ownBlock) ∧ some k_ ≠ (.slice Ao37 t373.length co37 : Value).ownBlock) ∧ some k_ ≠ (.slice Ao46 t381.length co46 : Value).ownBlock) ∧ some k_ ≠ (.slice Ao47 t384.length co47 : Value).ownBlock) ∧ some k_ ≠ (.slice Ao57 t392.length co57 : Value).ownBlock) ∧ some k_ ≠ (.slice Ao58 t395.length co58 : Value).ownBlock) ∧ some k_ ≠ (.slice Ao65 t398.length co65 : Value).ownBlock) ∧ some k_ ≠ (.slice Ao62 t401.length co62 : Value).ownBlock) ∧ some k_ ≠ (.slice Ao63 t404.length co63 : Value).ownBlock) ∧ some k_ ≠ (.slice Ao66 t407.length co66 : Value).ownBlock)) (n := t358.length) (c := co30) ?_).2.2; exact (by (with_reducible repeat (first | apply Kd.R_alloc | apply Kd.R_drewN | apply Kd.R_drew)); exact (Kd.R_mono (Kd.R_far (p := ⟨gb414, 1, none⟩) (Kd.R_far (p := ⟨gb414, 0, none⟩) (Kd.R_types HO360.out BK414.out (by decide)) (fun _ hk => hk.2) (.bool t410)) (fun _ hk => hk.2) (.slice Ao74 t411.length co74)) (fun _ h_ => h_.1)))); (case side2 => exact (Kd.R_reads' HO360.out).2.1); (case side3 => refine (Kd.R_reads' (e := 3) (base := w.heap.size) (ok := fun k_ => ((((((((((((some k_ ≠ (.slice Ao31 t364.length co31 : Value).ownBlock ∧ some k_ ≠ (.slice Ao30 t358.length co30 : Value).ownBlock) ∧ some k_ ≠ (.slice Ao33 t361.length co33 : Value).ownBlock) ∧ some k_ ≠ (.slice Ao36 t370.length co36 : Value).ownBlock) ∧ some k_ ≠ (.slice Ao37 t373.length co37 : Value).ownBlock) ∧ some k_ ≠ (.slice Ao46 t381.length co46 : Value).ownBlock) ∧ some k_ ≠ (.slice Ao47 t384.length co47 : Value).ownBlock) ∧ some k_ ≠ (.slice Ao57 t392.length co57 : Value).ownBlock) ∧ some k_ ≠ (.slice Ao58 t395.length co58 : Value).ownBlock) ∧ some k_ ≠ (.slice Ao65 t398.length co65 : Value).ownBlock) ∧ some k_ ≠ (.slice Ao62 t401.length co62 : Value).ownBlock) ∧ some k_ ≠ (.slice Ao63 t404.length co63 : Value).ownBlock) ∧ some k_ ≠ (.slice Ao66 t407.length co66 : Value).ownBlock)) (n := t367.length) (c := co34) ?_).2.2; exact (by (with_reducible repeat (first | apply Kd.R_alloc | apply Kd.R_drewN | apply Kd.R_drew)); exact (Kd.R_mono (Kd.R_far (p := ⟨gb414, 1, none⟩) (Kd.R_far (p := ⟨gb414, 0, none⟩) (Kd.R_types HO369.out BK414.out (by decide)) (fun _ hk => hk.2) (.bool t410)) (fun _ hk => hk.2) (.slice Ao74 t411.length co74)) (fun _ h_ => h_.1)))); (case side4 => exact (Kd.R_reads' HO369.out).2.1); rintro e w75 ⟨v416, rfl, ho0, hb⟩; refine ⟨_, rfl, ?_⟩; replace HO379 := Aside0.mk (Kd.R_below (by (with_reducible repeat (first | apply Kd.R_alloc | apply Kd.R_drewN | apply Kd.R_drew)); exact (Kd.R_mono (Kd.R_far (p := ⟨gb414, 1, none⟩) (Kd.R_far (p := ⟨gb414, 0, none⟩) (Kd.R_types HO379.out BK414.out (by decide)) (fun _ hk => hk.2) (.bool t410)) (fun _ hk => hk.2) (.slice Ao74 t411.length co74)) (fun _ h_ => h_.1))) hb); replace HO390 := Aside0.mk (Kd.R_below (by (with_reducible repeat (first | apply Kd.R_alloc | apply Kd.R_drewN | apply Kd.R_drew)); exact (Kd.R_mono (Kd.R_far (p := ⟨gb414, 1, none⟩) (Kd.R_far (p := ⟨gb414, 0, none⟩) (Kd.R_types HO390.out BK414.out (by decide)) (fun _ hk => hk.2) (.bool t410)) (fun _ hk => hk.2) (.slice Ao74 t411.length co74)) (fun _ h_ => h_.1))) hb); replace HO413 := Aside0.mk (Kd.R_below (by (with_reducible repeat (first | apply Kd.R_alloc | apply Kd.R_drewN | apply Kd.R_drew)); exact (Kd.R_mono (Kd.R_far (p := ⟨gb414, 1, none⟩) (Kd.R_far (p := ⟨gb414, 0, none⟩) (Kd.R_types HO413.out BK414.out (by decide)) (fun _ hk => hk.2) (.bool t410)) (fun _ hk => hk.2) (.slice Ao74 t411.length co74)) (fun _ h_ => h_.1))) hb); have HO417 := Aside0.mk (Kd.R_lower (Kd.R_new' (Kd.R_new' (Kd.R_new' (Kd.R_new' (Kd.R_new' (Kd.R_new' (Kd.R_new' (Kd.R_new' (Kd.R_new' (Kd.R_new' (Kd.R_new' (Kd.R_new' (Kd.R_new' (Kd.R_new' ho0 (Kd.R_lt (by (with_reducible repeat (first | apply Kd.R_alloc | apply Kd.R_drewN | apply Kd.R_drew)); exact (Kd.R_mono (Kd.R_far (p := ⟨gb414, 1, none⟩) (Kd.R_far (p := ⟨gb414, 0, none⟩) (Kd.R_types HO360.out BK414.out (by decide)) (fun _ hk => hk.2) (.bool t410)) (fun _ hk => hk.2) (.slice Ao74 t411.length co74)) (fun _ h_ => h_.1))))) (Kd.R_lt (by (with_reducible repeat (first | apply Kd.R_alloc | apply Kd.R_drewN | apply Kd.R_drew)); exact (Kd.R_mono (Kd.R_far (p := ⟨gb414, 1, none⟩) (Kd.R_far (p := ⟨gb414, 0, none⟩) (Kd.R_types HO363.out BK414.out (by decide)) (fun _ hk => hk.2) (.bool t410)) (fun _ hk => hk.2) (.slice Ao74 t411.length co74)) (fun _ h_ => h_.1))))) (Kd.R_lt (by (with_reducible repeat (first | apply Kd.R_alloc | apply Kd.R_drewN | apply Kd.R_drew)); exact (Kd.R_mono (Kd.R_far (p := ⟨gb414, 1, none⟩) (Kd.R_far (p := ⟨gb414, 0, none⟩) (Kd.R_types HO366.out BK414.out (by decide)) (fun _ hk => hk.2) (.bool t410)) (fun _ hk => hk.2) (.slice Ao74 t411.length co74)) (fun _ h_ => h_.1))))) (Kd.R_lt (by (with_reducible repeat (first | apply Kd.R_alloc | apply Kd.R_drewN | apply Kd.R_drew)); exact (Kd.R_mono (Kd.R_far (p := ⟨gb414, 1, none⟩) (Kd.R_far (p := ⟨gb414, 0, none⟩) (Kd.R_types HO369.out BK414.out (by decide)) (fun _ hk => hk.2) (.bool t410)) (fun _ hk => hk.2) (.slice Ao74 t411.length co74)) (fun _ h_ => h_.1))))) (Kd.R_lt (by (with_reducible repeat (first | apply Kd.R_alloc | apply Kd.R_drewN | apply Kd.R_drew)); exact (Kd.R_mono (Kd.R_far (p := ⟨gb414, 1, none⟩) (Kd.R_far (p := ⟨gb414, 0, none⟩) (Kd.R_types HO372.out BK414.out (by decide)) (fun _ hk => hk.2) (.bool t410)) (fun _ hk => hk.2) (.slice Ao74 t411.length co74)) (fun _ h_ => h_.1))))) (Kd.R_lt (by (with_reducible repeat (first | apply Kd.R_alloc | apply Kd.R_drewN | apply Kd.R_drew)); exact (Kd.R_mono (Kd.R_far (p := ⟨gb414, 1, none⟩) (Kd.R_far (p := ⟨gb414, 0, none⟩) (Kd.R_types HO375.out BK414.out (by decide)) (fun _ hk => hk.2) (.bool t410)) (fun _ hk => hk.2) (.slice Ao74 t411.length co74)) (fun _ h_ => h_.1))))) (Kd.R_lt (by (with_reducible repeat (first | apply Kd.R_alloc | apply Kd.R_drewN | apply Kd.R_drew)); exact (Kd.R_mono (Kd.R_far (p := ⟨gb414, 1, none⟩) (Kd.R_far (p := ⟨gb414, 0, none⟩) (Kd.R_types HO383.out BK414.out (by decide)) (fun _ hk => hk.2) (.bool t410)) (fun _ hk => hk.2) (.slice Ao74 t411.length co74)) (fun _ h_ => h_.1))))) (Kd.R_lt (by (with_reducible repeat (first | apply Kd.R_alloc | apply Kd.R_drewN | apply Kd.R_drew)); exact (Kd.R_mono (Kd.R_far (p := ⟨gb414, 1, none⟩) (Kd.R_far (p := ⟨gb414, 0, none⟩) (Kd.R_types HO386.out BK414.out (by decide)) (fun _ hk => hk.2) (.bool t410)) (fun _ hk => hk.2) (.slice Ao74 t411.length co74)) (fun _ h_ => h_.1))))) (Kd.R_lt (by (with_reducible repeat (first | apply Kd.R_alloc | apply Kd.R_drewN | apply Kd.R_drew)); exact (Kd.R_mono (Kd.R_far (p := ⟨gb414, 1, none⟩) (Kd.R_far (p := ⟨gb414, 0, none⟩) (Kd.R_types HO394.out BK414.out (by decide)) (fun _ hk => hk.2) (.bool t410)) (fun _ hk => hk.2) (.slice Ao74 t411.length co74)) (fun _ h_ => h_.1))))) (Kd.R_lt (by (with_reducible repeat (first | apply Kd.R_alloc | apply Kd.R_drewN | apply Kd.R_drew)); exact (Kd.R_mono (Kd.R_far (p := ⟨gb414, 1, none⟩) (Kd.R_far (p := ⟨gb414, 0, none⟩) (Kd.R_types HO397.out BK414.out (by decide)) (fun _ hk => hk.2) (.bool t410)) (fun _ hk => hk.2) (.slice Ao74 t411.length co74)) (fun _ h_ => h_.1))))) (Kd.R_lt (by (with_reducible repeat (first | apply Kd.R_alloc | apply Kd.R_drewN | apply Kd.R_drew)); exact (Kd.R_mono (Kd.R_far (p := ⟨gb414, 1, none⟩) (Kd.R_far (p := ⟨gb414, 0, none⟩) (Kd.R_types HO400.out BK414.out (by decide)) (fun _ hk => hk.2) (.bool t410)) (fun _ hk => hk.2) (.slice Ao74 t411.length co74)) (fun _ h_ => h_.1))))) (Kd.R_lt (by (with_reducible repeat (first | apply Kd.R_alloc | apply Kd.R_drewN | apply Kd.R_drew)); exact (Kd.R_mono (Kd.R_far (p := ⟨gb414, 1, none⟩) (Kd.R_far (p := ⟨gb414, 0, none⟩) (Kd.R_types HO403.out BK414.out (by decide)) (fun _ hk => hk.2) (.bool t410)) (fun _ hk => hk.2) (.slice Ao74 t411.length co74)) (fun _ h_ => h_.1))))) (Kd.R_lt (by (with_reducible repeat (first | apply Kd.R_alloc | apply Kd.R_drewN | apply Kd.R_drew)); exact (Kd.R_mono (Kd.R_far (p := ⟨gb414, 1, none⟩) (Kd.R_far (p := ⟨gb414, 0, none⟩) (Kd.R_types HO406.out BK414.out (by decide)) (fun _ hk => hk.2) (.bool t410)) (fun _ hk => hk.2) (.slice Ao74 t411.length co74)) (fun _ h_ => h_.1))))) (Kd.R_lt (by (with_reducible repeat (first | apply Kd.R_alloc | apply Kd.R_drewN | apply Kd.R_drew)); exact (Kd.R_mono (Kd.R_far (p := ⟨gb414, 1, none⟩) (Kd.R_far (p := ⟨gb414, 0, none⟩) (Kd.R_types HO409.out BK414.out (by decide)) (fun _ hk => hk.2) (.bool t410)) (fun _ hk => hk.2) (.slice Ao74 t411.length co74)) (fun _ h_ => h_.1))))) (below_size (bw_ HB))); replace HO360 := Aside0.mk (Kd.R_elder' (by (with_reducible repeat (first | apply Kd.R_alloc | apply Kd.R_drewN | apply Kd.R_drew)); exact (Kd.R_mono (Kd.R_far (p := ⟨gb414, 1, none⟩) (Kd.R_far (p := ⟨gb414, 0, none⟩) (Kd.R_types HO360.out BK414.out (by decide)) (fun _ hk => hk.2) (.bool t410)) (fun _ hk => hk.2) (.slice Ao74 t411.length co74)) (fun _ h_ => h_.1))) (Kd.R_base ho0) hb); replace HO363 := Aside0.mk (Kd.R_elder' (by (with_reducible repeat (first | apply Kd.R_alloc | apply Kd.R_drewN | apply Kd.R_drew)); exact (Kd.R_mono (Kd.R_far (p := ⟨gb414, 1, none⟩) (Kd.R_far (p := ⟨gb414, 0, none⟩) (Kd.R_types HO363.out BK414.out (by decide)) (fun _ hk => hk.2) (.bool t410)) (fun _ hk => hk.2) (.slice Ao74 t411.length co74)) (fun _ h_ => h_.1))) (Kd.R_base ho0) hb); replace HO366 := Aside0.mk (Kd.R_elder' (by (with_reducible repeat (first | apply Kd.R_alloc | apply Kd.R_drewN | apply Kd.R_drew)); exact (Kd.R_mono (Kd.R_far (p := ⟨gb414, 1, none⟩) (Kd.R_far (p := ⟨gb414, 0, none⟩) (Kd.R_types HO366.out BK414.out (by decide)) (fun _ hk => hk.2) (.bool t410)) (fun _ hk => hk.2) (.slice Ao74 t411.length co74)) (fun _ h_ => h_.1))) (Kd.R_base ho0) hb); replace HO369 := Aside0.mk (Kd.R_elder' (by (with_reducible repeat (first | apply Kd.R_alloc | apply Kd.R_drewN | apply Kd.R_drew)); exact (Kd.R_mono (Kd.R_far (p := ⟨gb414, 1, none⟩) (Kd.R_far (p := ⟨gb414, 0, none⟩) (Kd.R_types HO369.out BK414.out (by decide)) (fun _ hk => hk.2) (.bool t410)) (fun _ hk => hk.2) (.slice Ao74 t411.length co74)) (fun _ h_ => h_.1))) (Kd.R_base ho0) hb); replace HO372 := Aside0.mk (Kd.R_elder' (by (with_reducible repeat (first | apply Kd.R_alloc | apply Kd.R_drewN | apply Kd.R_drew)); exact (Kd.R_mono (Kd.R_far (p := ⟨gb414, 1, none⟩) (Kd.R_far (p := ⟨gb414, 0, none⟩) (Kd.R_types HO372.out BK414.out (by decide)) (fun _ hk => hk.2) (.bool t410)) (fun _ hk => hk.2) (.slice Ao74 t411.length co74)) (fun _ h_ => h_.1))) (Kd.R_base ho0) hb); replace HO375 := Aside0.mk (Kd.R_elder' (by (with_reducible repeat (first | apply Kd.R_alloc | apply Kd.R_drewN | apply Kd.R_drew)); exact (Kd.R_mono (Kd.R_far (p := ⟨gb414, 1, none⟩) (Kd.R_far (p := ⟨gb414, 0, none⟩) (Kd.R_types HO375.out BK414.out (by decide)) (fun _ hk => hk.2) (.bool t410)) (fun _ hk => hk.2) (.slice Ao74 t411.length co74)) (fun _ h_ => h_.1))) (Kd.R_base ho0) hb); replace HO383 := Aside0.mk (Kd.R_elder' (by (with_reducible repeat (first | apply Kd.R_alloc | apply Kd.R_drewN | apply Kd.R_drew)); exact (Kd.R_mono (Kd.R_far (p := ⟨gb414, 1, none⟩) (Kd.R_far (p := ⟨gb414, 0, none⟩) (Kd.R_types HO383.out BK414.out (by decide)) (fun _ hk => hk.2) (.bool t410)) (fun _ hk => hk.2) (.slice Ao74 t411.length co74)) (fun _ h_ => h_.1))) (Kd.R_base ho0) hb); replace HO386 := Aside0.mk (Kd.R_elder' (by (with_reducible repeat (first | apply Kd.R_alloc | apply Kd.R_drewN | apply Kd.R_drew)); exact (Kd.R_mono (Kd.R_far (p := ⟨gb414, 1, none⟩) (Kd.R_far (p := ⟨gb414, 0, none⟩) (Kd.R_types HO386.out BK414.out (by decide)) (fun _ hk => hk.2) (.bool t410)) (fun _ hk => hk.2) (.slice Ao74 t411.length co74)) (fun _ h_ => h_.1))) (Kd.R_base ho0) hb); replace HO394 := Aside0.mk (Kd.R_elder' (by (with_reducible repeat (first | apply Kd.R_alloc | apply Kd.R_drewN | apply Kd.R_drew)); exact (Kd.R_mono (Kd.R_far (p := ⟨gb414, 1, none⟩) (Kd.R_far (p := ⟨gb414, 0, none⟩) (Kd.R_types HO394.out BK414.out (by decide)) (fun _ hk => hk.2) (.bool t410)) (fun _ hk => hk.2) (.slice Ao74 t411.length co74)) (fun _ h_ => h_.1))) (Kd.R_base ho0) hb); replace HO397 := Aside0.mk (Kd.R_elder' (by (with_reducible repeat (first | apply Kd.R_alloc | apply Kd.R_drewN | apply Kd.R_drew)); exact (Kd.R_mono (Kd.R_far (p := ⟨gb414, 1, none⟩) (Kd.R_far (p := ⟨gb414, 0, none⟩) (Kd.R_types HO397.out BK414.out (by decide)) (fun _ hk => hk.2) (.bool t410)) (fun _ hk => hk.2) (.slice Ao74 t411.length co74)) (fun _ h_ => h_.1))) (Kd.R_base ho0) hb); replace HO400 := Aside0.mk (Kd.R_elder' (by (with_reducible repeat (first | apply Kd.R_alloc | apply Kd.R_drewN | apply Kd.R_drew)); exact (Kd.R_mono (Kd.R_far (p := ⟨gb414, 1, none⟩) (Kd.R_far (p := ⟨gb414, 0, none⟩) (Kd.R_types HO400.out BK414.out (by decide)) (fun _ hk => hk.2) (.bool t410)) (fun _ hk => hk.2) (.slice Ao74 t411.length co74)) (fun _ h_ => h_.1))) (Kd.R_base ho0) hb); replace HO403 := Aside0.mk (Kd.R_elder' (by (with_reducible repeat (first | apply Kd.R_alloc | apply Kd.R_drewN | apply Kd.R_drew)); exact (Kd.R_mono (Kd.R_far (p := ⟨gb414, 1, none⟩) (Kd.R_far (p := ⟨gb414, 0, none⟩) (Kd.R_types HO403.out BK414.out (by decide)) (fun _ hk => hk.2) (.bool t410)) (fun _ hk => hk.2) (.slice Ao74 t411.length co74)) (fun _ h_ => h_.1))) (Kd.R_base ho0) hb); replace HO406 := Aside0.mk (Kd.R_elder' (by (with_reducible repeat (first | apply Kd.R_alloc | apply Kd.R_drewN | apply Kd.R_drew)); exact (Kd.R_mono (Kd.R_far (p := ⟨gb414, 1, none⟩) (Kd.R_far (p := ⟨gb414, 0, none⟩) (Kd.R_types HO406.out BK414.out (by decide)) (fun _ hk => hk.2) (.bool t410)) (fun _ hk => hk.2) (.slice Ao74 t411.length co74)) (fun _ h_ => h_.1))) (Kd.R_base ho0) hb); replace HO409 := Aside0.mk (Kd.R_elder' (by (with_reducible repeat (first | apply Kd.R_alloc | apply Kd.R_drewN | apply Kd.R_drew)); exact (Kd.R_mono (Kd.R_far (p := ⟨gb414, 1, none⟩) (Kd.R_far (p := ⟨gb414, 0, none⟩) (Kd.R_types HO409.out BK414.out (by decide)) (fun _ hk => hk.2) (.bool t410)) (fun _ hk => hk.2) (.slice Ao74 t411.length co74)) (fun _ h_ => h_.1))) (Kd.R_base ho0) hb); replace BK356 := Aside0.mk (blk_below (g := gb356) (o := .cells #[.bool a0_0, .slice A0_1 l0_1.length c0_1] 24 (0, 0)) (by (with_reducible repeat (first | refine blk_drewN ?_ _ | refine blk_drew ?_ | refine blk_alloc ?_ _)); refine blk_far ?_ NB356_414.out _; (with_reducible repeat (first | refine blk_drewN ?_ _ | refine blk_drew ?_ | refine blk_alloc ?_ _)); refine blk_far ?_ NB356_414.out _; (with_reducible repeat (first | refine blk_drewN ?_ _ | refine blk_drew ?_ | refine blk_alloc ?_ _)); exact BK356.out) hb); replace BK357 := Aside0.mk (blk_below (g := gb357) (o := .cells #[.bool a1_0, .slice A1_1 l1_1.length c1_1] 24 (0, 0)) (by (with_reducible repeat (first | refine blk_drewN ?_ _ | refine blk_drew ?_ | refine blk_alloc ?_ _)); refine blk_far ?_ NB357_414.out _; (with_reducible repeat (first | refine blk_drewN ?_ _ | refine blk_drew ?_ | refine blk_alloc ?_ _)); refine blk_far ?_ NB357_414.out _; (with_reducible repeat (first | refine blk_drewN ?_ _ | refine blk_drew ?_ | refine blk_alloc ?_ _)); exact BK357.out) hb); replace BK380 := Aside0.mk (blk_below (g := gb380) (o := .cells #[.bool t376, .slice Ao43 t377.length co43] 24 (0, 0)) (by (with_reducible repeat (first | refine blk_drewN ?_ _ | refine blk_drew ?_ | refine blk_alloc ?_ _)); refine blk_far ?_ NB380_414.out _; (with_reducible repeat (first | refine blk_drewN ?_ _ | refine blk_drew ?_ | refine blk_alloc ?_ _)); refine blk_far ?_ NB380_414.out _; (with_reducible repeat (first | refine blk_drewN ?_ _ | refine blk_drew ?_ | refine blk_alloc ?_ _)); exact BK380.out) hb); replace BK391 := Aside0.mk (blk_below (g := gb391) (o := .cells #[.bool t387, .slice Ao54 t388.length co54] 24 (0, 0)) (by (with_reducible repeat (first | refine blk_drewN ?_ _ | refine blk_drew ?_ | refine blk_alloc ?_ _)); refine blk_far ?_ NB391_414.out _; (with_reducible repeat (first | refine blk_drewN ?_ _ | refine blk_drew ?_ | refine blk_alloc ?_ _)); refine blk_far ?_ NB391_414.out _; (with_reducible repeat (first | refine blk_drewN ?_ _ | refine blk_drew ?_ | refine blk_alloc ?_ _)); exact BK391.out) hb); replace BK414 := Aside0.mk (blk_below (g := gb414) (o := .cells #[.bool t410, .slice Ao74 t411.length co74] 24 (0, 0)) (by (with_reducible repeat (first | refine blk_drewN ?_ _ | refine blk_drew ?_ | refine blk_alloc ?_ _)); refine blk_put (cs := #[.bool t410, .slice none 0 0]) ?_ 1 _ rfl; (with_reducible repeat (first | refine blk_drewN ?_ _ | refine blk_drew ?_ | refine blk_alloc ?_ _)); refine blk_put (cs := #[.bool false, .slice none 0 0]) ?_ 0 _ rfl; (with_reducible repeat (first | refine blk_drewN ?_ _ | refine blk_drew ?_ | refine blk_alloc ?_ _)); exact BK414.out) hb); replace HB := Aside0.mk (below_step (bw_ HB) hb); (try clear hb); (try clear hb2); (try clear hk); (try clear hi); (try clear ho0)) | ((with_reducible refine gate_callee (f := 17) rfl ?_); refine gl_ (some 61) rfl rfl Try.func17 (by kernel_rfl) rfl #[.slice Ao33 t361.length co33, .slice Ao31 t364.length co31] rfl ?_; (with_reducible refine (vernierref01_Add.calls k _ _ t361 _ _ t364 t418 _ ?side1 ?side2 ?side3 ?side4 A20.out).mono ?_); (case side1 => repeat (first | exact (Kd.R_reads' HO363.out).2.2 | (with_reducible refine Kd.C_alloc ?_ _) | (with_reducible refine Kd.C_drewN ?_ _) | (with_reducible refine Kd.C_drew ?_))); (case side2 => exact (Kd.R_reads' HO363.out).2.1); (case side3 => repeat (first | exact (Kd.R_reads' HO366.out).2.2 | (with_reducible refine Kd.C_alloc ?_ _) | (with_reducible refine Kd.C_drewN ?_ _) | (with_reducible refine Kd.C_drew ?_))); (case side4 => exact (Kd.R_reads' HO366.out).2.1); rintro e w76 ⟨v419, rfl, ho0, hb⟩; refine ⟨_, rfl, ?_⟩; replace HO379 := Aside0.mk (Kd.R_below (rl_ HO379) hb); replace HO390 := Aside0.mk (Kd.R_below (rl_ HO390) hb); replace HO413 := Aside0.mk (Kd.R_below (rl_ HO413) hb); have HO420 := Aside0.mk (Kd.R_lower (Kd.R_new' (Kd.R_new' (Kd.R_new' (Kd.R_new' (Kd.R_new' (Kd.R_new' (Kd.R_new' (Kd.R_new' (Kd.R_new' (Kd.R_new' (Kd.R_new' (Kd.R_new' (Kd.R_new' (Kd.R_new' (Kd.R_new' ho0 (Kd.R_lt (rl_ HO360))) (Kd.R_lt (rl_ HO363))) (Kd.R_lt (rl_ HO366))) (Kd.R_lt (rl_ HO369))) (Kd.R_lt (rl_ HO372))) (Kd.R_lt (rl_ HO375))) (Kd.R_lt (rl_ HO383))) (Kd.R_lt (rl_ HO386))) (Kd.R_lt (rl_ HO394))) (Kd.R_lt (rl_ HO397))) (Kd.R_lt (rl_ HO400))) (Kd.R_lt (rl_ HO403))) (Kd.R_lt (rl_ HO406))) (Kd.R_lt (rl_ HO409))) (Kd.R_lt (rl_ HO417))) (below_size (bw_ HB))); replace HO360 := Aside0.mk (Kd.R_elder' (rl_ HO360) (Kd.R_base ho0) hb); replace HO363 := Aside0.mk (Kd.R_elder' (rl_ HO363) (Kd.R_base ho0) hb); replace HO366 := Aside0.mk (Kd.R_elder' (rl_ HO366) (Kd.R_base ho0) hb); replace HO369 := Aside0.mk (Kd.R_elder' (rl_ HO369) (Kd.R_base ho0) hb); replace HO372 := Aside0.mk (Kd.R_elder' (rl_ HO372) (Kd.R_base ho0) hb); replace HO375 := Aside0.mk (Kd.R_elder' (rl_ HO375) (Kd.R_base ho0) hb); replace HO383 := Aside0.mk (Kd.R_elder' (rl_ HO383) (Kd.R_base ho0) hb); replace HO386 := Aside0.mk (Kd.R_elder' (rl_ HO386) (Kd.R_base ho0) hb); replace HO394 := Aside0.mk (Kd.R_elder' (rl_ HO394) (Kd.R_base ho0) hb); replace HO397 := Aside0.mk (Kd.R_elder' (rl_ HO397) (Kd.R_base ho0) hb); replace HO400 := Aside0.mk (Kd.R_elder' (rl_ HO400) (Kd.R_base ho0) hb); replace HO403 := Aside0.mk (Kd.R_elder' (rl_ HO403) (Kd.R_base ho0) hb); replace HO406 := Aside0.mk (Kd.R_elder' (rl_ HO406) (Kd.R_base ho0) hb); replace HO409 := Aside0.mk (Kd.R_elder' (rl_ HO409) (Kd.R_base ho0) hb); replace HO417 := Aside0.mk (Kd.R_elder' (rl_ HO417) (Kd.R_base ho0) hb); replace BK356 := Aside0.mk (blk_below (bl_ BK356) hb); replace BK357 := Aside0.mk (blk_below (bl_ BK357) hb); replace BK380 := Aside0.mk (blk_below (bl_ BK380) hb); replace BK391 := Aside0.mk (blk_below (bl_ BK391) hb); replace BK414 := Aside0.mk (blk_below (bl_ BK414) hb); replace HB := Aside0.mk (below_step (bw_ HB) hb); (try clear hb); (try clear hb2); (try clear hk); (try clear hi); (try clear ho0); obtain ⟨Ao77, co77, eo77⟩ := Kd.R_slice HO417.out; subst eo77; obtain ⟨Ao78, co78, eo78⟩ := Kd.R_slice HO420.out; subst eo78) | ((with_reducible refine gate_callee (f := 19) rfl ?_); refine gl_ (some 62) rfl rfl Try.func19 (by kernel_rfl) rfl #[.slice Ao77 t415.length co77, .slice Ao78 t418.length co78] rfl ?_; (with_reducible refine (vernierref01_Cmp.calls k _ _ t415 _ _ t418 t421 _ ?side1 ?side2 ?side3 ?side4 A21.out).mono ?_); (case side1 => repeat (first | exact (Kd.R_reads' HO417.out).2.2 | (with_reducible refine Kd.C_alloc ?_ _) | (with_reducible refine Kd.C_drewN ?_ _) | (with_reducible refine Kd.C_drew ?_))); (case side2 => exact (Kd.R_reads' HO417.out).2.1); (case side3 => repeat (first | exact (Kd.R_reads' HO420.out).2.2 | (with_reducible refine Kd.C_alloc ?_ _) | (with_reducible refine Kd.C_drewN ?_ _) | (with_reducible refine Kd.C_drew ?_))); (case side4 => exact (Kd.R_reads' HO420.out).2.1); rintro e w' ⟨rfl, ⟨nd, rfl⟩⟩; refine ⟨_, rfl, ?_⟩))
  (try simp only [Act.put, List.setIfInBounds_toArray, List.set_cons_zero, List.set_cons_succ])
  go_cut [15] (fun v15 wc => ∃ (kq : Nat) (x15_21 : Int), v15 = .int .u64 x15_21 ∧ Aside0 (vernierlaw03_WholeTells.j0 kq a2 t358 t361 t421 x15_21 a0_0 l0_1 a1_0 l1_1 t376 t377 t387 t388 t410 t411 = some r) ∧ Aside0 (kq ≤ k) ∧ Aside0 (Kd.R (Kd.int .i64) 3 wc w.heap.size (fun k_ => some k_ ≠ ((.slice Ao33 t361.length co33) : Value).ownBlock) (.slice Ao30 t358.length co30) t358) ∧ Aside0 (Kd.R (Kd.int .i64) 3 wc w.heap.size (fun k_ => some k_ ≠ ((.slice Ao30 t358.length co30) : Value).ownBlock) (.slice Ao33 t361.length co33) t361) ∧ Aside0 (Kd.R (Kd.int .u64) 32 wc w.heap.size (fun k_ => some k_ ≠ ((.slice Ao54 t388.length co54) : Value).ownBlock ∧ some k_ ≠ ((.slice Ao74 t411.length co74) : Value).ownBlock) (.slice Ao43 t377.length co43) t377) ∧ Aside0 (Kd.R (Kd.int .u64) 32 wc w.heap.size (fun k_ => some k_ ≠ ((.slice Ao43 t377.length co43) : Value).ownBlock ∧ some k_ ≠ ((.slice Ao74 t411.length co74) : Value).ownBlock) (.slice Ao54 t388.length co54) t388) ∧ Aside0 (Kd.R (Kd.int .u64) 32 wc w.heap.size (fun k_ => some k_ ≠ ((.slice Ao43 t377.length co43) : Value).ownBlock ∧ some k_ ≠ ((.slice Ao54 t388.length co54) : Value).ownBlock) (.slice Ao74 t411.length co74) t411) ∧ Aside0 (wc.heap[gb356]? = some (.cells #[.bool a0_0, (.slice A0_1 l0_1.length c0_1)] 24 (0, 0))) ∧ Aside0 (wc.heap[gb357]? = some (.cells #[.bool a1_0, (.slice A1_1 l1_1.length c1_1)] 24 (0, 0))) ∧ Aside0 (wc.heap[gb380]? = some (.cells #[.bool t376, (.slice Ao43 t377.length co43)] 24 (0, 0))) ∧ Aside0 (wc.heap[gb391]? = some (.cells #[.bool t387, (.slice Ao54 t388.length co54)] 24 (0, 0))) ∧ Aside0 (wc.heap[gb414]? = some (.cells #[.bool t410, (.slice Ao74 t411.length co74)] 24 (0, 0))) ∧ Aside0 (Below w.heap.size w wc))
  case first =>
    have H := HC22.out
    clear HC22
    by_cases c79 : a2 < 0
    · rw [if_pos c79] at H
      have c79b0 : decide (a2 < 0) = true := decide_eq_true c79
      clear c79
      (first | rw [c79b0] | (simp only [i64_w, i32_w]; rw [c79b0]) | skip)
      have H' := Aside0.mk H
      clear H
      go_wp2
      go_meet
      case rel => exact ⟨_, (IntKind.u64.wrap (-(IntKind.u64.wrap (a2)))), (by first | rfl | (simp; done) | (simp [*]; done)), H', ⟨by first | omega | exact Nat.le_refl _⟩, ⟨by (with_reducible repeat (first | apply Kd.R_alloc | apply Kd.R_drewN | apply Kd.R_drew)); exact Kd.R_mono HO360.out (fun _ hk => hk.1.1.1.1.1.1.1.1.1.1.1.1.1.1)⟩, ⟨by (with_reducible repeat (first | apply Kd.R_alloc | apply Kd.R_drewN | apply Kd.R_drew)); exact Kd.R_mono HO363.out (fun _ hk => hk.1.1.1.1.1.1.1.1.1.1.1.1.1.1)⟩, ⟨by (with_reducible repeat (first | apply Kd.R_alloc | apply Kd.R_drewN | apply Kd.R_drew)); exact Kd.R_mono HO379.out (fun _ hk => ⟨hk.1.2, hk.2⟩)⟩, ⟨by (with_reducible repeat (first | apply Kd.R_alloc | apply Kd.R_drewN | apply Kd.R_drew)); exact Kd.R_mono HO390.out (fun _ hk => ⟨hk.1.2, hk.2⟩)⟩, ⟨by (with_reducible repeat (first | apply Kd.R_alloc | apply Kd.R_drewN | apply Kd.R_drew)); exact Kd.R_mono HO413.out (fun _ hk => ⟨hk.1.2, hk.2⟩)⟩, ⟨by (with_reducible repeat (first | refine blk_drewN ?_ _ | refine blk_drew ?_ | refine blk_alloc ?_ _)); exact BK356.out⟩, ⟨by (with_reducible repeat (first | refine blk_drewN ?_ _ | refine blk_drew ?_ | refine blk_alloc ?_ _)); exact BK357.out⟩, ⟨by (with_reducible repeat (first | refine blk_drewN ?_ _ | refine blk_drew ?_ | refine blk_alloc ?_ _)); exact BK380.out⟩, ⟨by (with_reducible repeat (first | refine blk_drewN ?_ _ | refine blk_drew ?_ | refine blk_alloc ?_ _)); exact BK391.out⟩, ⟨by (with_reducible repeat (first | refine blk_drewN ?_ _ | refine blk_drew ?_ | refine blk_alloc ?_ _)); exact BK414.out⟩, ⟨by repeat (first | (with_reducible first | exact HB.out | apply below_alloc | apply pw_below_drewN | apply below_drew1 | refine below_set ?_ GE356.out | refine below_set ?_ GE357.out | refine below_set ?_ GE380.out | refine below_set ?_ GE391.out | refine below_set ?_ GE414.out) | exact HB.out)⟩⟩
    · rw [if_neg c79] at H
      have c79b0 : decide (a2 < 0) = false := decide_eq_false c79
      clear c79
      (first | rw [c79b0] | (simp only [i64_w, i32_w]; rw [c79b0]) | skip)
      have H' := Aside0.mk H
      clear H
      go_wp2
      go_meet
      case rel => exact ⟨_, (IntKind.u64.wrap (a2)), (by first | rfl | (simp; done) | (simp [*]; done)), H', ⟨by first | omega | exact Nat.le_refl _⟩, ⟨by (with_reducible repeat (first | apply Kd.R_alloc | apply Kd.R_drewN | apply Kd.R_drew)); exact Kd.R_mono HO360.out (fun _ hk => hk.1.1.1.1.1.1.1.1.1.1.1.1.1.1)⟩, ⟨by (with_reducible repeat (first | apply Kd.R_alloc | apply Kd.R_drewN | apply Kd.R_drew)); exact Kd.R_mono HO363.out (fun _ hk => hk.1.1.1.1.1.1.1.1.1.1.1.1.1.1)⟩, ⟨by (with_reducible repeat (first | apply Kd.R_alloc | apply Kd.R_drewN | apply Kd.R_drew)); exact Kd.R_mono HO379.out (fun _ hk => ⟨hk.1.2, hk.2⟩)⟩, ⟨by (with_reducible repeat (first | apply Kd.R_alloc | apply Kd.R_drewN | apply Kd.R_drew)); exact Kd.R_mono HO390.out (fun _ hk => ⟨hk.1.2, hk.2⟩)⟩, ⟨by (with_reducible repeat (first | apply Kd.R_alloc | apply Kd.R_drewN | apply Kd.R_drew)); exact Kd.R_mono HO413.out (fun _ hk => ⟨hk.1.2, hk.2⟩)⟩, ⟨by (with_reducible repeat (first | refine blk_drewN ?_ _ | refine blk_drew ?_ | refine blk_alloc ?_ _)); exact BK356.out⟩, ⟨by (with_reducible repeat (first | refine blk_drewN ?_ _ | refine blk_drew ?_ | refine blk_alloc ?_ _)); exact BK357.out⟩, ⟨by (with_reducible repeat (first | refine blk_drewN ?_ _ | refine blk_drew ?_ | refine blk_alloc ?_ _)); exact BK380.out⟩, ⟨by (with_reducible repeat (first | refine blk_drewN ?_ _ | refine blk_drew ?_ | refine blk_alloc ?_ _)); exact BK391.out⟩, ⟨by (with_reducible repeat (first | refine blk_drewN ?_ _ | refine blk_drew ?_ | refine blk_alloc ?_ _)); exact BK414.out⟩, ⟨by repeat (first | (with_reducible first | exact HB.out | apply below_alloc | apply pw_below_drewN | apply below_drew1 | refine below_set ?_ GE356.out | refine below_set ?_ GE357.out | refine below_set ?_ GE380.out | refine below_set ?_ GE391.out | refine below_set ?_ GE414.out) | exact HB.out)⟩⟩
  case rest =>
    clear HC22
    try clear c1
    try clear c2
    try clear p2
    try clear c3
    try clear c4
    try clear c5
    try clear c6
    try clear c7
    try clear c15
    try clear c16
    try clear c17
    try clear c18
    try clear c19
    try clear c25
    try clear c40
    try clear c41
    try clear c50
    try clear c51
    try clear c52
    try clear c69
    try clear c70
    try clear c71
    try clear c72
    try clear c79
    try clear c79b0
    try clear hcz26_0
    try clear hcz26_1
    try clear hcz28_0
    try clear hcz28_1
    try clear hcz42_0
    try clear hcz42_1
    try clear hcz53_0
    try clear hcz53_1
    try clear hcz73_0
    try clear hcz73_1
    try clear hfz26_0
    try clear hfz26_1
    try clear hfz28_0
    try clear hfz28_1
    try clear hfz42_0
    try clear hfz42_1
    try clear hfz53_0
    try clear hfz53_1
    try clear hfz73_0
    try clear hfz73_1
    obtain ⟨kq, x15_21, rfl, HA, HJ21, HO_7, HO_8, HO_381001, HO_392001, HO_415001, BK356, BK357, BK380, BK391, BK414, HB⟩ := hcut
    cases kq with
    | zero => exact absurd HA.out (by simp [vernierlaw03_WholeTells.j0])
    | succ kj21 =>
      have H := HA.out
      clear HA
      simp only [vernierlaw03_WholeTells.j0] at H
      replace H := Option.bind_eq_some_iff.mp H
      obtain ⟨t422, A800, H⟩ := H
      replace H : ((vernierref01_Limbs.f kj21 t422).bind fun t425 => ((whole_Add.f kj21 a0_0 l0_1 a1_0 l1_1).bind fun bt429 => ((vernierlaw03_same.f kj21 bt429.1 bt429.2 t376 t377).bind fun t433 => (if t433 = true then ((whole_Sub.f kj21 a0_0 l0_1 a1_0 l1_1).bind fun bt434 => ((vernierlaw03_same.f kj21 bt434.1 bt434.2 t387 t388).bind fun t438 => (if t438 = true then ((whole_Mul.f kj21 a0_0 l0_1 a1_0 l1_1).bind fun bt439 => ((vernierlaw03_same.f kj21 bt439.1 bt439.2 t410 t411).bind fun t443 => (if t443 = true then ((whole_Cmp.f kj21 a0_0 l0_1 a1_0 l1_1).bind fun t444 => (if t444 = t421 then ((whole_Sign.f kj21 a0_0 l0_1).bind fun t445 => ((vernierref01_Cmp.f kj21 t358 t361).bind fun t446 => (if t445 = t446 then ((whole_Norm.f kj21 a0_0 l0_1).bind fun bt447 => ((vernierlaw03_made.f kj21 t358 t361).bind fun bt451 => ((vernierlaw03_same.f kj21 bt447.1 bt447.2 bt451.1 bt451.2).bind fun t455 => (if t455 = true then ((whole_Neg.f kj21 a0_0 l0_1).bind fun bt456 => ((vernierlaw03_made.f kj21 t361 t358).bind fun bt460 => ((vernierlaw03_same.f kj21 bt456.1 bt456.2 bt460.1 bt460.2).bind fun t464 => (if t464 = true then ((whole_Of.f kj21 a2).bind fun bt465 => ((vernierlaw03_same.f kj21 bt465.1 bt465.2 (decide (a2 < 0)) t425).bind fun t469 => (if t469 = true then ((vernierlaw03_alive.f kj21).bind fun t470 => (some t470)) else (some false)))) else (some false))))) else (some false))))) else (some false)))) else (some false))) else (some false)))) else (some false)))) else (some false))))) = some r := H
      have A80 := Aside0.mk A800
      clear A800
      replace H := Option.bind_eq_some_iff.mp H
      obtain ⟨t425, A810, H⟩ := H
      replace H : ((whole_Add.f kj21 a0_0 l0_1 a1_0 l1_1).bind fun bt429 => ((vernierlaw03_same.f kj21 bt429.1 bt429.2 t376 t377).bind fun t433 => (if t433 = true then ((whole_Sub.f kj21 a0_0 l0_1 a1_0 l1_1).bind fun bt434 => ((vernierlaw03_same.f kj21 bt434.1 bt434.2 t387 t388).bind fun t438 => (if t438 = true then ((whole_Mul.f kj21 a0_0 l0_1 a1_0 l1_1).bind fun bt439 => ((vernierlaw03_same.f kj21 bt439.1 bt439.2 t410 t411).bind fun t443 => (if t443 = true then ((whole_Cmp.f kj21 a0_0 l0_1 a1_0 l1_1).bind fun t444 => (if t444 = t421 then ((whole_Sign.f kj21 a0_0 l0_1).bind fun t445 => ((vernierref01_Cmp.f kj21 t358 t361).bind fun t446 => (if t445 = t446 then ((whole_Norm.f kj21 a0_0 l0_1).bind fun bt447 => ((vernierlaw03_made.f kj21 t358 t361).bind fun bt451 => ((vernierlaw03_same.f kj21 bt447.1 bt447.2 bt451.1 bt451.2).bind fun t455 => (if t455 = true then ((whole_Neg.f kj21 a0_0 l0_1).bind fun bt456 => ((vernierlaw03_made.f kj21 t361 t358).bind fun bt460 => ((vernierlaw03_same.f kj21 bt456.1 bt456.2 bt460.1 bt460.2).bind fun t464 => (if t464 = true then ((whole_Of.f kj21 a2).bind fun bt465 => ((vernierlaw03_same.f kj21 bt465.1 bt465.2 (decide (a2 < 0)) t425).bind fun t469 => (if t469 = true then ((vernierlaw03_alive.f kj21).bind fun t470 => (some t470)) else (some false)))) else (some false))))) else (some false))))) else (some false)))) else (some false))) else (some false)))) else (some false)))) else (some false)))) = some r := H
      have A81 := Aside0.mk A810
      clear A810
      replace H := Option.bind_eq_some_iff.mp H
      obtain ⟨⟨t429, t430⟩, A820, H⟩ := H
      replace H : ((vernierlaw03_same.f kj21 t429 t430 t376 t377).bind fun t433 => (if t433 = true then ((whole_Sub.f kj21 a0_0 l0_1 a1_0 l1_1).bind fun bt434 => ((vernierlaw03_same.f kj21 bt434.1 bt434.2 t387 t388).bind fun t438 => (if t438 = true then ((whole_Mul.f kj21 a0_0 l0_1 a1_0 l1_1).bind fun bt439 => ((vernierlaw03_same.f kj21 bt439.1 bt439.2 t410 t411).bind fun t443 => (if t443 = true then ((whole_Cmp.f kj21 a0_0 l0_1 a1_0 l1_1).bind fun t444 => (if t444 = t421 then ((whole_Sign.f kj21 a0_0 l0_1).bind fun t445 => ((vernierref01_Cmp.f kj21 t358 t361).bind fun t446 => (if t445 = t446 then ((whole_Norm.f kj21 a0_0 l0_1).bind fun bt447 => ((vernierlaw03_made.f kj21 t358 t361).bind fun bt451 => ((vernierlaw03_same.f kj21 bt447.1 bt447.2 bt451.1 bt451.2).bind fun t455 => (if t455 = true then ((whole_Neg.f kj21 a0_0 l0_1).bind fun bt456 => ((vernierlaw03_made.f kj21 t361 t358).bind fun bt460 => ((vernierlaw03_same.f kj21 bt456.1 bt456.2 bt460.1 bt460.2).bind fun t464 => (if t464 = true then ((whole_Of.f kj21 a2).bind fun bt465 => ((vernierlaw03_same.f kj21 bt465.1 bt465.2 (decide (a2 < 0)) t425).bind fun t469 => (if t469 = true then ((vernierlaw03_alive.f kj21).bind fun t470 => (some t470)) else (some false)))) else (some false))))) else (some false))))) else (some false)))) else (some false))) else (some false)))) else (some false)))) else (some false))) = some r := H
      have A82 := Aside0.mk A820
      clear A820
      replace H := Option.bind_eq_some_iff.mp H
      obtain ⟨t433, A830, H⟩ := H
      replace H : (if t433 = true then ((whole_Sub.f kj21 a0_0 l0_1 a1_0 l1_1).bind fun bt434 => ((vernierlaw03_same.f kj21 bt434.1 bt434.2 t387 t388).bind fun t438 => (if t438 = true then ((whole_Mul.f kj21 a0_0 l0_1 a1_0 l1_1).bind fun bt439 => ((vernierlaw03_same.f kj21 bt439.1 bt439.2 t410 t411).bind fun t443 => (if t443 = true then ((whole_Cmp.f kj21 a0_0 l0_1 a1_0 l1_1).bind fun t444 => (if t444 = t421 then ((whole_Sign.f kj21 a0_0 l0_1).bind fun t445 => ((vernierref01_Cmp.f kj21 t358 t361).bind fun t446 => (if t445 = t446 then ((whole_Norm.f kj21 a0_0 l0_1).bind fun bt447 => ((vernierlaw03_made.f kj21 t358 t361).bind fun bt451 => ((vernierlaw03_same.f kj21 bt447.1 bt447.2 bt451.1 bt451.2).bind fun t455 => (if t455 = true then ((whole_Neg.f kj21 a0_0 l0_1).bind fun bt456 => ((vernierlaw03_made.f kj21 t361 t358).bind fun bt460 => ((vernierlaw03_same.f kj21 bt456.1 bt456.2 bt460.1 bt460.2).bind fun t464 => (if t464 = true then ((whole_Of.f kj21 a2).bind fun bt465 => ((vernierlaw03_same.f kj21 bt465.1 bt465.2 (decide (a2 < 0)) t425).bind fun t469 => (if t469 = true then ((vernierlaw03_alive.f kj21).bind fun t470 => (some t470)) else (some false)))) else (some false))))) else (some false))))) else (some false)))) else (some false))) else (some false)))) else (some false)))) else (some false)) = some r := H
      have A83 := Aside0.mk A830
      clear A830
      by_cases c84 : t433 = true
      · subst c84
        have H1 : ((whole_Sub.f kj21 a0_0 l0_1 a1_0 l1_1).bind fun bt434 => ((vernierlaw03_same.f kj21 bt434.1 bt434.2 t387 t388).bind fun t438 => (if t438 = true then ((whole_Mul.f kj21 a0_0 l0_1 a1_0 l1_1).bind fun bt439 => ((vernierlaw03_same.f kj21 bt439.1 bt439.2 t410 t411).bind fun t443 => (if t443 = true then ((whole_Cmp.f kj21 a0_0 l0_1 a1_0 l1_1).bind fun t444 => (if t444 = t421 then ((whole_Sign.f kj21 a0_0 l0_1).bind fun t445 => ((vernierref01_Cmp.f kj21 t358 t361).bind fun t446 => (if t445 = t446 then ((whole_Norm.f kj21 a0_0 l0_1).bind fun bt447 => ((vernierlaw03_made.f kj21 t358 t361).bind fun bt451 => ((vernierlaw03_same.f kj21 bt447.1 bt447.2 bt451.1 bt451.2).bind fun t455 => (if t455 = true then ((whole_Neg.f kj21 a0_0 l0_1).bind fun bt456 => ((vernierlaw03_made.f kj21 t361 t358).bind fun bt460 => ((vernierlaw03_same.f kj21 bt456.1 bt456.2 bt460.1 bt460.2).bind fun t464 => (if t464 = true then ((whole_Of.f kj21 a2).bind fun bt465 => ((vernierlaw03_same.f kj21 bt465.1 bt465.2 (decide (a2 < 0)) t425).bind fun t469 => (if t469 = true then ((vernierlaw03_alive.f kj21).bind fun t470 => (some t470)) else (some false)))) else (some false))))) else (some false))))) else (some false)))) else (some false))) else (some false)))) else (some false)))) = some r := by rw [if_pos rfl] at H; exact H
        clear H
        have H := H1
        clear H1
        replace H := Option.bind_eq_some_iff.mp H
        obtain ⟨⟨t434, t435⟩, A850, H⟩ := H
        replace H : ((vernierlaw03_same.f kj21 t434 t435 t387 t388).bind fun t438 => (if t438 = true then ((whole_Mul.f kj21 a0_0 l0_1 a1_0 l1_1).bind fun bt439 => ((vernierlaw03_same.f kj21 bt439.1 bt439.2 t410 t411).bind fun t443 => (if t443 = true then ((whole_Cmp.f kj21 a0_0 l0_1 a1_0 l1_1).bind fun t444 => (if t444 = t421 then ((whole_Sign.f kj21 a0_0 l0_1).bind fun t445 => ((vernierref01_Cmp.f kj21 t358 t361).bind fun t446 => (if t445 = t446 then ((whole_Norm.f kj21 a0_0 l0_1).bind fun bt447 => ((vernierlaw03_made.f kj21 t358 t361).bind fun bt451 => ((vernierlaw03_same.f kj21 bt447.1 bt447.2 bt451.1 bt451.2).bind fun t455 => (if t455 = true then ((whole_Neg.f kj21 a0_0 l0_1).bind fun bt456 => ((vernierlaw03_made.f kj21 t361 t358).bind fun bt460 => ((vernierlaw03_same.f kj21 bt456.1 bt456.2 bt460.1 bt460.2).bind fun t464 => (if t464 = true then ((whole_Of.f kj21 a2).bind fun bt465 => ((vernierlaw03_same.f kj21 bt465.1 bt465.2 (decide (a2 < 0)) t425).bind fun t469 => (if t469 = true then ((vernierlaw03_alive.f kj21).bind fun t470 => (some t470)) else (some false)))) else (some false))))) else (some false))))) else (some false)))) else (some false))) else (some false)))) else (some false))) = some r := H
        have A85 := Aside0.mk A850
        clear A850
        replace H := Option.bind_eq_some_iff.mp H
        obtain ⟨t438, A860, H⟩ := H
        replace H : (if t438 = true then ((whole_Mul.f kj21 a0_0 l0_1 a1_0 l1_1).bind fun bt439 => ((vernierlaw03_same.f kj21 bt439.1 bt439.2 t410 t411).bind fun t443 => (if t443 = true then ((whole_Cmp.f kj21 a0_0 l0_1 a1_0 l1_1).bind fun t444 => (if t444 = t421 then ((whole_Sign.f kj21 a0_0 l0_1).bind fun t445 => ((vernierref01_Cmp.f kj21 t358 t361).bind fun t446 => (if t445 = t446 then ((whole_Norm.f kj21 a0_0 l0_1).bind fun bt447 => ((vernierlaw03_made.f kj21 t358 t361).bind fun bt451 => ((vernierlaw03_same.f kj21 bt447.1 bt447.2 bt451.1 bt451.2).bind fun t455 => (if t455 = true then ((whole_Neg.f kj21 a0_0 l0_1).bind fun bt456 => ((vernierlaw03_made.f kj21 t361 t358).bind fun bt460 => ((vernierlaw03_same.f kj21 bt456.1 bt456.2 bt460.1 bt460.2).bind fun t464 => (if t464 = true then ((whole_Of.f kj21 a2).bind fun bt465 => ((vernierlaw03_same.f kj21 bt465.1 bt465.2 (decide (a2 < 0)) t425).bind fun t469 => (if t469 = true then ((vernierlaw03_alive.f kj21).bind fun t470 => (some t470)) else (some false)))) else (some false))))) else (some false))))) else (some false)))) else (some false))) else (some false)))) else (some false)) = some r := H
        have A86 := Aside0.mk A860
        clear A860
        by_cases c87 : t438 = true
        · subst c87
          have H1 : ((whole_Mul.f kj21 a0_0 l0_1 a1_0 l1_1).bind fun bt439 => ((vernierlaw03_same.f kj21 bt439.1 bt439.2 t410 t411).bind fun t443 => (if t443 = true then ((whole_Cmp.f kj21 a0_0 l0_1 a1_0 l1_1).bind fun t444 => (if t444 = t421 then ((whole_Sign.f kj21 a0_0 l0_1).bind fun t445 => ((vernierref01_Cmp.f kj21 t358 t361).bind fun t446 => (if t445 = t446 then ((whole_Norm.f kj21 a0_0 l0_1).bind fun bt447 => ((vernierlaw03_made.f kj21 t358 t361).bind fun bt451 => ((vernierlaw03_same.f kj21 bt447.1 bt447.2 bt451.1 bt451.2).bind fun t455 => (if t455 = true then ((whole_Neg.f kj21 a0_0 l0_1).bind fun bt456 => ((vernierlaw03_made.f kj21 t361 t358).bind fun bt460 => ((vernierlaw03_same.f kj21 bt456.1 bt456.2 bt460.1 bt460.2).bind fun t464 => (if t464 = true then ((whole_Of.f kj21 a2).bind fun bt465 => ((vernierlaw03_same.f kj21 bt465.1 bt465.2 (decide (a2 < 0)) t425).bind fun t469 => (if t469 = true then ((vernierlaw03_alive.f kj21).bind fun t470 => (some t470)) else (some false)))) else (some false))))) else (some false))))) else (some false)))) else (some false))) else (some false)))) = some r := by rw [if_pos rfl] at H; exact H
          clear H
          have H := H1
          clear H1
          replace H := Option.bind_eq_some_iff.mp H
          obtain ⟨⟨t439, t440⟩, A880, H⟩ := H
          replace H : ((vernierlaw03_same.f kj21 t439 t440 t410 t411).bind fun t443 => (if t443 = true then ((whole_Cmp.f kj21 a0_0 l0_1 a1_0 l1_1).bind fun t444 => (if t444 = t421 then ((whole_Sign.f kj21 a0_0 l0_1).bind fun t445 => ((vernierref01_Cmp.f kj21 t358 t361).bind fun t446 => (if t445 = t446 then ((whole_Norm.f kj21 a0_0 l0_1).bind fun bt447 => ((vernierlaw03_made.f kj21 t358 t361).bind fun bt451 => ((vernierlaw03_same.f kj21 bt447.1 bt447.2 bt451.1 bt451.2).bind fun t455 => (if t455 = true then ((whole_Neg.f kj21 a0_0 l0_1).bind fun bt456 => ((vernierlaw03_made.f kj21 t361 t358).bind fun bt460 => ((vernierlaw03_same.f kj21 bt456.1 bt456.2 bt460.1 bt460.2).bind fun t464 => (if t464 = true then ((whole_Of.f kj21 a2).bind fun bt465 => ((vernierlaw03_same.f kj21 bt465.1 bt465.2 (decide (a2 < 0)) t425).bind fun t469 => (if t469 = true then ((vernierlaw03_alive.f kj21).bind fun t470 => (some t470)) else (some false)))) else (some false))))) else (some false))))) else (some false)))) else (some false))) else (some false))) = some r := H
          have A88 := Aside0.mk A880
          clear A880
          replace H := Option.bind_eq_some_iff.mp H
          obtain ⟨t443, A890, H⟩ := H
          replace H : (if t443 = true then ((whole_Cmp.f kj21 a0_0 l0_1 a1_0 l1_1).bind fun t444 => (if t444 = t421 then ((whole_Sign.f kj21 a0_0 l0_1).bind fun t445 => ((vernierref01_Cmp.f kj21 t358 t361).bind fun t446 => (if t445 = t446 then ((whole_Norm.f kj21 a0_0 l0_1).bind fun bt447 => ((vernierlaw03_made.f kj21 t358 t361).bind fun bt451 => ((vernierlaw03_same.f kj21 bt447.1 bt447.2 bt451.1 bt451.2).bind fun t455 => (if t455 = true then ((whole_Neg.f kj21 a0_0 l0_1).bind fun bt456 => ((vernierlaw03_made.f kj21 t361 t358).bind fun bt460 => ((vernierlaw03_same.f kj21 bt456.1 bt456.2 bt460.1 bt460.2).bind fun t464 => (if t464 = true then ((whole_Of.f kj21 a2).bind fun bt465 => ((vernierlaw03_same.f kj21 bt465.1 bt465.2 (decide (a2 < 0)) t425).bind fun t469 => (if t469 = true then ((vernierlaw03_alive.f kj21).bind fun t470 => (some t470)) else (some false)))) else (some false))))) else (some false))))) else (some false)))) else (some false))) else (some false)) = some r := H
          have A89 := Aside0.mk A890
          clear A890
          by_cases c90 : t443 = true
          · subst c90
            have H1 : ((whole_Cmp.f kj21 a0_0 l0_1 a1_0 l1_1).bind fun t444 => (if t444 = t421 then ((whole_Sign.f kj21 a0_0 l0_1).bind fun t445 => ((vernierref01_Cmp.f kj21 t358 t361).bind fun t446 => (if t445 = t446 then ((whole_Norm.f kj21 a0_0 l0_1).bind fun bt447 => ((vernierlaw03_made.f kj21 t358 t361).bind fun bt451 => ((vernierlaw03_same.f kj21 bt447.1 bt447.2 bt451.1 bt451.2).bind fun t455 => (if t455 = true then ((whole_Neg.f kj21 a0_0 l0_1).bind fun bt456 => ((vernierlaw03_made.f kj21 t361 t358).bind fun bt460 => ((vernierlaw03_same.f kj21 bt456.1 bt456.2 bt460.1 bt460.2).bind fun t464 => (if t464 = true then ((whole_Of.f kj21 a2).bind fun bt465 => ((vernierlaw03_same.f kj21 bt465.1 bt465.2 (decide (a2 < 0)) t425).bind fun t469 => (if t469 = true then ((vernierlaw03_alive.f kj21).bind fun t470 => (some t470)) else (some false)))) else (some false))))) else (some false))))) else (some false)))) else (some false))) = some r := by rw [if_pos rfl] at H; exact H
            clear H
            have H := H1
            clear H1
            replace H := Option.bind_eq_some_iff.mp H
            obtain ⟨t444, A910, H⟩ := H
            replace H : (if t444 = t421 then ((whole_Sign.f kj21 a0_0 l0_1).bind fun t445 => ((vernierref01_Cmp.f kj21 t358 t361).bind fun t446 => (if t445 = t446 then ((whole_Norm.f kj21 a0_0 l0_1).bind fun bt447 => ((vernierlaw03_made.f kj21 t358 t361).bind fun bt451 => ((vernierlaw03_same.f kj21 bt447.1 bt447.2 bt451.1 bt451.2).bind fun t455 => (if t455 = true then ((whole_Neg.f kj21 a0_0 l0_1).bind fun bt456 => ((vernierlaw03_made.f kj21 t361 t358).bind fun bt460 => ((vernierlaw03_same.f kj21 bt456.1 bt456.2 bt460.1 bt460.2).bind fun t464 => (if t464 = true then ((whole_Of.f kj21 a2).bind fun bt465 => ((vernierlaw03_same.f kj21 bt465.1 bt465.2 (decide (a2 < 0)) t425).bind fun t469 => (if t469 = true then ((vernierlaw03_alive.f kj21).bind fun t470 => (some t470)) else (some false)))) else (some false))))) else (some false))))) else (some false)))) else (some false)) = some r := H
            have A91 := Aside0.mk A910
            clear A910
            by_cases c92 : t444 = t421
            · rw [if_pos c92] at H
              have c92b0 : (t444 == t421) = true := beq_iff_eq.mpr c92
              have c92b1 : (t444 != t421) = false := bne_eq_false_iff_eq.mpr c92
              clear c92
              replace H := Option.bind_eq_some_iff.mp H
              obtain ⟨t445, A930, H⟩ := H
              replace H : ((vernierref01_Cmp.f kj21 t358 t361).bind fun t446 => (if t445 = t446 then ((whole_Norm.f kj21 a0_0 l0_1).bind fun bt447 => ((vernierlaw03_made.f kj21 t358 t361).bind fun bt451 => ((vernierlaw03_same.f kj21 bt447.1 bt447.2 bt451.1 bt451.2).bind fun t455 => (if t455 = true then ((whole_Neg.f kj21 a0_0 l0_1).bind fun bt456 => ((vernierlaw03_made.f kj21 t361 t358).bind fun bt460 => ((vernierlaw03_same.f kj21 bt456.1 bt456.2 bt460.1 bt460.2).bind fun t464 => (if t464 = true then ((whole_Of.f kj21 a2).bind fun bt465 => ((vernierlaw03_same.f kj21 bt465.1 bt465.2 (decide (a2 < 0)) t425).bind fun t469 => (if t469 = true then ((vernierlaw03_alive.f kj21).bind fun t470 => (some t470)) else (some false)))) else (some false))))) else (some false))))) else (some false))) = some r := H
              have A93 := Aside0.mk A930
              clear A930
              replace H := Option.bind_eq_some_iff.mp H
              obtain ⟨t446, A940, H⟩ := H
              replace H : (if t445 = t446 then ((whole_Norm.f kj21 a0_0 l0_1).bind fun bt447 => ((vernierlaw03_made.f kj21 t358 t361).bind fun bt451 => ((vernierlaw03_same.f kj21 bt447.1 bt447.2 bt451.1 bt451.2).bind fun t455 => (if t455 = true then ((whole_Neg.f kj21 a0_0 l0_1).bind fun bt456 => ((vernierlaw03_made.f kj21 t361 t358).bind fun bt460 => ((vernierlaw03_same.f kj21 bt456.1 bt456.2 bt460.1 bt460.2).bind fun t464 => (if t464 = true then ((whole_Of.f kj21 a2).bind fun bt465 => ((vernierlaw03_same.f kj21 bt465.1 bt465.2 (decide (a2 < 0)) t425).bind fun t469 => (if t469 = true then ((vernierlaw03_alive.f kj21).bind fun t470 => (some t470)) else (some false)))) else (some false))))) else (some false))))) else (some false)) = some r := H
              have A94 := Aside0.mk A940
              clear A940
              by_cases c95 : t445 = t446
              · rw [if_pos c95] at H
                have c95b0 : (t445 == t446) = true := beq_iff_eq.mpr c95
                have c95b1 : (t445 != t446) = false := bne_eq_false_iff_eq.mpr c95
                clear c95
                replace H := Option.bind_eq_some_iff.mp H
                obtain ⟨⟨t447, t448⟩, A960, H⟩ := H
                replace H : ((vernierlaw03_made.f kj21 t358 t361).bind fun bt451 => ((vernierlaw03_same.f kj21 t447 t448 bt451.1 bt451.2).bind fun t455 => (if t455 = true then ((whole_Neg.f kj21 a0_0 l0_1).bind fun bt456 => ((vernierlaw03_made.f kj21 t361 t358).bind fun bt460 => ((vernierlaw03_same.f kj21 bt456.1 bt456.2 bt460.1 bt460.2).bind fun t464 => (if t464 = true then ((whole_Of.f kj21 a2).bind fun bt465 => ((vernierlaw03_same.f kj21 bt465.1 bt465.2 (decide (a2 < 0)) t425).bind fun t469 => (if t469 = true then ((vernierlaw03_alive.f kj21).bind fun t470 => (some t470)) else (some false)))) else (some false))))) else (some false)))) = some r := H
                have A96 := Aside0.mk A960
                clear A960
                replace H := Option.bind_eq_some_iff.mp H
                obtain ⟨⟨t451, t452⟩, A970, H⟩ := H
                replace H : ((vernierlaw03_same.f kj21 t447 t448 t451 t452).bind fun t455 => (if t455 = true then ((whole_Neg.f kj21 a0_0 l0_1).bind fun bt456 => ((vernierlaw03_made.f kj21 t361 t358).bind fun bt460 => ((vernierlaw03_same.f kj21 bt456.1 bt456.2 bt460.1 bt460.2).bind fun t464 => (if t464 = true then ((whole_Of.f kj21 a2).bind fun bt465 => ((vernierlaw03_same.f kj21 bt465.1 bt465.2 (decide (a2 < 0)) t425).bind fun t469 => (if t469 = true then ((vernierlaw03_alive.f kj21).bind fun t470 => (some t470)) else (some false)))) else (some false))))) else (some false))) = some r := H
                have A97 := Aside0.mk A970
                clear A970
                replace H := Option.bind_eq_some_iff.mp H
                obtain ⟨t455, A980, H⟩ := H
                replace H : (if t455 = true then ((whole_Neg.f kj21 a0_0 l0_1).bind fun bt456 => ((vernierlaw03_made.f kj21 t361 t358).bind fun bt460 => ((vernierlaw03_same.f kj21 bt456.1 bt456.2 bt460.1 bt460.2).bind fun t464 => (if t464 = true then ((whole_Of.f kj21 a2).bind fun bt465 => ((vernierlaw03_same.f kj21 bt465.1 bt465.2 (decide (a2 < 0)) t425).bind fun t469 => (if t469 = true then ((vernierlaw03_alive.f kj21).bind fun t470 => (some t470)) else (some false)))) else (some false))))) else (some false)) = some r := H
                have A98 := Aside0.mk A980
                clear A980
                by_cases c99 : t455 = true
                · subst c99
                  have H1 : ((whole_Neg.f kj21 a0_0 l0_1).bind fun bt456 => ((vernierlaw03_made.f kj21 t361 t358).bind fun bt460 => ((vernierlaw03_same.f kj21 bt456.1 bt456.2 bt460.1 bt460.2).bind fun t464 => (if t464 = true then ((whole_Of.f kj21 a2).bind fun bt465 => ((vernierlaw03_same.f kj21 bt465.1 bt465.2 (decide (a2 < 0)) t425).bind fun t469 => (if t469 = true then ((vernierlaw03_alive.f kj21).bind fun t470 => (some t470)) else (some false)))) else (some false))))) = some r := by rw [if_pos rfl] at H; exact H
                  clear H
                  have H := H1
                  clear H1
                  replace H := Option.bind_eq_some_iff.mp H
                  obtain ⟨⟨t456, t457⟩, A1000, H⟩ := H
                  replace H : ((vernierlaw03_made.f kj21 t361 t358).bind fun bt460 => ((vernierlaw03_same.f kj21 t456 t457 bt460.1 bt460.2).bind fun t464 => (if t464 = true then ((whole_Of.f kj21 a2).bind fun bt465 => ((vernierlaw03_same.f kj21 bt465.1 bt465.2 (decide (a2 < 0)) t425).bind fun t469 => (if t469 = true then ((vernierlaw03_alive.f kj21).bind fun t470 => (some t470)) else (some false)))) else (some false)))) = some r := H
                  have A100 := Aside0.mk A1000
                  clear A1000
                  replace H := Option.bind_eq_some_iff.mp H
                  obtain ⟨⟨t460, t461⟩, A1010, H⟩ := H
                  replace H : ((vernierlaw03_same.f kj21 t456 t457 t460 t461).bind fun t464 => (if t464 = true then ((whole_Of.f kj21 a2).bind fun bt465 => ((vernierlaw03_same.f kj21 bt465.1 bt465.2 (decide (a2 < 0)) t425).bind fun t469 => (if t469 = true then ((vernierlaw03_alive.f kj21).bind fun t470 => (some t470)) else (some false)))) else (some false))) = some r := H
                  have A101 := Aside0.mk A1010
                  clear A1010
                  replace H := Option.bind_eq_some_iff.mp H
                  obtain ⟨t464, A1020, H⟩ := H
                  replace H : (if t464 = true then ((whole_Of.f kj21 a2).bind fun bt465 => ((vernierlaw03_same.f kj21 bt465.1 bt465.2 (decide (a2 < 0)) t425).bind fun t469 => (if t469 = true then ((vernierlaw03_alive.f kj21).bind fun t470 => (some t470)) else (some false)))) else (some false)) = some r := H
                  have A102 := Aside0.mk A1020
                  clear A1020
                  by_cases c103 : t464 = true
                  · subst c103
                    have H1 : ((whole_Of.f kj21 a2).bind fun bt465 => ((vernierlaw03_same.f kj21 bt465.1 bt465.2 (decide (a2 < 0)) t425).bind fun t469 => (if t469 = true then ((vernierlaw03_alive.f kj21).bind fun t470 => (some t470)) else (some false)))) = some r := by rw [if_pos rfl] at H; exact H
                    clear H
                    have H := H1
                    clear H1
                    replace H := Option.bind_eq_some_iff.mp H
                    obtain ⟨⟨t465, t466⟩, A1040, H⟩ := H
                    replace H : ((vernierlaw03_same.f kj21 t465 t466 (decide (a2 < 0)) t425).bind fun t469 => (if t469 = true then ((vernierlaw03_alive.f kj21).bind fun t470 => (some t470)) else (some false))) = some r := H
                    have A104 := Aside0.mk A1040
                    clear A1040
                    replace H := Option.bind_eq_some_iff.mp H
                    obtain ⟨t469, A1050, H⟩ := H
                    replace H : (if t469 = true then ((vernierlaw03_alive.f kj21).bind fun t470 => (some t470)) else (some false)) = some r := H
                    have A105 := Aside0.mk A1050
                    clear A1050
                    by_cases c106 : t469 = true
                    · subst c106
                      have H1 : ((vernierlaw03_alive.f kj21).bind fun t470 => (some t470)) = some r := by rw [if_pos rfl] at H; exact H
                      clear H
                      have H := H1
                      clear H1
                      replace H := Option.bind_eq_some_iff.mp H
                      obtain ⟨t470, A1070, H⟩ := H
                      replace H : (some t470) = some r := H
                      have A107 := Aside0.mk A1070
                      clear A1070
                      obtain rfl := Option.some.inj H
                      try go_wp2_with (first | ((with_reducible refine gate_callee (f := 21) rfl ?_); refine gl_ (some 72) rfl rfl Try.func21 (by kernel_rfl) rfl #[.int .u64 x15_21] rfl ?_; (with_reducible refine (vernierref01_Word.calls kj21 x15_21 t422 _ A80.out).mono ?_); rintro e w108 ⟨v423, rfl, ho0, hb⟩; refine ⟨_, rfl, ?_⟩; replace HO_381001 := Aside0.mk (Kd.R_below (rl_ HO_381001) hb); replace HO_392001 := Aside0.mk (Kd.R_below (rl_ HO_392001) hb); replace HO_415001 := Aside0.mk (Kd.R_below (rl_ HO_415001) hb); have HO424 := Aside0.mk (Kd.R_lower (Kd.R_new' (Kd.R_new' ho0 (Kd.R_lt (rl_ HO_7))) (Kd.R_lt (rl_ HO_8))) (below_size (bw_ HB))); replace HO_7 := Aside0.mk (Kd.R_elder' (rl_ HO_7) (Kd.R_base ho0) hb); replace HO_8 := Aside0.mk (Kd.R_elder' (rl_ HO_8) (Kd.R_base ho0) hb); replace BK356 := Aside0.mk (blk_below (bl_ BK356) hb); replace BK357 := Aside0.mk (blk_below (bl_ BK357) hb); replace BK380 := Aside0.mk (blk_below (bl_ BK380) hb); replace BK391 := Aside0.mk (blk_below (bl_ BK391) hb); replace BK414 := Aside0.mk (blk_below (bl_ BK414) hb); replace HB := Aside0.mk (below_step (bw_ HB) hb); (try clear hb); (try clear hb2); (try clear hk); (try clear hi); (try clear ho0); obtain ⟨Ao109, co109, eo109⟩ := Kd.R_slice HO424.out; subst eo109) | ((with_reducible refine gate_callee (f := 20) rfl ?_); refine gl_ (some 73) rfl rfl Try.func20 (by kernel_rfl) rfl #[.slice Ao109 t422.length co109] rfl ?_; (with_reducible refine (vernierref01_Limbs.calls kj21 _ _ t422 t425 _ ?side1 ?side2 A81.out).mono ?_); (case side1 => repeat (first | exact (Kd.R_reads' HO424.out).2.2 | (with_reducible refine Kd.C_alloc ?_ _) | (with_reducible refine Kd.C_drewN ?_ _) | (with_reducible refine Kd.C_drew ?_))); (case side2 => exact (Kd.R_reads' HO424.out).2.1); rintro e w110 ⟨v426, rfl, ho0, hb⟩; refine ⟨_, rfl, ?_⟩; replace HO_7 := Aside0.mk (Kd.R_below (rl_ HO_7) hb); replace HO_8 := Aside0.mk (Kd.R_below (rl_ HO_8) hb); replace HO424 := Aside0.mk (Kd.R_below (rl_ HO424) hb); have HO427 := Aside0.mk (Kd.R_lower (Kd.R_new' (Kd.R_new' (Kd.R_new' ho0 (Kd.R_lt (rl_ HO_381001))) (Kd.R_lt (rl_ HO_392001))) (Kd.R_lt (rl_ HO_415001))) (below_size (bw_ HB))); replace HO_381001 := Aside0.mk (Kd.R_elder' (rl_ HO_381001) (Kd.R_base ho0) hb); replace HO_392001 := Aside0.mk (Kd.R_elder' (rl_ HO_392001) (Kd.R_base ho0) hb); replace HO_415001 := Aside0.mk (Kd.R_elder' (rl_ HO_415001) (Kd.R_base ho0) hb); replace BK356 := Aside0.mk (blk_below (bl_ BK356) hb); replace BK357 := Aside0.mk (blk_below (bl_ BK357) hb); replace BK380 := Aside0.mk (blk_below (bl_ BK380) hb); replace BK391 := Aside0.mk (blk_below (bl_ BK391) hb); replace BK414 := Aside0.mk (blk_below (bl_ BK414) hb); replace HB := Aside0.mk (below_step (bw_ HB) hb); (try clear hb); (try clear hb2); (try clear hk); (try clear hi); (try clear ho0); obtain ⟨Ao111, co111, eo111⟩ := Kd.R_slice HO427.out; subst eo111) | ((with_reducible refine gate_dst (N := 16) rfl ?_); refine box_event ?hg (N := 16) ?hd (cs := #[.bool false, .slice none 0 0]) (t := 24) ?hr ?_; (case hd => rfl); (case hg => rfl); (case hr => first | (go_simp; done) | (go_simp; rfl)); intro gb428 hg w112 hbox hb; replace HO_7 := Aside0.mk (Kd.R_below (rl_ HO_7) hb); replace HO_8 := Aside0.mk (Kd.R_below (rl_ HO_8) hb); replace HO_381001 := Aside0.mk (Kd.R_below (rl_ HO_381001) hb); replace HO_392001 := Aside0.mk (Kd.R_below (rl_ HO_392001) hb); replace HO_415001 := Aside0.mk (Kd.R_below (rl_ HO_415001) hb); replace HO424 := Aside0.mk (Kd.R_below (rl_ HO424) hb); replace HO427 := Aside0.mk (Kd.R_below (rl_ HO427) hb); have BK428 := Aside0.mk (hbox); have GW428 := Aside0.mk ((by rw [hg]; exact (below_size (bw_ HB)) : w.heap.size ≤ gb428)); have GE428 := Aside0.mk ((by rw [hg]; exact (below_size (bw_ HB)) : w.heap.size ≤ gb428)); replace HB := Aside0.mk (below_step (bw_ HB) hb); have NB356_428 := Aside0.mk ((by rw [hg]; exact Nat.ne_of_lt (blk_lt (bl_ BK356)) : gb356 ≠ gb428)); have NB428_356 := Aside0.mk ((by rw [hg]; exact Nat.ne_of_gt (blk_lt (bl_ BK356)) : gb428 ≠ gb356)); replace BK356 := Aside0.mk (blk_below (bl_ BK356) hb); have NB357_428 := Aside0.mk ((by rw [hg]; exact Nat.ne_of_lt (blk_lt (bl_ BK357)) : gb357 ≠ gb428)); have NB428_357 := Aside0.mk ((by rw [hg]; exact Nat.ne_of_gt (blk_lt (bl_ BK357)) : gb428 ≠ gb357)); replace BK357 := Aside0.mk (blk_below (bl_ BK357) hb); have NB380_428 := Aside0.mk ((by rw [hg]; exact Nat.ne_of_lt (blk_lt (bl_ BK380)) : gb380 ≠ gb428)); have NB428_380 := Aside0.mk ((by rw [hg]; exact Nat.ne_of_gt (blk_lt (bl_ BK380)) : gb428 ≠ gb380)); replace BK380 := Aside0.mk (blk_below (bl_ BK380) hb); have NB391_428 := Aside0.mk ((by rw [hg]; exact Nat.ne_of_lt (blk_lt (bl_ BK391)) : gb391 ≠ gb428)); have NB428_391 := Aside0.mk ((by rw [hg]; exact Nat.ne_of_gt (blk_lt (bl_ BK391)) : gb428 ≠ gb391)); replace BK391 := Aside0.mk (blk_below (bl_ BK391) hb); have NB414_428 := Aside0.mk ((by rw [hg]; exact Nat.ne_of_lt (blk_lt (bl_ BK414)) : gb414 ≠ gb428)); have NB428_414 := Aside0.mk ((by rw [hg]; exact Nat.ne_of_gt (blk_lt (bl_ BK414)) : gb428 ≠ gb414)); replace BK414 := Aside0.mk (blk_below (bl_ BK414) hb); clear hb hbox hg; have hnb113 := NB428_356.out; have hnc113 := NB356_428.out; have hnb114 := NB428_357.out; have hnc114 := NB357_428.out; have hnb115 := NB428_380.out; have hnc115 := NB380_428.out; have hnb116 := NB428_391.out; have hnc116 := NB391_428.out; have hnb117 := NB428_414.out; have hnc117 := NB414_428.out; have hcz118_0 : w112.cell? ⟨gb428, 0, none⟩ = some (.bool false) := (blk_cell BK428.out 0).trans rfl; have hcz118_1 : w112.cell? ⟨gb428, 1, none⟩ = some (.slice none 0 0) := (blk_cell BK428.out 1).trans rfl; have hfz118_0 := blk_frozen BK428.out 0; have hfz118_1 := blk_frozen BK428.out 1))
                      have n0_ : Aside0 (Kd.R (Kd.int .i64) 3 ((w112.setCell ⟨gb428, 0, none⟩ (.bool (decide (a2 < 0)))).setCell ⟨gb428, 1, none⟩ (.slice Ao111 t425.length co111)) w.heap.size (fun k_ => some k_ ≠ (.slice Ao33 t361.length co33 : Value).ownBlock ∧ some k_ ≠ (.slice Ao109 t422.length co109 : Value).ownBlock) (.slice Ao30 t358.length co30) t358) := ⟨by (with_reducible repeat (first | apply Kd.R_alloc | apply Kd.R_drewN | apply Kd.R_drew)); exact Kd.R_mono (Kd.R_far (p := ⟨gb428, 1, none⟩) (Kd.R_far (p := ⟨gb428, 0, none⟩) (Kd.R_types HO_7.out BK428.out (by decide)) (fun _ hk => hk.2) (.bool (decide (a2 < 0)))) (fun _ hk => hk.2) (.slice Ao111 t425.length co111)) (fun _ hk => ⟨hk.1.1, hk.1.2⟩)⟩
                      have n1_ : Aside0 (Kd.R (Kd.int .i64) 3 ((w112.setCell ⟨gb428, 0, none⟩ (.bool (decide (a2 < 0)))).setCell ⟨gb428, 1, none⟩ (.slice Ao111 t425.length co111)) w.heap.size (fun k_ => some k_ ≠ (.slice Ao30 t358.length co30 : Value).ownBlock ∧ some k_ ≠ (.slice Ao109 t422.length co109 : Value).ownBlock) (.slice Ao33 t361.length co33) t361) := ⟨by (with_reducible repeat (first | apply Kd.R_alloc | apply Kd.R_drewN | apply Kd.R_drew)); exact Kd.R_mono (Kd.R_far (p := ⟨gb428, 1, none⟩) (Kd.R_far (p := ⟨gb428, 0, none⟩) (Kd.R_types HO_8.out BK428.out (by decide)) (fun _ hk => hk.2) (.bool (decide (a2 < 0)))) (fun _ hk => hk.2) (.slice Ao111 t425.length co111)) (fun _ hk => ⟨hk.1.1, hk.1.2⟩)⟩
                      have n2_ : Aside0 (Kd.R (Kd.int .u64) 32 ((w112.setCell ⟨gb428, 0, none⟩ (.bool (decide (a2 < 0)))).setCell ⟨gb428, 1, none⟩ (.slice Ao111 t425.length co111)) w.heap.size (fun k_ => some k_ ≠ (.slice Ao54 t388.length co54 : Value).ownBlock ∧ some k_ ≠ (.slice Ao74 t411.length co74 : Value).ownBlock ∧ some k_ ≠ (.slice Ao111 t425.length co111 : Value).ownBlock) (.slice Ao43 t377.length co43) t377) := ⟨by (with_reducible repeat (first | apply Kd.R_alloc | apply Kd.R_drewN | apply Kd.R_drew)); exact Kd.R_mono (Kd.R_far (p := ⟨gb428, 1, none⟩) (Kd.R_far (p := ⟨gb428, 0, none⟩) (Kd.R_types HO_381001.out BK428.out (by decide)) (fun _ hk => hk.2) (.bool (decide (a2 < 0)))) (fun _ hk => hk.2) (.slice Ao111 t425.length co111)) (fun _ hk => ⟨hk.1.1.1, ⟨hk.1.1.2, hk.1.2⟩⟩)⟩
                      have n3_ : Aside0 (Kd.R (Kd.int .u64) 32 ((w112.setCell ⟨gb428, 0, none⟩ (.bool (decide (a2 < 0)))).setCell ⟨gb428, 1, none⟩ (.slice Ao111 t425.length co111)) w.heap.size (fun k_ => some k_ ≠ (.slice Ao43 t377.length co43 : Value).ownBlock ∧ some k_ ≠ (.slice Ao74 t411.length co74 : Value).ownBlock ∧ some k_ ≠ (.slice Ao111 t425.length co111 : Value).ownBlock) (.slice Ao54 t388.length co54) t388) := ⟨by (with_reducible repeat (first | apply Kd.R_alloc | apply Kd.R_drewN | apply Kd.R_drew)); exact Kd.R_mono (Kd.R_far (p := ⟨gb428, 1, none⟩) (Kd.R_far (p := ⟨gb428, 0, none⟩) (Kd.R_types HO_392001.out BK428.out (by decide)) (fun _ hk => hk.2) (.bool (decide (a2 < 0)))) (fun _ hk => hk.2) (.slice Ao111 t425.length co111)) (fun _ hk => ⟨hk.1.1.1, ⟨hk.1.1.2, hk.1.2⟩⟩)⟩
                      have n4_ : Aside0 (Kd.R (Kd.int .u64) 32 ((w112.setCell ⟨gb428, 0, none⟩ (.bool (decide (a2 < 0)))).setCell ⟨gb428, 1, none⟩ (.slice Ao111 t425.length co111)) w.heap.size (fun k_ => some k_ ≠ (.slice Ao43 t377.length co43 : Value).ownBlock ∧ some k_ ≠ (.slice Ao54 t388.length co54 : Value).ownBlock ∧ some k_ ≠ (.slice Ao111 t425.length co111 : Value).ownBlock) (.slice Ao74 t411.length co74) t411) := ⟨by (with_reducible repeat (first | apply Kd.R_alloc | apply Kd.R_drewN | apply Kd.R_drew)); exact Kd.R_mono (Kd.R_far (p := ⟨gb428, 1, none⟩) (Kd.R_far (p := ⟨gb428, 0, none⟩) (Kd.R_types HO_415001.out BK428.out (by decide)) (fun _ hk => hk.2) (.bool (decide (a2 < 0)))) (fun _ hk => hk.2) (.slice Ao111 t425.length co111)) (fun _ hk => ⟨hk.1.1.1, ⟨hk.1.1.2, hk.1.2⟩⟩)⟩
                      have n5_ : Aside0 (Kd.R (Kd.int .i64) 3 ((w112.setCell ⟨gb428, 0, none⟩ (.bool (decide (a2 < 0)))).setCell ⟨gb428, 1, none⟩ (.slice Ao111 t425.length co111)) w.heap.size (fun k_ => some k_ ≠ (.slice Ao30 t358.length co30 : Value).ownBlock ∧ some k_ ≠ (.slice Ao33 t361.length co33 : Value).ownBlock) (.slice Ao109 t422.length co109) t422) := ⟨by (with_reducible repeat (first | apply Kd.R_alloc | apply Kd.R_drewN | apply Kd.R_drew)); exact Kd.R_mono (Kd.R_far (p := ⟨gb428, 1, none⟩) (Kd.R_far (p := ⟨gb428, 0, none⟩) (Kd.R_types HO424.out BK428.out (by decide)) (fun _ hk => hk.2) (.bool (decide (a2 < 0)))) (fun _ hk => hk.2) (.slice Ao111 t425.length co111)) (fun _ hk => ⟨hk.1.1.2, hk.1.2⟩)⟩
                      have n6_ : Aside0 (Kd.R (Kd.int .u64) 32 ((w112.setCell ⟨gb428, 0, none⟩ (.bool (decide (a2 < 0)))).setCell ⟨gb428, 1, none⟩ (.slice Ao111 t425.length co111)) w.heap.size (fun k_ => some k_ ≠ (.slice Ao43 t377.length co43 : Value).ownBlock ∧ some k_ ≠ (.slice Ao54 t388.length co54 : Value).ownBlock ∧ some k_ ≠ (.slice Ao74 t411.length co74 : Value).ownBlock) (.slice Ao111 t425.length co111) t425) := ⟨by (with_reducible repeat (first | apply Kd.R_alloc | apply Kd.R_drewN | apply Kd.R_drew)); exact Kd.R_mono (Kd.R_far (p := ⟨gb428, 1, none⟩) (Kd.R_far (p := ⟨gb428, 0, none⟩) (Kd.R_types HO427.out BK428.out (by decide)) (fun _ hk => hk.2) (.bool (decide (a2 < 0)))) (fun _ hk => hk.2) (.slice Ao111 t425.length co111)) (fun _ hk => ⟨hk.1.1.1.2, ⟨hk.1.1.2, hk.1.2⟩⟩)⟩
                      have n7_ : Aside0 (((w112.setCell ⟨gb428, 0, none⟩ (.bool (decide (a2 < 0)))).setCell ⟨gb428, 1, none⟩ (.slice Ao111 t425.length co111)).heap[gb356]? = some (.cells #[.bool a0_0, .slice A0_1 l0_1.length c0_1] 24 (0, 0))) := ⟨by (with_reducible repeat (first | refine blk_drewN ?_ _ | refine blk_drew ?_ | refine blk_alloc ?_ _)); refine blk_far ?_ NB356_428.out _; (with_reducible repeat (first | refine blk_drewN ?_ _ | refine blk_drew ?_ | refine blk_alloc ?_ _)); refine blk_far ?_ NB356_428.out _; (with_reducible repeat (first | refine blk_drewN ?_ _ | refine blk_drew ?_ | refine blk_alloc ?_ _)); exact BK356.out⟩
                      have n8_ : Aside0 (((w112.setCell ⟨gb428, 0, none⟩ (.bool (decide (a2 < 0)))).setCell ⟨gb428, 1, none⟩ (.slice Ao111 t425.length co111)).heap[gb357]? = some (.cells #[.bool a1_0, .slice A1_1 l1_1.length c1_1] 24 (0, 0))) := ⟨by (with_reducible repeat (first | refine blk_drewN ?_ _ | refine blk_drew ?_ | refine blk_alloc ?_ _)); refine blk_far ?_ NB357_428.out _; (with_reducible repeat (first | refine blk_drewN ?_ _ | refine blk_drew ?_ | refine blk_alloc ?_ _)); refine blk_far ?_ NB357_428.out _; (with_reducible repeat (first | refine blk_drewN ?_ _ | refine blk_drew ?_ | refine blk_alloc ?_ _)); exact BK357.out⟩
                      have n9_ : Aside0 (((w112.setCell ⟨gb428, 0, none⟩ (.bool (decide (a2 < 0)))).setCell ⟨gb428, 1, none⟩ (.slice Ao111 t425.length co111)).heap[gb380]? = some (.cells #[.bool t376, .slice Ao43 t377.length co43] 24 (0, 0))) := ⟨by (with_reducible repeat (first | refine blk_drewN ?_ _ | refine blk_drew ?_ | refine blk_alloc ?_ _)); refine blk_far ?_ NB380_428.out _; (with_reducible repeat (first | refine blk_drewN ?_ _ | refine blk_drew ?_ | refine blk_alloc ?_ _)); refine blk_far ?_ NB380_428.out _; (with_reducible repeat (first | refine blk_drewN ?_ _ | refine blk_drew ?_ | refine blk_alloc ?_ _)); exact BK380.out⟩
                      have n10_ : Aside0 (((w112.setCell ⟨gb428, 0, none⟩ (.bool (decide (a2 < 0)))).setCell ⟨gb428, 1, none⟩ (.slice Ao111 t425.length co111)).heap[gb391]? = some (.cells #[.bool t387, .slice Ao54 t388.length co54] 24 (0, 0))) := ⟨by (with_reducible repeat (first | refine blk_drewN ?_ _ | refine blk_drew ?_ | refine blk_alloc ?_ _)); refine blk_far ?_ NB391_428.out _; (with_reducible repeat (first | refine blk_drewN ?_ _ | refine blk_drew ?_ | refine blk_alloc ?_ _)); refine blk_far ?_ NB391_428.out _; (with_reducible repeat (first | refine blk_drewN ?_ _ | refine blk_drew ?_ | refine blk_alloc ?_ _)); exact BK391.out⟩
                      have n11_ : Aside0 (((w112.setCell ⟨gb428, 0, none⟩ (.bool (decide (a2 < 0)))).setCell ⟨gb428, 1, none⟩ (.slice Ao111 t425.length co111)).heap[gb414]? = some (.cells #[.bool t410, .slice Ao74 t411.length co74] 24 (0, 0))) := ⟨by (with_reducible repeat (first | refine blk_drewN ?_ _ | refine blk_drew ?_ | refine blk_alloc ?_ _)); refine blk_far ?_ NB414_428.out _; (with_reducible repeat (first | refine blk_drewN ?_ _ | refine blk_drew ?_ | refine blk_alloc ?_ _)); refine blk_far ?_ NB414_428.out _; (with_reducible repeat (first | refine blk_drewN ?_ _ | refine blk_drew ?_ | refine blk_alloc ?_ _)); exact BK414.out⟩
                      have n12_ : Aside0 (((w112.setCell ⟨gb428, 0, none⟩ (.bool (decide (a2 < 0)))).setCell ⟨gb428, 1, none⟩ (.slice Ao111 t425.length co111)).heap[gb428]? = some (.cells #[.bool (decide (a2 < 0)), .slice Ao111 t425.length co111] 24 (0, 0))) := ⟨by (with_reducible repeat (first | refine blk_drewN ?_ _ | refine blk_drew ?_ | refine blk_alloc ?_ _)); refine blk_put (cs := #[.bool (decide (a2 < 0)), .slice none 0 0]) ?_ 1 _ rfl; (with_reducible repeat (first | refine blk_drewN ?_ _ | refine blk_drew ?_ | refine blk_alloc ?_ _)); refine blk_put (cs := #[.bool false, .slice none 0 0]) ?_ 0 _ rfl; (with_reducible repeat (first | refine blk_drewN ?_ _ | refine blk_drew ?_ | refine blk_alloc ?_ _)); exact BK428.out⟩
                      have n13_ : Aside0 (Below w.heap.size w ((w112.setCell ⟨gb428, 0, none⟩ (.bool (decide (a2 < 0)))).setCell ⟨gb428, 1, none⟩ (.slice Ao111 t425.length co111))) := ⟨by repeat (first | (with_reducible first | exact HB.out | apply below_alloc | apply pw_below_drewN | apply below_drew1 | refine below_set ?_ GE356.out | refine below_set ?_ GE357.out | refine below_set ?_ GE380.out | refine below_set ?_ GE391.out | refine below_set ?_ GE414.out | refine below_set ?_ GE428.out) | exact HB.out)⟩
                      (try clear HO_7)
                      (try clear HO_8)
                      (try clear HO_381001)
                      (try clear HO_392001)
                      (try clear HO_415001)
                      (try clear HO424)
                      (try clear HO427)
                      (try clear BK356)
                      (try clear BK357)
                      (try clear BK380)
                      (try clear BK391)
                      (try clear BK414)
                      (try clear BK428)
                      (try clear HB)
                      generalize ((w112.setCell ⟨gb428, 0, none⟩ (.bool (decide (a2 < 0)))).setCell ⟨gb428, 1, none⟩ (.slice Ao111 t425.length co111)) = w119 at n0_ n1_ n2_ n3_ n4_ n5_ n6_ n7_ n8_ n9_ n10_ n11_ n12_ n13_ ⊢
                      have HO_7 := n0_
                      have HO_8 := n1_
                      have HO_381001 := n2_
                      have HO_392001 := n3_
                      have HO_415001 := n4_
                      have HO424 := n5_
                      have HO427 := n6_
                      have BK356 := n7_
                      have BK357 := n8_
                      have BK380 := n9_
                      have BK391 := n10_
                      have BK414 := n11_
                      have BK428 := n12_
                      have HB := n13_
                      clear n0_ n1_ n2_ n3_ n4_ n5_ n6_ n7_ n8_ n9_ n10_ n11_ n12_ n13_
                      replace HO_7 := Aside0.mk (Kd.R_drew HO_7.out)
                      replace HO_8 := Aside0.mk (Kd.R_drew HO_8.out)
                      replace HO_381001 := Aside0.mk (Kd.R_drew HO_381001.out)
                      replace HO_392001 := Aside0.mk (Kd.R_drew HO_392001.out)
                      replace HO_415001 := Aside0.mk (Kd.R_drew HO_415001.out)
                      replace HO424 := Aside0.mk (Kd.R_drew HO424.out)
                      replace HO427 := Aside0.mk (Kd.R_drew HO427.out)
                      replace BK356 := Aside0.mk (blk_drew BK356.out)
                      replace BK357 := Aside0.mk (blk_drew BK357.out)
                      replace BK380 := Aside0.mk (blk_drew BK380.out)
                      replace BK391 := Aside0.mk (blk_drew BK391.out)
                      replace BK414 := Aside0.mk (blk_drew BK414.out)
                      replace BK428 := Aside0.mk (blk_drew BK428.out)
                      replace HB := Aside0.mk (below_drew1 HB.out)
                      refine start_ (n := 60) (S := fun w' => w'.cell? ⟨gb356, 0, none⟩ = some (.bool a0_0) ∧ w'.cell? ⟨gb356, 1, none⟩ = some (.slice A0_1 l0_1.length c0_1) ∧ w'.cell? ⟨gb357, 0, none⟩ = some (.bool a1_0) ∧ w'.cell? ⟨gb357, 1, none⟩ = some (.slice A1_1 l1_1.length c1_1) ∧ w'.cell? ⟨gb380, 0, none⟩ = some (.bool t376) ∧ w'.cell? ⟨gb380, 1, none⟩ = some (.slice Ao43 t377.length co43) ∧ w'.cell? ⟨gb391, 0, none⟩ = some (.bool t387) ∧ w'.cell? ⟨gb391, 1, none⟩ = some (.slice Ao54 t388.length co54) ∧ w'.cell? ⟨gb414, 0, none⟩ = some (.bool t410) ∧ w'.cell? ⟨gb414, 1, none⟩ = some (.slice Ao74 t411.length co74) ∧ w'.cell? ⟨gb428, 0, none⟩ = some (.bool (decide (a2 < 0))) ∧ w'.cell? ⟨gb428, 1, none⟩ = some (.slice Ao111 t425.length co111)) (ds := []) #[false, false, false, false, false, false, false, false, false, false, false, false, false, false, false, false, false, false, false, false, false, false, false, false, false, false, false, false, false, false, false, false, false, false, false, false, false, false, false, false, false, false, false, false, false, false, false, false, false, false, false, false, false, false, false, false, false, false, false, false] (by kernel_rfl) rfl rfl ⟨(blk_cell BK356.out 0).trans rfl, (blk_cell BK356.out 1).trans rfl, (blk_cell BK357.out 0).trans rfl, (blk_cell BK357.out 1).trans rfl, (blk_cell BK380.out 0).trans rfl, (blk_cell BK380.out 1).trans rfl, (blk_cell BK391.out 0).trans rfl, (blk_cell BK391.out 1).trans rfl, (blk_cell BK414.out 0).trans rfl, (blk_cell BK414.out 1).trans rfl, (blk_cell BK428.out 0).trans rfl, (blk_cell BK428.out 1).trans rfl⟩ (fun hHeld => ?_); refine with_tabW vernierlaw03_WholeTells.tab11 vernierlaw03_WholeTells.bits11 (fun HT_ HW_ => ?_)
                      generalize w119.drew = w120 at HO_7 HO_8 HO_381001 HO_392001 HO_415001 HO424 HO427 BK356 BK357 BK380 BK391 BK414 BK428 HB hHeld ⊢
                      refine take_ (i := 0) (N := some 75) (v := ?_) (a' := ?_) #[true, false, false, false, false, false, false, false, false, false, false, false, false, false, false, false, false, false, false, false, false, false, false, false, false, false, false, false, false, false, false, false, false, false, false, false, false, false, false, false, false, false, false, false, false, false, false, false, false, false, false, false, false, false, false, false, false, false, false, false] rfl rfl (take_ofW HT_.out HW_.out (by kernel_rfl)) (fun _ _ _ h => h) (Or.inl ⟨by rfl, ?_⟩) hHeld ?_ ?_
                      rotate_left
                      · rintro w' ⟨s0, s1, s2, s3, s4, s5, s6, s7, s8, s9, s10, s11⟩
                        go_simp
                        with_reducible rfl
                      rotate_left
                      · simp only [Act.put, List.setIfInBounds_toArray, List.set_cons_zero, List.set_cons_succ, i64_w, i32_w]
                        rfl
                      refine take_ (i := 1) (N := some 76) (v := ?_) (a' := ?_) #[true, true, false, false, false, false, false, false, false, false, false, false, false, false, false, false, false, false, false, false, false, false, false, false, false, false, false, false, false, false, false, false, false, false, false, false, false, false, false, false, false, false, false, false, false, false, false, false, false, false, false, false, false, false, false, false, false, false, false, false] rfl rfl (take_ofW HT_.out HW_.out (by kernel_rfl)) (fun _ _ _ h => h) (Or.inl ⟨by rfl, ?_⟩) hHeld ?_ ?_
                      rotate_left
                      · rintro w' ⟨s0, s1, s2, s3, s4, s5, s6, s7, s8, s9, s10, s11⟩
                        go_simp
                        with_reducible rfl
                      rotate_left
                      · simp only [Act.put, List.setIfInBounds_toArray, List.set_cons_zero, List.set_cons_succ, i64_w, i32_w]
                        rfl
                      refine take_ (i := 3) (N := some 78) (v := ?_) (a' := ?_) #[true, true, false, true, false, false, false, false, false, false, false, false, false, false, false, false, false, false, false, false, false, false, false, false, false, false, false, false, false, false, false, false, false, false, false, false, false, false, false, false, false, false, false, false, false, false, false, false, false, false, false, false, false, false, false, false, false, false, false, false] rfl rfl (take_ofW HT_.out HW_.out (by kernel_rfl)) (fun _ _ _ h => h) (Or.inl ⟨by rfl, ?_⟩) hHeld ?_ ?_
                      rotate_left
                      · rintro w' ⟨s0, s1, s2, s3, s4, s5, s6, s7, s8, s9, s10, s11⟩
                        go_simp
                        with_reducible rfl
                      rotate_left
                      · simp only [Act.put, List.setIfInBounds_toArray, List.set_cons_zero, List.set_cons_succ, i64_w, i32_w]
                        rfl
                      refine one_ (i := 2) (N := some 77) #[true, true, true, true, false, false, false, false, false, false, false, false, false, false, false, false, false, false, false, false, false, false, false, false, false, false, false, false, false, false, false, false, false, false, false, false, false, false, false, false, false, false, false, false, false, false, false, false, false, false, false, false, false, false, false, false, false, false, false, false] rfl rfl (one_of HT_.out (by kernel_rfl)) (by decide) (fun K hK => ?_)
                      refine goes_ Try.func23 (by kernel_rfl) rfl #[.agg #[.bool a0_0, .slice A0_1 l0_1.length c0_1], .agg #[.bool a1_0, .slice A1_1 l1_1.length c1_1]] (by rfl) rfl rfl (by (try simp only [List.map_toArray, List.map_cons, List.map_nil]); first | done | rfl | (simp only [List.length_drop, List.length_take]; rfl)) ?_
                      with_reducible refine (whole_Add.calls kj21 a0_0 _ _ l0_1 a1_0 _ _ l1_1 t429 t430 _ ?side1 ?side2 ?side3 ?side4 A82.out).mono ?_
                      (case side1 => exact cl_ (Kd.C_below HR0_1.out HB.out))
                      (case side2 => exact HC0_1.out)
                      (case side3 => exact cl_ (Kd.C_below HR1_1.out HB.out))
                      (case side4 => exact HC1_1.out)
                      rintro e w121 ⟨v431, rfl, ho0, hb⟩
                      refine ⟨_, rfl, ?_⟩
                      replace HO_7 := Aside0.mk (Kd.R_below (rl_ HO_7) hb)
                      replace HO_8 := Aside0.mk (Kd.R_below (rl_ HO_8) hb)
                      replace HO424 := Aside0.mk (Kd.R_below (rl_ HO424) hb)
                      have HO432 := Aside0.mk (Kd.R_lower (Kd.R_new' (Kd.R_new' (Kd.R_new' (Kd.R_new' ho0 (Kd.R_lt (rl_ HO_381001))) (Kd.R_lt (rl_ HO_392001))) (Kd.R_lt (rl_ HO_415001))) (Kd.R_lt (rl_ HO427))) (below_size (bw_ HB)))
                      replace HO_381001 := Aside0.mk (Kd.R_elder' (rl_ HO_381001) (Kd.R_base ho0) hb)
                      replace HO_392001 := Aside0.mk (Kd.R_elder' (rl_ HO_392001) (Kd.R_base ho0) hb)
                      replace HO_415001 := Aside0.mk (Kd.R_elder' (rl_ HO_415001) (Kd.R_base ho0) hb)
                      replace HO427 := Aside0.mk (Kd.R_elder' (rl_ HO427) (Kd.R_base ho0) hb)
                      replace BK356 := Aside0.mk (blk_below (bl_ BK356) hb)
                      replace BK357 := Aside0.mk (blk_below (bl_ BK357) hb)
                      replace BK380 := Aside0.mk (blk_below (bl_ BK380) hb)
                      replace BK391 := Aside0.mk (blk_below (bl_ BK391) hb)
                      replace BK414 := Aside0.mk (blk_below (bl_ BK414) hb)
                      replace BK428 := Aside0.mk (blk_below (bl_ BK428) hb)
                      replace HB := Aside0.mk (below_step (bw_ HB) hb)
                      (try clear hb)
                      (try clear hb2)
                      (try clear hk)
                      (try clear hi)
                      (try clear ho0)
                      obtain ⟨Ao122, co122, eo122⟩ := Kd.R_slice HO432.out
                      (first | subst eo122 | (injection eo122 with f1_ f2_ f3_; have f4_ := f1_.symm; have f5_ := f3_.symm; clear f1_ f2_ f3_; subst f4_; subst f5_))
                      refine hK.out _ _ ⟨(blk_cell BK356.out 0).trans rfl, (blk_cell BK356.out 1).trans rfl, (blk_cell BK357.out 0).trans rfl, (blk_cell BK357.out 1).trans rfl, (blk_cell BK380.out 0).trans rfl, (blk_cell BK380.out 1).trans rfl, (blk_cell BK391.out 0).trans rfl, (blk_cell BK391.out 1).trans rfl, (blk_cell BK414.out 0).trans rfl, (blk_cell BK414.out 1).trans rfl, (blk_cell BK428.out 0).trans rfl, (blk_cell BK428.out 1).trans rfl⟩ (fun hHeld => ?_)
                      clear hK K
                      refine norm_ (a' := ?_) ?_ ?_
                      rotate_left
                      · show Act.put _ (some 77) _ = _
                        simp only [Act.put, List.setIfInBounds_toArray, List.set_cons_zero, List.set_cons_succ, i64_w, i32_w]
                        rfl
                      refine one_ (i := 4) (N := some 79) #[true, true, true, true, true, false, false, false, false, false, false, false, false, false, false, false, false, false, false, false, false, false, false, false, false, false, false, false, false, false, false, false, false, false, false, false, false, false, false, false, false, false, false, false, false, false, false, false, false, false, false, false, false, false, false, false, false, false, false, false] rfl rfl (one_of HT_.out (by kernel_rfl)) (by decide) (fun K hK => ?_)
                      refine goes_ Try.func22 (by kernel_rfl) rfl #[.agg #[.bool t429, .slice Ao122 t430.length co122], .agg #[.bool t376, .slice Ao43 t377.length co43]] (by rfl) rfl rfl (by (try simp only [List.map_toArray, List.map_cons, List.map_nil]); first | done | rfl | (simp only [List.length_drop, List.length_take]; rfl)) ?_
                      with_reducible refine (vernierlaw03_same.calls kj21 t429 _ _ t430 t376 _ _ t377 true _ ?side1 ?side2 ?side3 ?side4 A83.out).mono ?_
                      (case side1 => repeat (first | exact (Kd.R_reads' HO432.out).2.2 | (with_reducible refine Kd.C_alloc ?_ _) | (with_reducible refine Kd.C_drewN ?_ _) | (with_reducible refine Kd.C_drew ?_)))
                      (case side2 => exact (Kd.R_reads' HO432.out).2.1)
                      (case side3 => repeat (first | exact (Kd.R_reads' HO_381001.out).2.2 | (with_reducible refine Kd.C_alloc ?_ _) | (with_reducible refine Kd.C_drewN ?_ _) | (with_reducible refine Kd.C_drew ?_)))
                      (case side4 => exact (Kd.R_reads' HO_381001.out).2.1)
                      rintro e w123 ⟨rfl, hb⟩
                      refine ⟨_, rfl, ?_⟩
                      replace HO_7 := Aside0.mk (Kd.R_below (rl_ HO_7) hb)
                      replace HO_8 := Aside0.mk (Kd.R_below (rl_ HO_8) hb)
                      replace HO_381001 := Aside0.mk (Kd.R_below (rl_ HO_381001) hb)
                      replace HO_392001 := Aside0.mk (Kd.R_below (rl_ HO_392001) hb)
                      replace HO_415001 := Aside0.mk (Kd.R_below (rl_ HO_415001) hb)
                      replace HO424 := Aside0.mk (Kd.R_below (rl_ HO424) hb)
                      replace HO427 := Aside0.mk (Kd.R_below (rl_ HO427) hb)
                      replace HO432 := Aside0.mk (Kd.R_below (rl_ HO432) hb)
                      replace BK356 := Aside0.mk (blk_below (bl_ BK356) hb)
                      replace BK357 := Aside0.mk (blk_below (bl_ BK357) hb)
                      replace BK380 := Aside0.mk (blk_below (bl_ BK380) hb)
                      replace BK391 := Aside0.mk (blk_below (bl_ BK391) hb)
                      replace BK414 := Aside0.mk (blk_below (bl_ BK414) hb)
                      replace BK428 := Aside0.mk (blk_below (bl_ BK428) hb)
                      replace HB := Aside0.mk (below_step (bw_ HB) hb)
                      (try clear hb)
                      (try clear hb2)
                      (try clear hk)
                      (try clear hi)
                      refine hK.out _ _ ⟨(blk_cell BK356.out 0).trans rfl, (blk_cell BK356.out 1).trans rfl, (blk_cell BK357.out 0).trans rfl, (blk_cell BK357.out 1).trans rfl, (blk_cell BK380.out 0).trans rfl, (blk_cell BK380.out 1).trans rfl, (blk_cell BK391.out 0).trans rfl, (blk_cell BK391.out 1).trans rfl, (blk_cell BK414.out 0).trans rfl, (blk_cell BK414.out 1).trans rfl, (blk_cell BK428.out 0).trans rfl, (blk_cell BK428.out 1).trans rfl⟩ (fun hHeld => ?_)
                      clear hK K
                      refine norm_ (a' := ?_) ?_ ?_
                      rotate_left
                      · show Act.put _ (some 79) _ = _
                        simp only [Act.put, List.setIfInBounds_toArray, List.set_cons_zero, List.set_cons_succ, i64_w, i32_w]
                        rfl
                      refine pure_ (i := 5) (N := some 80) (v := ?_) (a' := ?_) #[true, true, true, true, true, true, false, false, false, false, false, false, false, false, false, false, false, false, false, false, false, false, false, false, false, false, false, false, false, false, false, false, false, false, false, false, false, false, false, false, false, false, false, false, false, false, false, false, false, false, false, false, false, false, false, false, false, false, false, false] rfl rfl (any_of HT_.out (by kernel_rfl)) (fun _ _ _ h => h) (Or.inl ⟨by rfl, ?_⟩) ?_ ?_
                      rotate_left
                      · intro w'
                        go_simp
                        with_reducible rfl
                      rotate_left
                      · simp only [Act.put, List.setIfInBounds_toArray, List.set_cons_zero, List.set_cons_succ, i64_w, i32_w]
                        rfl
                      refine take_ (i := 6) (N := some 81) (v := ?_) (a' := ?_) #[true, true, true, true, true, true, true, false, false, false, false, false, false, false, false, false, false, false, false, false, false, false, false, false, false, false, false, false, false, false, false, false, false, false, false, false, false, false, false, false, false, false, false, false, false, false, false, false, false, false, false, false, false, false, false, false, false, false, false, false] rfl rfl (take_ofW HT_.out HW_.out (by kernel_rfl)) (fun _ _ _ h => h) (Or.inl ⟨by rfl, ?_⟩) hHeld ?_ ?_
                      rotate_left
                      · rintro w' ⟨s0, s1, s2, s3, s4, s5, s6, s7, s8, s9, s10, s11⟩
                        go_simp
                        with_reducible rfl
                      rotate_left
                      · simp only [Act.put, List.setIfInBounds_toArray, List.set_cons_zero, List.set_cons_succ, i64_w, i32_w]
                        rfl
                      refine take_ (i := 7) (N := some 82) (v := ?_) (a' := ?_) #[true, true, true, true, true, true, true, true, false, false, false, false, false, false, false, false, false, false, false, false, false, false, false, false, false, false, false, false, false, false, false, false, false, false, false, false, false, false, false, false, false, false, false, false, false, false, false, false, false, false, false, false, false, false, false, false, false, false, false, false] rfl rfl (take_ofW HT_.out HW_.out (by kernel_rfl)) (fun _ _ _ h => h) (Or.inl ⟨by rfl, ?_⟩) hHeld ?_ ?_
                      rotate_left
                      · rintro w' ⟨s0, s1, s2, s3, s4, s5, s6, s7, s8, s9, s10, s11⟩
                        go_simp
                        with_reducible rfl
                      rotate_left
                      · simp only [Act.put, List.setIfInBounds_toArray, List.set_cons_zero, List.set_cons_succ, i64_w, i32_w]
                        rfl
                      refine take_ (i := 9) (N := some 84) (v := ?_) (a' := ?_) #[true, true, true, true, true, true, true, true, false, true, false, false, false, false, false, false, false, false, false, false, false, false, false, false, false, false, false, false, false, false, false, false, false, false, false, false, false, false, false, false, false, false, false, false, false, false, false, false, false, false, false, false, false, false, false, false, false, false, false, false] rfl rfl (take_ofW HT_.out HW_.out (by kernel_rfl)) (fun _ _ _ h => h) (Or.inl ⟨by rfl, ?_⟩) hHeld ?_ ?_
                      rotate_left
                      · rintro w' ⟨s0, s1, s2, s3, s4, s5, s6, s7, s8, s9, s10, s11⟩
                        go_simp
                        with_reducible rfl
                      rotate_left
                      · simp only [Act.put, List.setIfInBounds_toArray, List.set_cons_zero, List.set_cons_succ, i64_w, i32_w]
                        rfl
                      refine one_ (i := 8) (N := some 83) #[true, true, true, true, true, true, true, true, true, true, false, false, false, false, false, false, false, false, false, false, false, false, false, false, false, false, false, false, false, false, false, false, false, false, false, false, false, false, false, false, false, false, false, false, false, false, false, false, false, false, false, false, false, false, false, false, false, false, false, false] rfl rfl (one_of HT_.out (by kernel_rfl)) (by decide) (fun K hK => ?_)
                      refine goes_ Try.func24 (by kernel_rfl) rfl #[.agg #[.bool a0_0, .slice A0_1 l0_1.length c0_1], .agg #[.bool a1_0, .slice A1_1 l1_1.length c1_1]] (by rfl) rfl rfl (by (try simp only [List.map_toArray, List.map_cons, List.map_nil]); first | done | rfl | (simp only [List.length_drop, List.length_take]; rfl)) ?_
                      with_reducible refine (whole_Sub.calls kj21 a0_0 _ _ l0_1 a1_0 _ _ l1_1 t434 t435 _ ?side1 ?side2 ?side3 ?side4 A85.out).mono ?_
                      (case side1 => exact cl_ (Kd.C_below HR0_1.out HB.out))
                      (case side2 => exact HC0_1.out)
                      (case side3 => exact cl_ (Kd.C_below HR1_1.out HB.out))
                      (case side4 => exact HC1_1.out)
                      rintro e w124 ⟨v436, rfl, ho0, hb⟩
                      refine ⟨_, rfl, ?_⟩
                      replace HO_7 := Aside0.mk (Kd.R_below (rl_ HO_7) hb)
                      replace HO_8 := Aside0.mk (Kd.R_below (rl_ HO_8) hb)
                      replace HO424 := Aside0.mk (Kd.R_below (rl_ HO424) hb)
                      have HO437 := Aside0.mk (Kd.R_lower (Kd.R_new' (Kd.R_new' (Kd.R_new' (Kd.R_new' (Kd.R_new' ho0 (Kd.R_lt (rl_ HO_381001))) (Kd.R_lt (rl_ HO_392001))) (Kd.R_lt (rl_ HO_415001))) (Kd.R_lt (rl_ HO427))) (Kd.R_lt (rl_ HO432))) (below_size (bw_ HB)))
                      replace HO_381001 := Aside0.mk (Kd.R_elder' (rl_ HO_381001) (Kd.R_base ho0) hb)
                      replace HO_392001 := Aside0.mk (Kd.R_elder' (rl_ HO_392001) (Kd.R_base ho0) hb)
                      replace HO_415001 := Aside0.mk (Kd.R_elder' (rl_ HO_415001) (Kd.R_base ho0) hb)
                      replace HO427 := Aside0.mk (Kd.R_elder' (rl_ HO427) (Kd.R_base ho0) hb)
                      replace HO432 := Aside0.mk (Kd.R_elder' (rl_ HO432) (Kd.R_base ho0) hb)
                      replace BK356 := Aside0.mk (blk_below (bl_ BK356) hb)
                      replace BK357 := Aside0.mk (blk_below (bl_ BK357) hb)
                      replace BK380 := Aside0.mk (blk_below (bl_ BK380) hb)
                      replace BK391 := Aside0.mk (blk_below (bl_ BK391) hb)
                      replace BK414 := Aside0.mk (blk_below (bl_ BK414) hb)
                      replace BK428 := Aside0.mk (blk_below (bl_ BK428) hb)
                      replace HB := Aside0.mk (below_step (bw_ HB) hb)
                      (try clear hb)
                      (try clear hb2)
                      (try clear hk)
                      (try clear hi)
                      (try clear ho0)
                      obtain ⟨Ao125, co125, eo125⟩ := Kd.R_slice HO437.out
                      (first | subst eo125 | (injection eo125 with f1_ f2_ f3_; have f4_ := f1_.symm; have f5_ := f3_.symm; clear f1_ f2_ f3_; subst f4_; subst f5_))
                      refine hK.out _ _ ⟨(blk_cell BK356.out 0).trans rfl, (blk_cell BK356.out 1).trans rfl, (blk_cell BK357.out 0).trans rfl, (blk_cell BK357.out 1).trans rfl, (blk_cell BK380.out 0).trans rfl, (blk_cell BK380.out 1).trans rfl, (blk_cell BK391.out 0).trans rfl, (blk_cell BK391.out 1).trans rfl, (blk_cell BK414.out 0).trans rfl, (blk_cell BK414.out 1).trans rfl, (blk_cell BK428.out 0).trans rfl, (blk_cell BK428.out 1).trans rfl⟩ (fun hHeld => ?_)
                      clear hK K
                      refine norm_ (a' := ?_) ?_ ?_
                      rotate_left
                      · show Act.put _ (some 83) _ = _
                        simp only [Act.put, List.setIfInBounds_toArray, List.set_cons_zero, List.set_cons_succ, i64_w, i32_w]
                        rfl
                      refine one_ (i := 10) (N := some 85) #[true, true, true, true, true, true, true, true, true, true, true, false, false, false, false, false, false, false, false, false, false, false, false, false, false, false, false, false, false, false, false, false, false, false, false, false, false, false, false, false, false, false, false, false, false, false, false, false, false, false, false, false, false, false, false, false, false, false, false, false] rfl rfl (one_of HT_.out (by kernel_rfl)) (by decide) (fun K hK => ?_)
                      refine goes_ Try.func22 (by kernel_rfl) rfl #[.agg #[.bool t434, .slice Ao125 t435.length co125], .agg #[.bool t387, .slice Ao54 t388.length co54]] (by rfl) rfl rfl (by (try simp only [List.map_toArray, List.map_cons, List.map_nil]); first | done | rfl | (simp only [List.length_drop, List.length_take]; rfl)) ?_
                      with_reducible refine (vernierlaw03_same.calls kj21 t434 _ _ t435 t387 _ _ t388 true _ ?side1 ?side2 ?side3 ?side4 A86.out).mono ?_
                      (case side1 => repeat (first | exact (Kd.R_reads' HO437.out).2.2 | (with_reducible refine Kd.C_alloc ?_ _) | (with_reducible refine Kd.C_drewN ?_ _) | (with_reducible refine Kd.C_drew ?_)))
                      (case side2 => exact (Kd.R_reads' HO437.out).2.1)
                      (case side3 => repeat (first | exact (Kd.R_reads' HO_392001.out).2.2 | (with_reducible refine Kd.C_alloc ?_ _) | (with_reducible refine Kd.C_drewN ?_ _) | (with_reducible refine Kd.C_drew ?_)))
                      (case side4 => exact (Kd.R_reads' HO_392001.out).2.1)
                      rintro e w126 ⟨rfl, hb⟩
                      refine ⟨_, rfl, ?_⟩
                      replace HO_7 := Aside0.mk (Kd.R_below (rl_ HO_7) hb)
                      replace HO_8 := Aside0.mk (Kd.R_below (rl_ HO_8) hb)
                      replace HO_381001 := Aside0.mk (Kd.R_below (rl_ HO_381001) hb)
                      replace HO_392001 := Aside0.mk (Kd.R_below (rl_ HO_392001) hb)
                      replace HO_415001 := Aside0.mk (Kd.R_below (rl_ HO_415001) hb)
                      replace HO424 := Aside0.mk (Kd.R_below (rl_ HO424) hb)
                      replace HO427 := Aside0.mk (Kd.R_below (rl_ HO427) hb)
                      replace HO432 := Aside0.mk (Kd.R_below (rl_ HO432) hb)
                      replace HO437 := Aside0.mk (Kd.R_below (rl_ HO437) hb)
                      replace BK356 := Aside0.mk (blk_below (bl_ BK356) hb)
                      replace BK357 := Aside0.mk (blk_below (bl_ BK357) hb)
                      replace BK380 := Aside0.mk (blk_below (bl_ BK380) hb)
                      replace BK391 := Aside0.mk (blk_below (bl_ BK391) hb)
                      replace BK414 := Aside0.mk (blk_below (bl_ BK414) hb)
                      replace BK428 := Aside0.mk (blk_below (bl_ BK428) hb)
                      replace HB := Aside0.mk (below_step (bw_ HB) hb)
                      (try clear hb)
                      (try clear hb2)
                      (try clear hk)
                      (try clear hi)
                      refine hK.out _ _ ⟨(blk_cell BK356.out 0).trans rfl, (blk_cell BK356.out 1).trans rfl, (blk_cell BK357.out 0).trans rfl, (blk_cell BK357.out 1).trans rfl, (blk_cell BK380.out 0).trans rfl, (blk_cell BK380.out 1).trans rfl, (blk_cell BK391.out 0).trans rfl, (blk_cell BK391.out 1).trans rfl, (blk_cell BK414.out 0).trans rfl, (blk_cell BK414.out 1).trans rfl, (blk_cell BK428.out 0).trans rfl, (blk_cell BK428.out 1).trans rfl⟩ (fun hHeld => ?_)
                      clear hK K
                      refine norm_ (a' := ?_) ?_ ?_
                      rotate_left
                      · show Act.put _ (some 85) _ = _
                        simp only [Act.put, List.setIfInBounds_toArray, List.set_cons_zero, List.set_cons_succ, i64_w, i32_w]
                        rfl
                      refine pure_ (i := 11) (N := some 86) (v := ?_) (a' := ?_) #[true, true, true, true, true, true, true, true, true, true, true, true, false, false, false, false, false, false, false, false, false, false, false, false, false, false, false, false, false, false, false, false, false, false, false, false, false, false, false, false, false, false, false, false, false, false, false, false, false, false, false, false, false, false, false, false, false, false, false, false] rfl rfl (any_of HT_.out (by kernel_rfl)) (fun _ _ _ h => h) (Or.inl ⟨by rfl, ?_⟩) ?_ ?_
                      rotate_left
                      · intro w'
                        go_simp
                        with_reducible rfl
                      rotate_left
                      · simp only [Act.put, List.setIfInBounds_toArray, List.set_cons_zero, List.set_cons_succ, i64_w, i32_w]
                        rfl
                      refine pure_ (i := 12) (N := some 87) (v := ?_) (a' := ?_) #[true, true, true, true, true, true, true, true, true, true, true, true, true, false, false, false, false, false, false, false, false, false, false, false, false, false, false, false, false, false, false, false, false, false, false, false, false, false, false, false, false, false, false, false, false, false, false, false, false, false, false, false, false, false, false, false, false, false, false, false] rfl rfl (any_of HT_.out (by kernel_rfl)) (fun _ _ _ h => h) (Or.inl ⟨by rfl, ?_⟩) ?_ ?_
                      rotate_left
                      · intro w'
                        go_simp
                        with_reducible rfl
                      rotate_left
                      · simp only [Act.put, List.setIfInBounds_toArray, List.set_cons_zero, List.set_cons_succ, i64_w, i32_w]
                        rfl
                      refine take_ (i := 13) (N := some 88) (v := ?_) (a' := ?_) #[true, true, true, true, true, true, true, true, true, true, true, true, true, true, false, false, false, false, false, false, false, false, false, false, false, false, false, false, false, false, false, false, false, false, false, false, false, false, false, false, false, false, false, false, false, false, false, false, false, false, false, false, false, false, false, false, false, false, false, false] rfl rfl (take_ofW HT_.out HW_.out (by kernel_rfl)) (fun _ _ _ h => h) (Or.inl ⟨by rfl, ?_⟩) hHeld ?_ ?_
                      rotate_left
                      · rintro w' ⟨s0, s1, s2, s3, s4, s5, s6, s7, s8, s9, s10, s11⟩
                        go_simp
                        with_reducible rfl
                      rotate_left
                      · simp only [Act.put, List.setIfInBounds_toArray, List.set_cons_zero, List.set_cons_succ, i64_w, i32_w]
                        rfl
                      refine take_ (i := 14) (N := some 89) (v := ?_) (a' := ?_) #[true, true, true, true, true, true, true, true, true, true, true, true, true, true, true, false, false, false, false, false, false, false, false, false, false, false, false, false, false, false, false, false, false, false, false, false, false, false, false, false, false, false, false, false, false, false, false, false, false, false, false, false, false, false, false, false, false, false, false, false] rfl rfl (take_ofW HT_.out HW_.out (by kernel_rfl)) (fun _ _ _ h => h) (Or.inl ⟨by rfl, ?_⟩) hHeld ?_ ?_
                      rotate_left
                      · rintro w' ⟨s0, s1, s2, s3, s4, s5, s6, s7, s8, s9, s10, s11⟩
                        go_simp
                        with_reducible rfl
                      rotate_left
                      · simp only [Act.put, List.setIfInBounds_toArray, List.set_cons_zero, List.set_cons_succ, i64_w, i32_w]
                        rfl
                      refine take_ (i := 16) (N := some 91) (v := ?_) (a' := ?_) #[true, true, true, true, true, true, true, true, true, true, true, true, true, true, true, false, true, false, false, false, false, false, false, false, false, false, false, false, false, false, false, false, false, false, false, false, false, false, false, false, false, false, false, false, false, false, false, false, false, false, false, false, false, false, false, false, false, false, false, false] rfl rfl (take_ofW HT_.out HW_.out (by kernel_rfl)) (fun _ _ _ h => h) (Or.inl ⟨by rfl, ?_⟩) hHeld ?_ ?_
                      rotate_left
                      · rintro w' ⟨s0, s1, s2, s3, s4, s5, s6, s7, s8, s9, s10, s11⟩
                        go_simp
                        with_reducible rfl
                      rotate_left
                      · simp only [Act.put, List.setIfInBounds_toArray, List.set_cons_zero, List.set_cons_succ, i64_w, i32_w]
                        rfl
                      refine one_ (i := 15) (N := some 90) #[true, true, true, true, true, true, true, true, true, true, true, true, true, true, true, true, true, false, false, false, false, false, false, false, false, false, false, false, false, false, false, false, false, false, false, false, false, false, false, false, false, false, false, false, false, false, false, false, false, false, false, false, false, false, false, false, false, false, false, false] rfl rfl (one_of HT_.out (by kernel_rfl)) (by decide) (fun K hK => ?_)
                      refine goes_ Try.func25 (by kernel_rfl) rfl #[.agg #[.bool a0_0, .slice A0_1 l0_1.length c0_1], .agg #[.bool a1_0, .slice A1_1 l1_1.length c1_1]] (by rfl) rfl rfl (by (try simp only [List.map_toArray, List.map_cons, List.map_nil]); first | done | rfl | (simp only [List.length_drop, List.length_take]; rfl)) ?_
                      with_reducible refine (whole_Mul.calls kj21 a0_0 _ _ l0_1 a1_0 _ _ l1_1 t439 t440 _ ?side1 ?side2 ?side3 ?side4 A88.out).mono ?_
                      (case side1 => exact cl_ (Kd.C_below HR0_1.out HB.out))
                      (case side2 => exact HC0_1.out)
                      (case side3 => exact cl_ (Kd.C_below HR1_1.out HB.out))
                      (case side4 => exact HC1_1.out)
                      rintro e w127 ⟨v441, rfl, ho0, hb⟩
                      refine ⟨_, rfl, ?_⟩
                      replace HO_7 := Aside0.mk (Kd.R_below (rl_ HO_7) hb)
                      replace HO_8 := Aside0.mk (Kd.R_below (rl_ HO_8) hb)
                      replace HO424 := Aside0.mk (Kd.R_below (rl_ HO424) hb)
                      have HO442 := Aside0.mk (Kd.R_lower (Kd.R_new' (Kd.R_new' (Kd.R_new' (Kd.R_new' (Kd.R_new' (Kd.R_new' ho0 (Kd.R_lt (rl_ HO_381001))) (Kd.R_lt (rl_ HO_392001))) (Kd.R_lt (rl_ HO_415001))) (Kd.R_lt (rl_ HO427))) (Kd.R_lt (rl_ HO432))) (Kd.R_lt (rl_ HO437))) (below_size (bw_ HB)))
                      replace HO_381001 := Aside0.mk (Kd.R_elder' (rl_ HO_381001) (Kd.R_base ho0) hb)
                      replace HO_392001 := Aside0.mk (Kd.R_elder' (rl_ HO_392001) (Kd.R_base ho0) hb)
                      replace HO_415001 := Aside0.mk (Kd.R_elder' (rl_ HO_415001) (Kd.R_base ho0) hb)
                      replace HO427 := Aside0.mk (Kd.R_elder' (rl_ HO427) (Kd.R_base ho0) hb)
                      replace HO432 := Aside0.mk (Kd.R_elder' (rl_ HO432) (Kd.R_base ho0) hb)
                      replace HO437 := Aside0.mk (Kd.R_elder' (rl_ HO437) (Kd.R_base ho0) hb)
                      replace BK356 := Aside0.mk (blk_below (bl_ BK356) hb)
                      replace BK357 := Aside0.mk (blk_below (bl_ BK357) hb)
                      replace BK380 := Aside0.mk (blk_below (bl_ BK380) hb)
                      replace BK391 := Aside0.mk (blk_below (bl_ BK391) hb)
                      replace BK414 := Aside0.mk (blk_below (bl_ BK414) hb)
                      replace BK428 := Aside0.mk (blk_below (bl_ BK428) hb)
                      replace HB := Aside0.mk (below_step (bw_ HB) hb)
                      (try clear hb)
                      (try clear hb2)
                      (try clear hk)
                      (try clear hi)
                      (try clear ho0)
                      obtain ⟨Ao128, co128, eo128⟩ := Kd.R_slice HO442.out
                      (first | subst eo128 | (injection eo128 with f1_ f2_ f3_; have f4_ := f1_.symm; have f5_ := f3_.symm; clear f1_ f2_ f3_; subst f4_; subst f5_))
                      refine hK.out _ _ ⟨(blk_cell BK356.out 0).trans rfl, (blk_cell BK356.out 1).trans rfl, (blk_cell BK357.out 0).trans rfl, (blk_cell BK357.out 1).trans rfl, (blk_cell BK380.out 0).trans rfl, (blk_cell BK380.out 1).trans rfl, (blk_cell BK391.out 0).trans rfl, (blk_cell BK391.out 1).trans rfl, (blk_cell BK414.out 0).trans rfl, (blk_cell BK414.out 1).trans rfl, (blk_cell BK428.out 0).trans rfl, (blk_cell BK428.out 1).trans rfl⟩ (fun hHeld => ?_)
                      clear hK K
                      refine norm_ (a' := ?_) ?_ ?_
                      rotate_left
                      · show Act.put _ (some 90) _ = _
                        simp only [Act.put, List.setIfInBounds_toArray, List.set_cons_zero, List.set_cons_succ, i64_w, i32_w]
                        rfl
                      refine one_ (i := 17) (N := some 92) #[true, true, true, true, true, true, true, true, true, true, true, true, true, true, true, true, true, true, false, false, false, false, false, false, false, false, false, false, false, false, false, false, false, false, false, false, false, false, false, false, false, false, false, false, false, false, false, false, false, false, false, false, false, false, false, false, false, false, false, false] rfl rfl (one_of HT_.out (by kernel_rfl)) (by decide) (fun K hK => ?_)
                      refine goes_ Try.func22 (by kernel_rfl) rfl #[.agg #[.bool t439, .slice Ao128 t440.length co128], .agg #[.bool t410, .slice Ao74 t411.length co74]] (by rfl) rfl rfl (by (try simp only [List.map_toArray, List.map_cons, List.map_nil]); first | done | rfl | (simp only [List.length_drop, List.length_take]; rfl)) ?_
                      with_reducible refine (vernierlaw03_same.calls kj21 t439 _ _ t440 t410 _ _ t411 true _ ?side1 ?side2 ?side3 ?side4 A89.out).mono ?_
                      (case side1 => repeat (first | exact (Kd.R_reads' HO442.out).2.2 | (with_reducible refine Kd.C_alloc ?_ _) | (with_reducible refine Kd.C_drewN ?_ _) | (with_reducible refine Kd.C_drew ?_)))
                      (case side2 => exact (Kd.R_reads' HO442.out).2.1)
                      (case side3 => repeat (first | exact (Kd.R_reads' HO_415001.out).2.2 | (with_reducible refine Kd.C_alloc ?_ _) | (with_reducible refine Kd.C_drewN ?_ _) | (with_reducible refine Kd.C_drew ?_)))
                      (case side4 => exact (Kd.R_reads' HO_415001.out).2.1)
                      rintro e w129 ⟨rfl, hb⟩
                      refine ⟨_, rfl, ?_⟩
                      replace HO_7 := Aside0.mk (Kd.R_below (rl_ HO_7) hb)
                      replace HO_8 := Aside0.mk (Kd.R_below (rl_ HO_8) hb)
                      replace HO_381001 := Aside0.mk (Kd.R_below (rl_ HO_381001) hb)
                      replace HO_392001 := Aside0.mk (Kd.R_below (rl_ HO_392001) hb)
                      replace HO_415001 := Aside0.mk (Kd.R_below (rl_ HO_415001) hb)
                      replace HO424 := Aside0.mk (Kd.R_below (rl_ HO424) hb)
                      replace HO427 := Aside0.mk (Kd.R_below (rl_ HO427) hb)
                      replace HO432 := Aside0.mk (Kd.R_below (rl_ HO432) hb)
                      replace HO437 := Aside0.mk (Kd.R_below (rl_ HO437) hb)
                      replace HO442 := Aside0.mk (Kd.R_below (rl_ HO442) hb)
                      replace BK356 := Aside0.mk (blk_below (bl_ BK356) hb)
                      replace BK357 := Aside0.mk (blk_below (bl_ BK357) hb)
                      replace BK380 := Aside0.mk (blk_below (bl_ BK380) hb)
                      replace BK391 := Aside0.mk (blk_below (bl_ BK391) hb)
                      replace BK414 := Aside0.mk (blk_below (bl_ BK414) hb)
                      replace BK428 := Aside0.mk (blk_below (bl_ BK428) hb)
                      replace HB := Aside0.mk (below_step (bw_ HB) hb)
                      (try clear hb)
                      (try clear hb2)
                      (try clear hk)
                      (try clear hi)
                      refine hK.out _ _ ⟨(blk_cell BK356.out 0).trans rfl, (blk_cell BK356.out 1).trans rfl, (blk_cell BK357.out 0).trans rfl, (blk_cell BK357.out 1).trans rfl, (blk_cell BK380.out 0).trans rfl, (blk_cell BK380.out 1).trans rfl, (blk_cell BK391.out 0).trans rfl, (blk_cell BK391.out 1).trans rfl, (blk_cell BK414.out 0).trans rfl, (blk_cell BK414.out 1).trans rfl, (blk_cell BK428.out 0).trans rfl, (blk_cell BK428.out 1).trans rfl⟩ (fun hHeld => ?_)
                      clear hK K
                      refine norm_ (a' := ?_) ?_ ?_
                      rotate_left
                      · show Act.put _ (some 92) _ = _
                        simp only [Act.put, List.setIfInBounds_toArray, List.set_cons_zero, List.set_cons_succ, i64_w, i32_w]
                        rfl
                      refine pure_ (i := 18) (N := some 93) (v := ?_) (a' := ?_) #[true, true, true, true, true, true, true, true, true, true, true, true, true, true, true, true, true, true, true, false, false, false, false, false, false, false, false, false, false, false, false, false, false, false, false, false, false, false, false, false, false, false, false, false, false, false, false, false, false, false, false, false, false, false, false, false, false, false, false, false] rfl rfl (any_of HT_.out (by kernel_rfl)) (fun _ _ _ h => h) (Or.inl ⟨by rfl, ?_⟩) ?_ ?_
                      rotate_left
                      · intro w'
                        go_simp
                        with_reducible rfl
                      rotate_left
                      · simp only [Act.put, List.setIfInBounds_toArray, List.set_cons_zero, List.set_cons_succ, i64_w, i32_w]
                        rfl
                      refine pure_ (i := 19) (N := some 94) (v := ?_) (a' := ?_) #[true, true, true, true, true, true, true, true, true, true, true, true, true, true, true, true, true, true, true, true, false, false, false, false, false, false, false, false, false, false, false, false, false, false, false, false, false, false, false, false, false, false, false, false, false, false, false, false, false, false, false, false, false, false, false, false, false, false, false, false] rfl rfl (any_of HT_.out (by kernel_rfl)) (fun _ _ _ h => h) (Or.inl ⟨by rfl, ?_⟩) ?_ ?_
                      rotate_left
                      · intro w'
                        go_simp
                        with_reducible rfl
                      rotate_left
                      · simp only [Act.put, List.setIfInBounds_toArray, List.set_cons_zero, List.set_cons_succ, i64_w, i32_w]
                        rfl
                      refine pure_ (i := 23) (N := some 98) (v := ?_) (a' := ?_) #[true, true, true, true, true, true, true, true, true, true, true, true, true, true, true, true, true, true, true, true, false, false, false, true, false, false, false, false, false, false, false, false, false, false, false, false, false, false, false, false, false, false, false, false, false, false, false, false, false, false, false, false, false, false, false, false, false, false, false, false] rfl rfl (any_of HT_.out (by kernel_rfl)) (fun _ _ _ h => h) (Or.inl ⟨by rfl, ?_⟩) ?_ ?_
                      rotate_left
                      · intro w'
                        go_simp
                        with_reducible rfl
                      rotate_left
                      · simp only [Act.put, List.setIfInBounds_toArray, List.set_cons_zero, List.set_cons_succ, i64_w, i32_w]
                        rfl
                      refine take_ (i := 20) (N := some 95) (v := ?_) (a' := ?_) #[true, true, true, true, true, true, true, true, true, true, true, true, true, true, true, true, true, true, true, true, true, false, false, true, false, false, false, false, false, false, false, false, false, false, false, false, false, false, false, false, false, false, false, false, false, false, false, false, false, false, false, false, false, false, false, false, false, false, false, false] rfl rfl (take_ofW HT_.out HW_.out (by kernel_rfl)) (fun _ _ _ h => h) (Or.inl ⟨by rfl, ?_⟩) hHeld ?_ ?_
                      rotate_left
                      · rintro w' ⟨s0, s1, s2, s3, s4, s5, s6, s7, s8, s9, s10, s11⟩
                        go_simp
                        with_reducible rfl
                      rotate_left
                      · simp only [Act.put, List.setIfInBounds_toArray, List.set_cons_zero, List.set_cons_succ, i64_w, i32_w]
                        rfl
                      refine take_ (i := 21) (N := some 96) (v := ?_) (a' := ?_) #[true, true, true, true, true, true, true, true, true, true, true, true, true, true, true, true, true, true, true, true, true, true, false, true, false, false, false, false, false, false, false, false, false, false, false, false, false, false, false, false, false, false, false, false, false, false, false, false, false, false, false, false, false, false, false, false, false, false, false, false] rfl rfl (take_ofW HT_.out HW_.out (by kernel_rfl)) (fun _ _ _ h => h) (Or.inl ⟨by rfl, ?_⟩) hHeld ?_ ?_
                      rotate_left
                      · rintro w' ⟨s0, s1, s2, s3, s4, s5, s6, s7, s8, s9, s10, s11⟩
                        go_simp
                        with_reducible rfl
                      rotate_left
                      · simp only [Act.put, List.setIfInBounds_toArray, List.set_cons_zero, List.set_cons_succ, i64_w, i32_w]
                        rfl
                      refine one_ (i := 22) (N := some 97) #[true, true, true, true, true, true, true, true, true, true, true, true, true, true, true, true, true, true, true, true, true, true, true, true, false, false, false, false, false, false, false, false, false, false, false, false, false, false, false, false, false, false, false, false, false, false, false, false, false, false, false, false, false, false, false, false, false, false, false, false] rfl rfl (one_of HT_.out (by kernel_rfl)) (by decide) (fun K hK => ?_)
                      refine goes_ Try.func26 (by kernel_rfl) rfl #[.agg #[.bool a0_0, .slice A0_1 l0_1.length c0_1], .agg #[.bool a1_0, .slice A1_1 l1_1.length c1_1]] (by rfl) rfl rfl (by (try simp only [List.map_toArray, List.map_cons, List.map_nil]); first | done | rfl | (simp only [List.length_drop, List.length_take]; rfl)) ?_
                      with_reducible refine (whole_Cmp.calls kj21 a0_0 _ _ l0_1 a1_0 _ _ l1_1 t444 _ ?side1 ?side2 ?side3 ?side4 A91.out).mono ?_
                      (case side1 => exact cl_ (Kd.C_below HR0_1.out HB.out))
                      (case side2 => exact HC0_1.out)
                      (case side3 => exact cl_ (Kd.C_below HR1_1.out HB.out))
                      (case side4 => exact HC1_1.out)
                      rintro e w130 ⟨rfl, hb⟩
                      refine ⟨_, rfl, ?_⟩
                      replace HO_7 := Aside0.mk (Kd.R_below (rl_ HO_7) hb)
                      replace HO_8 := Aside0.mk (Kd.R_below (rl_ HO_8) hb)
                      replace HO_381001 := Aside0.mk (Kd.R_below (rl_ HO_381001) hb)
                      replace HO_392001 := Aside0.mk (Kd.R_below (rl_ HO_392001) hb)
                      replace HO_415001 := Aside0.mk (Kd.R_below (rl_ HO_415001) hb)
                      replace HO424 := Aside0.mk (Kd.R_below (rl_ HO424) hb)
                      replace HO427 := Aside0.mk (Kd.R_below (rl_ HO427) hb)
                      replace HO432 := Aside0.mk (Kd.R_below (rl_ HO432) hb)
                      replace HO437 := Aside0.mk (Kd.R_below (rl_ HO437) hb)
                      replace HO442 := Aside0.mk (Kd.R_below (rl_ HO442) hb)
                      replace BK356 := Aside0.mk (blk_below (bl_ BK356) hb)
                      replace BK357 := Aside0.mk (blk_below (bl_ BK357) hb)
                      replace BK380 := Aside0.mk (blk_below (bl_ BK380) hb)
                      replace BK391 := Aside0.mk (blk_below (bl_ BK391) hb)
                      replace BK414 := Aside0.mk (blk_below (bl_ BK414) hb)
                      replace BK428 := Aside0.mk (blk_below (bl_ BK428) hb)
                      replace HB := Aside0.mk (below_step (bw_ HB) hb)
                      (try clear hb)
                      (try clear hb2)
                      (try clear hk)
                      (try clear hi)
                      refine hK.out _ _ ⟨(blk_cell BK356.out 0).trans rfl, (blk_cell BK356.out 1).trans rfl, (blk_cell BK357.out 0).trans rfl, (blk_cell BK357.out 1).trans rfl, (blk_cell BK380.out 0).trans rfl, (blk_cell BK380.out 1).trans rfl, (blk_cell BK391.out 0).trans rfl, (blk_cell BK391.out 1).trans rfl, (blk_cell BK414.out 0).trans rfl, (blk_cell BK414.out 1).trans rfl, (blk_cell BK428.out 0).trans rfl, (blk_cell BK428.out 1).trans rfl⟩ (fun hHeld => ?_)
                      clear hK K
                      refine norm_ (a' := ?_) ?_ ?_
                      rotate_left
                      · show Act.put _ (some 97) _ = _
                        simp only [Act.put, List.setIfInBounds_toArray, List.set_cons_zero, List.set_cons_succ, i64_w, i32_w]
                        rfl
                      refine pure_ (i := 24) (N := some 99) (v := ?_) (a' := ?_) #[true, true, true, true, true, true, true, true, true, true, true, true, true, true, true, true, true, true, true, true, true, true, true, true, true, false, false, false, false, false, false, false, false, false, false, false, false, false, false, false, false, false, false, false, false, false, false, false, false, false, false, false, false, false, false, false, false, false, false, false] rfl rfl (any_of HT_.out (by kernel_rfl)) (fun _ _ _ h => h) (Or.inl ⟨by rfl, ?_⟩) ?_ ?_
                      rotate_left
                      · intro w'
                        go_simp
                        with_reducible rfl
                      rotate_left
                      · simp only [Act.put, List.setIfInBounds_toArray, List.set_cons_zero, List.set_cons_succ, i64_w, i32_w]
                        rfl
                      refine pure_ (i := 25) (N := some 100) (v := ?_) (a' := ?_) #[true, true, true, true, true, true, true, true, true, true, true, true, true, true, true, true, true, true, true, true, true, true, true, true, true, true, false, false, false, false, false, false, false, false, false, false, false, false, false, false, false, false, false, false, false, false, false, false, false, false, false, false, false, false, false, false, false, false, false, false] rfl rfl (any_of HT_.out (by kernel_rfl)) (fun _ _ _ h => h) (Or.inl ⟨by rfl, ?_⟩) ?_ ?_
                      rotate_left
                      · intro w'
                        go_simp
                        with_reducible rfl
                      rotate_left
                      · simp only [Act.put, List.setIfInBounds_toArray, List.set_cons_zero, List.set_cons_succ, i64_w, i32_w]
                        rfl
                      refine pure_ (i := 26) (N := some 101) (v := ?_) (a' := ?_) #[true, true, true, true, true, true, true, true, true, true, true, true, true, true, true, true, true, true, true, true, true, true, true, true, true, true, true, false, false, false, false, false, false, false, false, false, false, false, false, false, false, false, false, false, false, false, false, false, false, false, false, false, false, false, false, false, false, false, false, false] rfl rfl (any_of HT_.out (by kernel_rfl)) (fun _ _ _ h => h) (Or.inl ⟨by rfl, ?_⟩) ?_ ?_
                      rotate_left
                      · intro w'
                        go_simp
                        with_reducible rfl
                      rotate_left
                      · simp only [Act.put, List.setIfInBounds_toArray, List.set_cons_zero, List.set_cons_succ, i64_w, i32_w]
                        rfl
                      refine pure_ (i := 29) (N := some 104) (v := ?_) (a' := ?_) #[true, true, true, true, true, true, true, true, true, true, true, true, true, true, true, true, true, true, true, true, true, true, true, true, true, true, true, false, false, true, false, false, false, false, false, false, false, false, false, false, false, false, false, false, false, false, false, false, false, false, false, false, false, false, false, false, false, false, false, false] rfl rfl (any_of HT_.out (by kernel_rfl)) (fun _ _ _ h => h) (Or.inl ⟨by rfl, ?_⟩) ?_ ?_
                      rotate_left
                      · intro w'
                        go_simp
                        with_reducible rfl
                      rotate_left
                      · simp only [Act.put, List.setIfInBounds_toArray, List.set_cons_zero, List.set_cons_succ, i64_w, i32_w]
                        rfl
                      refine pure_ (i := 30) (N := some 105) (v := ?_) (a' := ?_) #[true, true, true, true, true, true, true, true, true, true, true, true, true, true, true, true, true, true, true, true, true, true, true, true, true, true, true, false, false, true, true, false, false, false, false, false, false, false, false, false, false, false, false, false, false, false, false, false, false, false, false, false, false, false, false, false, false, false, false, false] rfl rfl (any_of HT_.out (by kernel_rfl)) (fun _ _ _ h => h) (Or.inl ⟨by rfl, ?_⟩) ?_ ?_
                      rotate_left
                      · intro w'
                        go_simp
                        with_reducible rfl
                      rotate_left
                      · simp only [Act.put, List.setIfInBounds_toArray, List.set_cons_zero, List.set_cons_succ, i64_w, i32_w]
                        rfl
                      refine take_ (i := 27) (N := some 102) (v := ?_) (a' := ?_) #[true, true, true, true, true, true, true, true, true, true, true, true, true, true, true, true, true, true, true, true, true, true, true, true, true, true, true, true, false, true, true, false, false, false, false, false, false, false, false, false, false, false, false, false, false, false, false, false, false, false, false, false, false, false, false, false, false, false, false, false] rfl rfl (take_ofW HT_.out HW_.out (by kernel_rfl)) (fun _ _ _ h => h) (Or.inl ⟨by rfl, ?_⟩) hHeld ?_ ?_
                      rotate_left
                      · rintro w' ⟨s0, s1, s2, s3, s4, s5, s6, s7, s8, s9, s10, s11⟩
                        go_simp
                        with_reducible rfl
                      rotate_left
                      · simp only [Act.put, List.setIfInBounds_toArray, List.set_cons_zero, List.set_cons_succ, i64_w, i32_w]
                        rfl
                      refine one_ (i := 28) (N := some 103) #[true, true, true, true, true, true, true, true, true, true, true, true, true, true, true, true, true, true, true, true, true, true, true, true, true, true, true, true, true, true, true, false, false, false, false, false, false, false, false, false, false, false, false, false, false, false, false, false, false, false, false, false, false, false, false, false, false, false, false, false] rfl rfl (one_of HT_.out (by kernel_rfl)) (by decide) (fun K hK => ?_)
                      refine goes_ Try.func27 (by kernel_rfl) rfl #[.agg #[.bool a0_0, .slice A0_1 l0_1.length c0_1]] (by rfl) rfl rfl (by (try simp only [List.map_toArray, List.map_cons, List.map_nil]); first | done | rfl | (simp only [List.length_drop, List.length_take]; rfl)) ?_
                      with_reducible refine (whole_Sign.calls kj21 a0_0 _ _ l0_1 t445 _ ?side1 ?side2 A93.out).mono ?_
                      (case side1 => exact cl_ (Kd.C_below HR0_1.out HB.out))
                      (case side2 => exact HC0_1.out)
                      rintro e w131 ⟨rfl, hb⟩
                      refine ⟨_, rfl, ?_⟩
                      replace HO_7 := Aside0.mk (Kd.R_below (rl_ HO_7) hb)
                      replace HO_8 := Aside0.mk (Kd.R_below (rl_ HO_8) hb)
                      replace HO_381001 := Aside0.mk (Kd.R_below (rl_ HO_381001) hb)
                      replace HO_392001 := Aside0.mk (Kd.R_below (rl_ HO_392001) hb)
                      replace HO_415001 := Aside0.mk (Kd.R_below (rl_ HO_415001) hb)
                      replace HO424 := Aside0.mk (Kd.R_below (rl_ HO424) hb)
                      replace HO427 := Aside0.mk (Kd.R_below (rl_ HO427) hb)
                      replace HO432 := Aside0.mk (Kd.R_below (rl_ HO432) hb)
                      replace HO437 := Aside0.mk (Kd.R_below (rl_ HO437) hb)
                      replace HO442 := Aside0.mk (Kd.R_below (rl_ HO442) hb)
                      replace BK356 := Aside0.mk (blk_below (bl_ BK356) hb)
                      replace BK357 := Aside0.mk (blk_below (bl_ BK357) hb)
                      replace BK380 := Aside0.mk (blk_below (bl_ BK380) hb)
                      replace BK391 := Aside0.mk (blk_below (bl_ BK391) hb)
                      replace BK414 := Aside0.mk (blk_below (bl_ BK414) hb)
                      replace BK428 := Aside0.mk (blk_below (bl_ BK428) hb)
                      replace HB := Aside0.mk (below_step (bw_ HB) hb)
                      (try clear hb)
                      (try clear hb2)
                      (try clear hk)
                      (try clear hi)
                      refine hK.out _ _ ⟨(blk_cell BK356.out 0).trans rfl, (blk_cell BK356.out 1).trans rfl, (blk_cell BK357.out 0).trans rfl, (blk_cell BK357.out 1).trans rfl, (blk_cell BK380.out 0).trans rfl, (blk_cell BK380.out 1).trans rfl, (blk_cell BK391.out 0).trans rfl, (blk_cell BK391.out 1).trans rfl, (blk_cell BK414.out 0).trans rfl, (blk_cell BK414.out 1).trans rfl, (blk_cell BK428.out 0).trans rfl, (blk_cell BK428.out 1).trans rfl⟩ (fun hHeld => ?_)
                      clear hK K
                      refine norm_ (a' := ?_) ?_ ?_
                      rotate_left
                      · show Act.put _ (some 103) _ = _
                        simp only [Act.put, List.setIfInBounds_toArray, List.set_cons_zero, List.set_cons_succ, i64_w, i32_w]
                        rfl
                      refine one_ (i := 31) (N := some 106) #[true, true, true, true, true, true, true, true, true, true, true, true, true, true, true, true, true, true, true, true, true, true, true, true, true, true, true, true, true, true, true, true, false, false, false, false, false, false, false, false, false, false, false, false, false, false, false, false, false, false, false, false, false, false, false, false, false, false, false, false] rfl rfl (one_of HT_.out (by kernel_rfl)) (by decide) (fun K hK => ?_)
                      refine goes_ Try.func19 (by kernel_rfl) rfl #[.slice Ao30 t358.length co30, .slice Ao33 t361.length co33] (by rfl) rfl rfl (by (try simp only [List.map_toArray, List.map_cons, List.map_nil]); first | done | rfl | (simp only [List.length_drop, List.length_take]; rfl)) ?_
                      with_reducible refine (vernierref01_Cmp.calls kj21 _ _ t358 _ _ t361 t446 _ ?side1 ?side2 ?side3 ?side4 A94.out).mono ?_
                      (case side1 => repeat (first | exact (Kd.R_reads' HO_7.out).2.2 | (with_reducible refine Kd.C_alloc ?_ _) | (with_reducible refine Kd.C_drewN ?_ _) | (with_reducible refine Kd.C_drew ?_)))
                      (case side2 => exact (Kd.R_reads' HO_7.out).2.1)
                      (case side3 => repeat (first | exact (Kd.R_reads' HO_8.out).2.2 | (with_reducible refine Kd.C_alloc ?_ _) | (with_reducible refine Kd.C_drewN ?_ _) | (with_reducible refine Kd.C_drew ?_)))
                      (case side4 => exact (Kd.R_reads' HO_8.out).2.1)
                      rintro e w' ⟨rfl, ⟨nd, rfl⟩⟩
                      refine ⟨_, rfl, ?_⟩
                      refine hK.out _ _ ⟨(blk_cell BK356.out 0).trans rfl, (blk_cell BK356.out 1).trans rfl, (blk_cell BK357.out 0).trans rfl, (blk_cell BK357.out 1).trans rfl, (blk_cell BK380.out 0).trans rfl, (blk_cell BK380.out 1).trans rfl, (blk_cell BK391.out 0).trans rfl, (blk_cell BK391.out 1).trans rfl, (blk_cell BK414.out 0).trans rfl, (blk_cell BK414.out 1).trans rfl, (blk_cell BK428.out 0).trans rfl, (blk_cell BK428.out 1).trans rfl⟩ (fun hHeld => ?_)
                      clear hK K
                      refine norm_ (a' := ?_) ?_ ?_
                      rotate_left
                      · show Act.put _ (some 106) _ = _
                        simp only [Act.put, List.setIfInBounds_toArray, List.set_cons_zero, List.set_cons_succ, i64_w, i32_w]
                        rfl
                      refine pure_ (i := 32) (N := some 107) (v := ?_) (a' := ?_) #[true, true, true, true, true, true, true, true, true, true, true, true, true, true, true, true, true, true, true, true, true, true, true, true, true, true, true, true, true, true, true, true, true, false, false, false, false, false, false, false, false, false, false, false, false, false, false, false, false, false, false, false, false, false, false, false, false, false, false, false] rfl rfl (any_of HT_.out (by kernel_rfl)) (fun _ _ _ h => h) (Or.inl ⟨by rfl, ?_⟩) ?_ ?_
                      rotate_left
                      · intro w'
                        go_simp
                        with_reducible rfl
                      rotate_left
                      · simp only [Act.put, List.setIfInBounds_toArray, List.set_cons_zero, List.set_cons_succ, i64_w, i32_w]
                        rfl
                      refine pure_ (i := 33) (N := some 108) (v := ?_) (a' := ?_) #[true, true, true, true, true, true, true, true, true, true, true, true, true, true, true, true, true, true, true, true, true, true, true, true, true, true, true, true, true, true, true, true, true, true, false, false, false, false, false, false, false, false, false, false, false, false, false, false, false, false, false, false, false, false, false, false, false, false, false, false] rfl rfl (any_of HT_.out (by kernel_rfl)) (fun _ _ _ h => h) (Or.inl ⟨by rfl, ?_⟩) ?_ ?_
                      rotate_left
                      · intro w'
                        go_simp
                        with_reducible rfl
                      rotate_left
                      · simp only [Act.put, List.setIfInBounds_toArray, List.set_cons_zero, List.set_cons_succ, i64_w, i32_w]
                        rfl
                      refine pure_ (i := 34) (N := some 109) (v := ?_) (a' := ?_) #[true, true, true, true, true, true, true, true, true, true, true, true, true, true, true, true, true, true, true, true, true, true, true, true, true, true, true, true, true, true, true, true, true, true, true, false, false, false, false, false, false, false, false, false, false, false, false, false, false, false, false, false, false, false, false, false, false, false, false, false] rfl rfl (any_of HT_.out (by kernel_rfl)) (fun _ _ _ h => h) (Or.inl ⟨by rfl, ?_⟩) ?_ ?_
                      rotate_left
                      · intro w'
                        go_simp
                        with_reducible rfl
                      rotate_left
                      · simp only [Act.put, List.setIfInBounds_toArray, List.set_cons_zero, List.set_cons_succ, i64_w, i32_w]
                        rfl
                      refine pure_ (i := 37) (N := some 112) (v := ?_) (a' := ?_) #[true, true, true, true, true, true, true, true, true, true, true, true, true, true, true, true, true, true, true, true, true, true, true, true, true, true, true, true, true, true, true, true, true, true, true, false, false, true, false, false, false, false, false, false, false, false, false, false, false, false, false, false, false, false, false, false, false, false, false, false] rfl rfl (any_of HT_.out (by kernel_rfl)) (fun _ _ _ h => h) (Or.inl ⟨by rfl, ?_⟩) ?_ ?_
                      rotate_left
                      · intro w'
                        go_simp
                        with_reducible rfl
                      rotate_left
                      · simp only [Act.put, List.setIfInBounds_toArray, List.set_cons_zero, List.set_cons_succ, i64_w, i32_w]
                        rfl
                      refine pure_ (i := 38) (N := some 113) (v := ?_) (a' := ?_) #[true, true, true, true, true, true, true, true, true, true, true, true, true, true, true, true, true, true, true, true, true, true, true, true, true, true, true, true, true, true, true, true, true, true, true, false, false, true, true, false, false, false, false, false, false, false, false, false, false, false, false, false, false, false, false, false, false, false, false, false] rfl rfl (any_of HT_.out (by kernel_rfl)) (fun _ _ _ h => h) (Or.inl ⟨by rfl, ?_⟩) ?_ ?_
                      rotate_left
                      · intro w'
                        go_simp
                        with_reducible rfl
                      rotate_left
                      · simp only [Act.put, List.setIfInBounds_toArray, List.set_cons_zero, List.set_cons_succ, i64_w, i32_w]
                        rfl
                      refine take_ (i := 35) (N := some 110) (v := ?_) (a' := ?_) #[true, true, true, true, true, true, true, true, true, true, true, true, true, true, true, true, true, true, true, true, true, true, true, true, true, true, true, true, true, true, true, true, true, true, true, true, false, true, true, false, false, false, false, false, false, false, false, false, false, false, false, false, false, false, false, false, false, false, false, false] rfl rfl (take_ofW HT_.out HW_.out (by kernel_rfl)) (fun _ _ _ h => h) (Or.inl ⟨by rfl, ?_⟩) hHeld ?_ ?_
                      rotate_left
                      · rintro w' ⟨s0, s1, s2, s3, s4, s5, s6, s7, s8, s9, s10, s11⟩
                        go_simp
                        with_reducible rfl
                      rotate_left
                      · simp only [Act.put, List.setIfInBounds_toArray, List.set_cons_zero, List.set_cons_succ, i64_w, i32_w]
                        rfl
                      refine one_ (i := 36) (N := some 111) #[true, true, true, true, true, true, true, true, true, true, true, true, true, true, true, true, true, true, true, true, true, true, true, true, true, true, true, true, true, true, true, true, true, true, true, true, true, true, true, false, false, false, false, false, false, false, false, false, false, false, false, false, false, false, false, false, false, false, false, false] rfl rfl (one_of HT_.out (by kernel_rfl)) (by decide) (fun K hK => ?_)
                      refine goes_ Try.func28 (by kernel_rfl) rfl #[.agg #[.bool a0_0, .slice A0_1 l0_1.length c0_1]] (by rfl) rfl rfl (by (try simp only [List.map_toArray, List.map_cons, List.map_nil]); first | done | rfl | (simp only [List.length_drop, List.length_take]; rfl)) ?_
                      with_reducible refine (whole_Norm.calls kj21 a0_0 _ _ l0_1 t447 t448 _ ?side1 ?side2 A96.out).mono ?_
                      (case side1 => exact cl_ (Kd.C_below HR0_1.out (bw_ HB)))
                      (case side2 => exact HC0_1.out)
                      rintro e w132 ⟨v449, rfl, ho0, hb⟩
                      refine ⟨_, rfl, ?_⟩
                      replace HO_7 := Aside0.mk (Kd.R_below (rl_ HO_7) hb)
                      replace HO_8 := Aside0.mk (Kd.R_below (rl_ HO_8) hb)
                      replace HO424 := Aside0.mk (Kd.R_below (rl_ HO424) hb)
                      have HO450 := Aside0.mk (Kd.R_lower (Kd.R_new' (Kd.R_new' (Kd.R_new' (Kd.R_new' (Kd.R_new' (Kd.R_new' (Kd.R_new' ho0 (Kd.R_lt (rl_ HO_381001))) (Kd.R_lt (rl_ HO_392001))) (Kd.R_lt (rl_ HO_415001))) (Kd.R_lt (rl_ HO427))) (Kd.R_lt (rl_ HO432))) (Kd.R_lt (rl_ HO437))) (Kd.R_lt (rl_ HO442))) (below_size (bw_ HB)))
                      replace HO_381001 := Aside0.mk (Kd.R_elder' (rl_ HO_381001) (Kd.R_base ho0) hb)
                      replace HO_392001 := Aside0.mk (Kd.R_elder' (rl_ HO_392001) (Kd.R_base ho0) hb)
                      replace HO_415001 := Aside0.mk (Kd.R_elder' (rl_ HO_415001) (Kd.R_base ho0) hb)
                      replace HO427 := Aside0.mk (Kd.R_elder' (rl_ HO427) (Kd.R_base ho0) hb)
                      replace HO432 := Aside0.mk (Kd.R_elder' (rl_ HO432) (Kd.R_base ho0) hb)
                      replace HO437 := Aside0.mk (Kd.R_elder' (rl_ HO437) (Kd.R_base ho0) hb)
                      replace HO442 := Aside0.mk (Kd.R_elder' (rl_ HO442) (Kd.R_base ho0) hb)
                      replace BK356 := Aside0.mk (blk_below (bl_ BK356) hb)
                      replace BK357 := Aside0.mk (blk_below (bl_ BK357) hb)
                      replace BK380 := Aside0.mk (blk_below (bl_ BK380) hb)
                      replace BK391 := Aside0.mk (blk_below (bl_ BK391) hb)
                      replace BK414 := Aside0.mk (blk_below (bl_ BK414) hb)
                      replace BK428 := Aside0.mk (blk_below (bl_ BK428) hb)
                      replace HB := Aside0.mk (below_step (bw_ HB) hb)
                      (try clear hb)
                      (try clear hb2)
                      (try clear hk)
                      (try clear hi)
                      (try clear ho0)
                      refine hK.out _ _ ⟨(blk_cell BK356.out 0).trans rfl, (blk_cell BK356.out 1).trans rfl, (blk_cell BK357.out 0).trans rfl, (blk_cell BK357.out 1).trans rfl, (blk_cell BK380.out 0).trans rfl, (blk_cell BK380.out 1).trans rfl, (blk_cell BK391.out 0).trans rfl, (blk_cell BK391.out 1).trans rfl, (blk_cell BK414.out 0).trans rfl, (blk_cell BK414.out 1).trans rfl, (blk_cell BK428.out 0).trans rfl, (blk_cell BK428.out 1).trans rfl⟩ (fun hHeld => ?_)
                      clear hK K
                      refine norm_ (a' := ?_) ?_ ?_
                      rotate_left
                      · show Act.put _ (some 111) _ = _
                        simp only [Act.put, List.setIfInBounds_toArray, List.set_cons_zero, List.set_cons_succ, i64_w, i32_w]
                        rfl
                      refine one_ (i := 39) (N := some 114) #[true, true, true, true, true, true, true, true, true, true, true, true, true, true, true, true, true, true, true, true, true, true, true, true, true, true, true, true, true, true, true, true, true, true, true, true, true, true, true, true, false, false, false, false, false, false, false, false, false, false, false, false, false, false, false, false, false, false, false, false] rfl rfl (one_of HT_.out (by kernel_rfl)) (by decide) (fun K hK => ?_)
                      refine goes_ Try.func16 (by kernel_rfl) rfl #[.slice Ao30 t358.length co30, .slice Ao33 t361.length co33] (by rfl) rfl rfl (by (try simp only [List.map_toArray, List.map_cons, List.map_nil]); first | done | rfl | (simp only [List.length_drop, List.length_take]; rfl)) ?_
                      with_reducible refine (vernierlaw03_made.calls kj21 _ _ t358 _ _ t361 t451 t452 _ ?side1 ?side2 ?side3 ?side4 A97.out).mono ?_
                      (case side1 => repeat (first | exact (Kd.R_reads' HO_7.out).2.2 | (with_reducible refine Kd.C_alloc ?_ _) | (with_reducible refine Kd.C_drewN ?_ _) | (with_reducible refine Kd.C_drew ?_)))
                      (case side2 => exact (Kd.R_reads' HO_7.out).2.1)
                      (case side3 => repeat (first | exact (Kd.R_reads' HO_8.out).2.2 | (with_reducible refine Kd.C_alloc ?_ _) | (with_reducible refine Kd.C_drewN ?_ _) | (with_reducible refine Kd.C_drew ?_)))
                      (case side4 => exact (Kd.R_reads' HO_8.out).2.1)
                      rintro e w133 ⟨v453, rfl, ho0, hb⟩
                      refine ⟨_, rfl, ?_⟩
                      replace HO_7 := Aside0.mk (Kd.R_below (rl_ HO_7) hb)
                      replace HO_8 := Aside0.mk (Kd.R_below (rl_ HO_8) hb)
                      replace HO424 := Aside0.mk (Kd.R_below (rl_ HO424) hb)
                      have HO454 := Aside0.mk (Kd.R_lower (Kd.R_new' (Kd.R_new' (Kd.R_new' (Kd.R_new' (Kd.R_new' (Kd.R_new' (Kd.R_new' (Kd.R_new' ho0 (Kd.R_lt (rl_ HO_381001))) (Kd.R_lt (rl_ HO_392001))) (Kd.R_lt (rl_ HO_415001))) (Kd.R_lt (rl_ HO427))) (Kd.R_lt (rl_ HO432))) (Kd.R_lt (rl_ HO437))) (Kd.R_lt (rl_ HO442))) (Kd.R_lt (rl_ HO450))) (below_size (bw_ HB)))
                      replace HO_381001 := Aside0.mk (Kd.R_elder' (rl_ HO_381001) (Kd.R_base ho0) hb)
                      replace HO_392001 := Aside0.mk (Kd.R_elder' (rl_ HO_392001) (Kd.R_base ho0) hb)
                      replace HO_415001 := Aside0.mk (Kd.R_elder' (rl_ HO_415001) (Kd.R_base ho0) hb)
                      replace HO427 := Aside0.mk (Kd.R_elder' (rl_ HO427) (Kd.R_base ho0) hb)
                      replace HO432 := Aside0.mk (Kd.R_elder' (rl_ HO432) (Kd.R_base ho0) hb)
                      replace HO437 := Aside0.mk (Kd.R_elder' (rl_ HO437) (Kd.R_base ho0) hb)
                      replace HO442 := Aside0.mk (Kd.R_elder' (rl_ HO442) (Kd.R_base ho0) hb)
                      replace HO450 := Aside0.mk (Kd.R_elder' (rl_ HO450) (Kd.R_base ho0) hb)
                      replace BK356 := Aside0.mk (blk_below (bl_ BK356) hb)
                      replace BK357 := Aside0.mk (blk_below (bl_ BK357) hb)
                      replace BK380 := Aside0.mk (blk_below (bl_ BK380) hb)
                      replace BK391 := Aside0.mk (blk_below (bl_ BK391) hb)
                      replace BK414 := Aside0.mk (blk_below (bl_ BK414) hb)
                      replace BK428 := Aside0.mk (blk_below (bl_ BK428) hb)
                      replace HB := Aside0.mk (below_step (bw_ HB) hb)
                      (try clear hb)
                      (try clear hb2)
                      (try clear hk)
                      (try clear hi)
                      (try clear ho0)
                      obtain ⟨Ao134, co134, eo134⟩ := Kd.R_slice HO450.out
                      (first | subst eo134 | (injection eo134 with f1_ f2_ f3_; have f4_ := f1_.symm; have f5_ := f3_.symm; clear f1_ f2_ f3_; subst f4_; subst f5_))
                      obtain ⟨Ao135, co135, eo135⟩ := Kd.R_slice HO454.out
                      (first | subst eo135 | (injection eo135 with f1_ f2_ f3_; have f4_ := f1_.symm; have f5_ := f3_.symm; clear f1_ f2_ f3_; subst f4_; subst f5_))
                      refine hK.out _ _ ⟨(blk_cell BK356.out 0).trans rfl, (blk_cell BK356.out 1).trans rfl, (blk_cell BK357.out 0).trans rfl, (blk_cell BK357.out 1).trans rfl, (blk_cell BK380.out 0).trans rfl, (blk_cell BK380.out 1).trans rfl, (blk_cell BK391.out 0).trans rfl, (blk_cell BK391.out 1).trans rfl, (blk_cell BK414.out 0).trans rfl, (blk_cell BK414.out 1).trans rfl, (blk_cell BK428.out 0).trans rfl, (blk_cell BK428.out 1).trans rfl⟩ (fun hHeld => ?_)
                      clear hK K
                      refine norm_ (a' := ?_) ?_ ?_
                      rotate_left
                      · show Act.put _ (some 114) _ = _
                        simp only [Act.put, List.setIfInBounds_toArray, List.set_cons_zero, List.set_cons_succ, i64_w, i32_w]
                        rfl
                      refine one_ (i := 40) (N := some 115) #[true, true, true, true, true, true, true, true, true, true, true, true, true, true, true, true, true, true, true, true, true, true, true, true, true, true, true, true, true, true, true, true, true, true, true, true, true, true, true, true, true, false, false, false, false, false, false, false, false, false, false, false, false, false, false, false, false, false, false, false] rfl rfl (one_of HT_.out (by kernel_rfl)) (by decide) (fun K hK => ?_)
                      refine goes_ Try.func22 (by kernel_rfl) rfl #[.agg #[.bool t447, .slice Ao134 t448.length co134], .agg #[.bool t451, .slice Ao135 t452.length co135]] (by rfl) rfl rfl (by (try simp only [List.map_toArray, List.map_cons, List.map_nil]); first | done | rfl | (simp only [List.length_drop, List.length_take]; rfl)) ?_
                      with_reducible refine (vernierlaw03_same.calls kj21 t447 _ _ t448 t451 _ _ t452 true _ ?side1 ?side2 ?side3 ?side4 A98.out).mono ?_
                      (case side1 => repeat (first | exact (Kd.R_reads' HO450.out).2.2 | (with_reducible refine Kd.C_alloc ?_ _) | (with_reducible refine Kd.C_drewN ?_ _) | (with_reducible refine Kd.C_drew ?_)))
                      (case side2 => exact (Kd.R_reads' HO450.out).2.1)
                      (case side3 => repeat (first | exact (Kd.R_reads' HO454.out).2.2 | (with_reducible refine Kd.C_alloc ?_ _) | (with_reducible refine Kd.C_drewN ?_ _) | (with_reducible refine Kd.C_drew ?_)))
                      (case side4 => exact (Kd.R_reads' HO454.out).2.1)
                      rintro e w136 ⟨rfl, hb⟩
                      refine ⟨_, rfl, ?_⟩
                      replace HO_7 := Aside0.mk (Kd.R_below (rl_ HO_7) hb)
                      replace HO_8 := Aside0.mk (Kd.R_below (rl_ HO_8) hb)
                      replace HO_381001 := Aside0.mk (Kd.R_below (rl_ HO_381001) hb)
                      replace HO_392001 := Aside0.mk (Kd.R_below (rl_ HO_392001) hb)
                      replace HO_415001 := Aside0.mk (Kd.R_below (rl_ HO_415001) hb)
                      replace HO424 := Aside0.mk (Kd.R_below (rl_ HO424) hb)
                      replace HO427 := Aside0.mk (Kd.R_below (rl_ HO427) hb)
                      replace HO432 := Aside0.mk (Kd.R_below (rl_ HO432) hb)
                      replace HO437 := Aside0.mk (Kd.R_below (rl_ HO437) hb)
                      replace HO442 := Aside0.mk (Kd.R_below (rl_ HO442) hb)
                      replace HO450 := Aside0.mk (Kd.R_below (rl_ HO450) hb)
                      replace HO454 := Aside0.mk (Kd.R_below (rl_ HO454) hb)
                      replace BK356 := Aside0.mk (blk_below (bl_ BK356) hb)
                      replace BK357 := Aside0.mk (blk_below (bl_ BK357) hb)
                      replace BK380 := Aside0.mk (blk_below (bl_ BK380) hb)
                      replace BK391 := Aside0.mk (blk_below (bl_ BK391) hb)
                      replace BK414 := Aside0.mk (blk_below (bl_ BK414) hb)
                      replace BK428 := Aside0.mk (blk_below (bl_ BK428) hb)
                      replace HB := Aside0.mk (below_step (bw_ HB) hb)
                      (try clear hb)
                      (try clear hb2)
                      (try clear hk)
                      (try clear hi)
                      refine hK.out _ _ ⟨(blk_cell BK356.out 0).trans rfl, (blk_cell BK356.out 1).trans rfl, (blk_cell BK357.out 0).trans rfl, (blk_cell BK357.out 1).trans rfl, (blk_cell BK380.out 0).trans rfl, (blk_cell BK380.out 1).trans rfl, (blk_cell BK391.out 0).trans rfl, (blk_cell BK391.out 1).trans rfl, (blk_cell BK414.out 0).trans rfl, (blk_cell BK414.out 1).trans rfl, (blk_cell BK428.out 0).trans rfl, (blk_cell BK428.out 1).trans rfl⟩ (fun hHeld => ?_)
                      clear hK K
                      refine norm_ (a' := ?_) ?_ ?_
                      rotate_left
                      · show Act.put _ (some 115) _ = _
                        simp only [Act.put, List.setIfInBounds_toArray, List.set_cons_zero, List.set_cons_succ, i64_w, i32_w]
                        rfl
                      refine pure_ (i := 41) (N := some 116) (v := ?_) (a' := ?_) #[true, true, true, true, true, true, true, true, true, true, true, true, true, true, true, true, true, true, true, true, true, true, true, true, true, true, true, true, true, true, true, true, true, true, true, true, true, true, true, true, true, true, false, false, false, false, false, false, false, false, false, false, false, false, false, false, false, false, false, false] rfl rfl (any_of HT_.out (by kernel_rfl)) (fun _ _ _ h => h) (Or.inl ⟨by rfl, ?_⟩) ?_ ?_
                      rotate_left
                      · intro w'
                        go_simp
                        with_reducible rfl
                      rotate_left
                      · simp only [Act.put, List.setIfInBounds_toArray, List.set_cons_zero, List.set_cons_succ, i64_w, i32_w]
                        rfl
                      refine pure_ (i := 42) (N := some 117) (v := ?_) (a' := ?_) #[true, true, true, true, true, true, true, true, true, true, true, true, true, true, true, true, true, true, true, true, true, true, true, true, true, true, true, true, true, true, true, true, true, true, true, true, true, true, true, true, true, true, true, false, false, false, false, false, false, false, false, false, false, false, false, false, false, false, false, false] rfl rfl (any_of HT_.out (by kernel_rfl)) (fun _ _ _ h => h) (Or.inl ⟨by rfl, ?_⟩) ?_ ?_
                      rotate_left
                      · intro w'
                        go_simp
                        with_reducible rfl
                      rotate_left
                      · simp only [Act.put, List.setIfInBounds_toArray, List.set_cons_zero, List.set_cons_succ, i64_w, i32_w]
                        rfl
                      refine pure_ (i := 45) (N := some 120) (v := ?_) (a' := ?_) #[true, true, true, true, true, true, true, true, true, true, true, true, true, true, true, true, true, true, true, true, true, true, true, true, true, true, true, true, true, true, true, true, true, true, true, true, true, true, true, true, true, true, true, false, false, true, false, false, false, false, false, false, false, false, false, false, false, false, false, false] rfl rfl (any_of HT_.out (by kernel_rfl)) (fun _ _ _ h => h) (Or.inl ⟨by rfl, ?_⟩) ?_ ?_
                      rotate_left
                      · intro w'
                        go_simp
                        with_reducible rfl
                      rotate_left
                      · simp only [Act.put, List.setIfInBounds_toArray, List.set_cons_zero, List.set_cons_succ, i64_w, i32_w]
                        rfl
                      refine pure_ (i := 46) (N := some 121) (v := ?_) (a' := ?_) #[true, true, true, true, true, true, true, true, true, true, true, true, true, true, true, true, true, true, true, true, true, true, true, true, true, true, true, true, true, true, true, true, true, true, true, true, true, true, true, true, true, true, true, false, false, true, true, false, false, false, false, false, false, false, false, false, false, false, false, false] rfl rfl (any_of HT_.out (by kernel_rfl)) (fun _ _ _ h => h) (Or.inl ⟨by rfl, ?_⟩) ?_ ?_
                      rotate_left
                      · intro w'
                        go_simp
                        with_reducible rfl
                      rotate_left
                      · simp only [Act.put, List.setIfInBounds_toArray, List.set_cons_zero, List.set_cons_succ, i64_w, i32_w]
                        rfl
                      refine take_ (i := 43) (N := some 118) (v := ?_) (a' := ?_) #[true, true, true, true, true, true, true, true, true, true, true, true, true, true, true, true, true, true, true, true, true, true, true, true, true, true, true, true, true, true, true, true, true, true, true, true, true, true, true, true, true, true, true, true, false, true, true, false, false, false, false, false, false, false, false, false, false, false, false, false] rfl rfl (take_ofW HT_.out HW_.out (by kernel_rfl)) (fun _ _ _ h => h) (Or.inl ⟨by rfl, ?_⟩) hHeld ?_ ?_
                      rotate_left
                      · rintro w' ⟨s0, s1, s2, s3, s4, s5, s6, s7, s8, s9, s10, s11⟩
                        go_simp
                        with_reducible rfl
                      rotate_left
                      · simp only [Act.put, List.setIfInBounds_toArray, List.set_cons_zero, List.set_cons_succ, i64_w, i32_w]
                        rfl
                      refine one_ (i := 44) (N := some 119) #[true, true, true, true, true, true, true, true, true, true, true, true, true, true, true, true, true, true, true, true, true, true, true, true, true, true, true, true, true, true, true, true, true, true, true, true, true, true, true, true, true, true, true, true, true, true, true, false, false, false, false, false, false, false, false, false, false, false, false, false] rfl rfl (one_of HT_.out (by kernel_rfl)) (by decide) (fun K hK => ?_)
                      refine goes_ Try.func29 (by kernel_rfl) rfl #[.agg #[.bool a0_0, .slice A0_1 l0_1.length c0_1]] (by rfl) rfl rfl (by (try simp only [List.map_toArray, List.map_cons, List.map_nil]); first | done | rfl | (simp only [List.length_drop, List.length_take]; rfl)) ?_
                      with_reducible refine (whole_Neg.calls kj21 a0_0 _ _ l0_1 t456 t457 _ ?side1 ?side2 A100.out).mono ?_
                      (case side1 => exact cl_ (Kd.C_below HR0_1.out HB.out))
                      (case side2 => exact HC0_1.out)
                      rintro e w137 ⟨v458, rfl, ho0, hb⟩
                      refine ⟨_, rfl, ?_⟩
                      replace HO_7 := Aside0.mk (Kd.R_below (rl_ HO_7) hb)
                      replace HO_8 := Aside0.mk (Kd.R_below (rl_ HO_8) hb)
                      replace HO424 := Aside0.mk (Kd.R_below (rl_ HO424) hb)
                      have HO459 := Aside0.mk (Kd.R_lower (Kd.R_new' (Kd.R_new' (Kd.R_new' (Kd.R_new' (Kd.R_new' (Kd.R_new' (Kd.R_new' (Kd.R_new' (Kd.R_new' ho0 (Kd.R_lt (rl_ HO_381001))) (Kd.R_lt (rl_ HO_392001))) (Kd.R_lt (rl_ HO_415001))) (Kd.R_lt (rl_ HO427))) (Kd.R_lt (rl_ HO432))) (Kd.R_lt (rl_ HO437))) (Kd.R_lt (rl_ HO442))) (Kd.R_lt (rl_ HO450))) (Kd.R_lt (rl_ HO454))) (below_size (bw_ HB)))
                      replace HO_381001 := Aside0.mk (Kd.R_elder' (rl_ HO_381001) (Kd.R_base ho0) hb)
                      replace HO_392001 := Aside0.mk (Kd.R_elder' (rl_ HO_392001) (Kd.R_base ho0) hb)
                      replace HO_415001 := Aside0.mk (Kd.R_elder' (rl_ HO_415001) (Kd.R_base ho0) hb)
                      replace HO427 := Aside0.mk (Kd.R_elder' (rl_ HO427) (Kd.R_base ho0) hb)
                      replace HO432 := Aside0.mk (Kd.R_elder' (rl_ HO432) (Kd.R_base ho0) hb)
                      replace HO437 := Aside0.mk (Kd.R_elder' (rl_ HO437) (Kd.R_base ho0) hb)
                      replace HO442 := Aside0.mk (Kd.R_elder' (rl_ HO442) (Kd.R_base ho0) hb)
                      replace HO450 := Aside0.mk (Kd.R_elder' (rl_ HO450) (Kd.R_base ho0) hb)
                      replace HO454 := Aside0.mk (Kd.R_elder' (rl_ HO454) (Kd.R_base ho0) hb)
                      replace BK356 := Aside0.mk (blk_below (bl_ BK356) hb)
                      replace BK357 := Aside0.mk (blk_below (bl_ BK357) hb)
                      replace BK380 := Aside0.mk (blk_below (bl_ BK380) hb)
                      replace BK391 := Aside0.mk (blk_below (bl_ BK391) hb)
                      replace BK414 := Aside0.mk (blk_below (bl_ BK414) hb)
                      replace BK428 := Aside0.mk (blk_below (bl_ BK428) hb)
                      replace HB := Aside0.mk (below_step (bw_ HB) hb)
                      (try clear hb)
                      (try clear hb2)
                      (try clear hk)
                      (try clear hi)
                      (try clear ho0)
                      refine hK.out _ _ ⟨(blk_cell BK356.out 0).trans rfl, (blk_cell BK356.out 1).trans rfl, (blk_cell BK357.out 0).trans rfl, (blk_cell BK357.out 1).trans rfl, (blk_cell BK380.out 0).trans rfl, (blk_cell BK380.out 1).trans rfl, (blk_cell BK391.out 0).trans rfl, (blk_cell BK391.out 1).trans rfl, (blk_cell BK414.out 0).trans rfl, (blk_cell BK414.out 1).trans rfl, (blk_cell BK428.out 0).trans rfl, (blk_cell BK428.out 1).trans rfl⟩ (fun hHeld => ?_)
                      clear hK K
                      refine norm_ (a' := ?_) ?_ ?_
                      rotate_left
                      · show Act.put _ (some 119) _ = _
                        simp only [Act.put, List.setIfInBounds_toArray, List.set_cons_zero, List.set_cons_succ, i64_w, i32_w]
                        rfl
                      refine one_ (i := 47) (N := some 122) #[true, true, true, true, true, true, true, true, true, true, true, true, true, true, true, true, true, true, true, true, true, true, true, true, true, true, true, true, true, true, true, true, true, true, true, true, true, true, true, true, true, true, true, true, true, true, true, true, false, false, false, false, false, false, false, false, false, false, false, false] rfl rfl (one_of HT_.out (by kernel_rfl)) (by decide) (fun K hK => ?_)
                      refine goes_ Try.func16 (by kernel_rfl) rfl #[.slice Ao33 t361.length co33, .slice Ao30 t358.length co30] (by rfl) rfl rfl (by (try simp only [List.map_toArray, List.map_cons, List.map_nil]); first | done | rfl | (simp only [List.length_drop, List.length_take]; rfl)) ?_
                      with_reducible refine (vernierlaw03_made.calls kj21 _ _ t361 _ _ t358 t460 t461 _ ?side1 ?side2 ?side3 ?side4 A101.out).mono ?_
                      (case side1 => repeat (first | exact (Kd.R_reads' HO_8.out).2.2 | (with_reducible refine Kd.C_alloc ?_ _) | (with_reducible refine Kd.C_drewN ?_ _) | (with_reducible refine Kd.C_drew ?_)))
                      (case side2 => exact (Kd.R_reads' HO_8.out).2.1)
                      (case side3 => repeat (first | exact (Kd.R_reads' HO_7.out).2.2 | (with_reducible refine Kd.C_alloc ?_ _) | (with_reducible refine Kd.C_drewN ?_ _) | (with_reducible refine Kd.C_drew ?_)))
                      (case side4 => exact (Kd.R_reads' HO_7.out).2.1)
                      rintro e w138 ⟨v462, rfl, ho0, hb⟩
                      refine ⟨_, rfl, ?_⟩
                      replace HO_7 := Aside0.mk (Kd.R_below (rl_ HO_7) hb)
                      replace HO_8 := Aside0.mk (Kd.R_below (rl_ HO_8) hb)
                      replace HO424 := Aside0.mk (Kd.R_below (rl_ HO424) hb)
                      have HO463 := Aside0.mk (Kd.R_lower (Kd.R_new' (Kd.R_new' (Kd.R_new' (Kd.R_new' (Kd.R_new' (Kd.R_new' (Kd.R_new' (Kd.R_new' (Kd.R_new' (Kd.R_new' ho0 (Kd.R_lt (rl_ HO_381001))) (Kd.R_lt (rl_ HO_392001))) (Kd.R_lt (rl_ HO_415001))) (Kd.R_lt (rl_ HO427))) (Kd.R_lt (rl_ HO432))) (Kd.R_lt (rl_ HO437))) (Kd.R_lt (rl_ HO442))) (Kd.R_lt (rl_ HO450))) (Kd.R_lt (rl_ HO454))) (Kd.R_lt (rl_ HO459))) (below_size (bw_ HB)))
                      replace HO_381001 := Aside0.mk (Kd.R_elder' (rl_ HO_381001) (Kd.R_base ho0) hb)
                      replace HO_392001 := Aside0.mk (Kd.R_elder' (rl_ HO_392001) (Kd.R_base ho0) hb)
                      replace HO_415001 := Aside0.mk (Kd.R_elder' (rl_ HO_415001) (Kd.R_base ho0) hb)
                      replace HO427 := Aside0.mk (Kd.R_elder' (rl_ HO427) (Kd.R_base ho0) hb)
                      replace HO432 := Aside0.mk (Kd.R_elder' (rl_ HO432) (Kd.R_base ho0) hb)
                      replace HO437 := Aside0.mk (Kd.R_elder' (rl_ HO437) (Kd.R_base ho0) hb)
                      replace HO442 := Aside0.mk (Kd.R_elder' (rl_ HO442) (Kd.R_base ho0) hb)
                      replace HO450 := Aside0.mk (Kd.R_elder' (rl_ HO450) (Kd.R_base ho0) hb)
                      replace HO454 := Aside0.mk (Kd.R_elder' (rl_ HO454) (Kd.R_base ho0) hb)
                      replace HO459 := Aside0.mk (Kd.R_elder' (rl_ HO459) (Kd.R_base ho0) hb)
                      replace BK356 := Aside0.mk (blk_below (bl_ BK356) hb)
                      replace BK357 := Aside0.mk (blk_below (bl_ BK357) hb)
                      replace BK380 := Aside0.mk (blk_below (bl_ BK380) hb)
                      replace BK391 := Aside0.mk (blk_below (bl_ BK391) hb)
                      replace BK414 := Aside0.mk (blk_below (bl_ BK414) hb)
                      replace BK428 := Aside0.mk (blk_below (bl_ BK428) hb)
                      replace HB := Aside0.mk (below_step (bw_ HB) hb)
                      (try clear hb)
                      (try clear hb2)
                      (try clear hk)
                      (try clear hi)
                      (try clear ho0)
                      obtain ⟨Ao139, co139, eo139⟩ := Kd.R_slice HO459.out
                      (first | subst eo139 | (injection eo139 with f1_ f2_ f3_; have f4_ := f1_.symm; have f5_ := f3_.symm; clear f1_ f2_ f3_; subst f4_; subst f5_))
                      obtain ⟨Ao140, co140, eo140⟩ := Kd.R_slice HO463.out
                      (first | subst eo140 | (injection eo140 with f1_ f2_ f3_; have f4_ := f1_.symm; have f5_ := f3_.symm; clear f1_ f2_ f3_; subst f4_; subst f5_))
                      refine hK.out _ _ ⟨(blk_cell BK356.out 0).trans rfl, (blk_cell BK356.out 1).trans rfl, (blk_cell BK357.out 0).trans rfl, (blk_cell BK357.out 1).trans rfl, (blk_cell BK380.out 0).trans rfl, (blk_cell BK380.out 1).trans rfl, (blk_cell BK391.out 0).trans rfl, (blk_cell BK391.out 1).trans rfl, (blk_cell BK414.out 0).trans rfl, (blk_cell BK414.out 1).trans rfl, (blk_cell BK428.out 0).trans rfl, (blk_cell BK428.out 1).trans rfl⟩ (fun hHeld => ?_)
                      clear hK K
                      refine norm_ (a' := ?_) ?_ ?_
                      rotate_left
                      · show Act.put _ (some 122) _ = _
                        simp only [Act.put, List.setIfInBounds_toArray, List.set_cons_zero, List.set_cons_succ, i64_w, i32_w]
                        rfl
                      refine one_ (i := 48) (N := some 123) #[true, true, true, true, true, true, true, true, true, true, true, true, true, true, true, true, true, true, true, true, true, true, true, true, true, true, true, true, true, true, true, true, true, true, true, true, true, true, true, true, true, true, true, true, true, true, true, true, true, false, false, false, false, false, false, false, false, false, false, false] rfl rfl (one_of HT_.out (by kernel_rfl)) (by decide) (fun K hK => ?_)
                      refine goes_ Try.func22 (by kernel_rfl) rfl #[.agg #[.bool t456, .slice Ao139 t457.length co139], .agg #[.bool t460, .slice Ao140 t461.length co140]] (by rfl) rfl rfl (by (try simp only [List.map_toArray, List.map_cons, List.map_nil]); first | done | rfl | (simp only [List.length_drop, List.length_take]; rfl)) ?_
                      with_reducible refine (vernierlaw03_same.calls kj21 t456 _ _ t457 t460 _ _ t461 true _ ?side1 ?side2 ?side3 ?side4 A102.out).mono ?_
                      (case side1 => repeat (first | exact (Kd.R_reads' HO459.out).2.2 | (with_reducible refine Kd.C_alloc ?_ _) | (with_reducible refine Kd.C_drewN ?_ _) | (with_reducible refine Kd.C_drew ?_)))
                      (case side2 => exact (Kd.R_reads' HO459.out).2.1)
                      (case side3 => repeat (first | exact (Kd.R_reads' HO463.out).2.2 | (with_reducible refine Kd.C_alloc ?_ _) | (with_reducible refine Kd.C_drewN ?_ _) | (with_reducible refine Kd.C_drew ?_)))
                      (case side4 => exact (Kd.R_reads' HO463.out).2.1)
                      rintro e w141 ⟨rfl, hb⟩
                      refine ⟨_, rfl, ?_⟩
                      replace HO_7 := Aside0.mk (Kd.R_below (rl_ HO_7) hb)
                      replace HO_8 := Aside0.mk (Kd.R_below (rl_ HO_8) hb)
                      replace HO_381001 := Aside0.mk (Kd.R_below (rl_ HO_381001) hb)
                      replace HO_392001 := Aside0.mk (Kd.R_below (rl_ HO_392001) hb)
                      replace HO_415001 := Aside0.mk (Kd.R_below (rl_ HO_415001) hb)
                      replace HO424 := Aside0.mk (Kd.R_below (rl_ HO424) hb)
                      replace HO427 := Aside0.mk (Kd.R_below (rl_ HO427) hb)
                      replace HO432 := Aside0.mk (Kd.R_below (rl_ HO432) hb)
                      replace HO437 := Aside0.mk (Kd.R_below (rl_ HO437) hb)
                      replace HO442 := Aside0.mk (Kd.R_below (rl_ HO442) hb)
                      replace HO450 := Aside0.mk (Kd.R_below (rl_ HO450) hb)
                      replace HO454 := Aside0.mk (Kd.R_below (rl_ HO454) hb)
                      replace HO459 := Aside0.mk (Kd.R_below (rl_ HO459) hb)
                      replace HO463 := Aside0.mk (Kd.R_below (rl_ HO463) hb)
                      replace BK356 := Aside0.mk (blk_below (bl_ BK356) hb)
                      replace BK357 := Aside0.mk (blk_below (bl_ BK357) hb)
                      replace BK380 := Aside0.mk (blk_below (bl_ BK380) hb)
                      replace BK391 := Aside0.mk (blk_below (bl_ BK391) hb)
                      replace BK414 := Aside0.mk (blk_below (bl_ BK414) hb)
                      replace BK428 := Aside0.mk (blk_below (bl_ BK428) hb)
                      replace HB := Aside0.mk (below_step (bw_ HB) hb)
                      (try clear hb)
                      (try clear hb2)
                      (try clear hk)
                      (try clear hi)
                      refine hK.out _ _ ⟨(blk_cell BK356.out 0).trans rfl, (blk_cell BK356.out 1).trans rfl, (blk_cell BK357.out 0).trans rfl, (blk_cell BK357.out 1).trans rfl, (blk_cell BK380.out 0).trans rfl, (blk_cell BK380.out 1).trans rfl, (blk_cell BK391.out 0).trans rfl, (blk_cell BK391.out 1).trans rfl, (blk_cell BK414.out 0).trans rfl, (blk_cell BK414.out 1).trans rfl, (blk_cell BK428.out 0).trans rfl, (blk_cell BK428.out 1).trans rfl⟩ (fun hHeld => ?_)
                      clear hK K
                      refine norm_ (a' := ?_) ?_ ?_
                      rotate_left
                      · show Act.put _ (some 123) _ = _
                        simp only [Act.put, List.setIfInBounds_toArray, List.set_cons_zero, List.set_cons_succ, i64_w, i32_w]
                        rfl
                      refine pure_ (i := 49) (N := some 124) (v := ?_) (a' := ?_) #[true, true, true, true, true, true, true, true, true, true, true, true, true, true, true, true, true, true, true, true, true, true, true, true, true, true, true, true, true, true, true, true, true, true, true, true, true, true, true, true, true, true, true, true, true, true, true, true, true, true, false, false, false, false, false, false, false, false, false, false] rfl rfl (any_of HT_.out (by kernel_rfl)) (fun _ _ _ h => h) (Or.inl ⟨by rfl, ?_⟩) ?_ ?_
                      rotate_left
                      · intro w'
                        go_simp
                        with_reducible rfl
                      rotate_left
                      · simp only [Act.put, List.setIfInBounds_toArray, List.set_cons_zero, List.set_cons_succ, i64_w, i32_w]
                        rfl
                      refine pure_ (i := 50) (N := some 125) (v := ?_) (a' := ?_) #[true, true, true, true, true, true, true, true, true, true, true, true, true, true, true, true, true, true, true, true, true, true, true, true, true, true, true, true, true, true, true, true, true, true, true, true, true, true, true, true, true, true, true, true, true, true, true, true, true, true, true, false, false, false, false, false, false, false, false, false] rfl rfl (any_of HT_.out (by kernel_rfl)) (fun _ _ _ h => h) (Or.inl ⟨by rfl, ?_⟩) ?_ ?_
                      rotate_left
                      · intro w'
                        go_simp
                        with_reducible rfl
                      rotate_left
                      · simp only [Act.put, List.setIfInBounds_toArray, List.set_cons_zero, List.set_cons_succ, i64_w, i32_w]
                        rfl
                      refine pure_ (i := 51) (N := some 126) (v := ?_) (a' := ?_) #[true, true, true, true, true, true, true, true, true, true, true, true, true, true, true, true, true, true, true, true, true, true, true, true, true, true, true, true, true, true, true, true, true, true, true, true, true, true, true, true, true, true, true, true, true, true, true, true, true, true, true, true, false, false, false, false, false, false, false, false] rfl rfl (any_of HT_.out (by kernel_rfl)) (fun _ _ _ h => h) (Or.inl ⟨by rfl, ?_⟩) ?_ ?_
                      rotate_left
                      · intro w'
                        go_simp
                        with_reducible rfl
                      rotate_left
                      · simp only [Act.put, List.setIfInBounds_toArray, List.set_cons_zero, List.set_cons_succ, i64_w, i32_w]
                        rfl
                      refine take_ (i := 53) (N := some 128) (v := ?_) (a' := ?_) #[true, true, true, true, true, true, true, true, true, true, true, true, true, true, true, true, true, true, true, true, true, true, true, true, true, true, true, true, true, true, true, true, true, true, true, true, true, true, true, true, true, true, true, true, true, true, true, true, true, true, true, true, false, true, false, false, false, false, false, false] rfl rfl (take_ofW HT_.out HW_.out (by kernel_rfl)) (fun _ _ _ h => h) (Or.inl ⟨by rfl, ?_⟩) hHeld ?_ ?_
                      rotate_left
                      · rintro w' ⟨s0, s1, s2, s3, s4, s5, s6, s7, s8, s9, s10, s11⟩
                        go_simp
                        with_reducible rfl
                      rotate_left
                      · simp only [Act.put, List.setIfInBounds_toArray, List.set_cons_zero, List.set_cons_succ, i64_w, i32_w]
                        rfl
                      refine one_ (i := 52) (N := some 127) #[true, true, true, true, true, true, true, true, true, true, true, true, true, true, true, true, true, true, true, true, true, true, true, true, true, true, true, true, true, true, true, true, true, true, true, true, true, true, true, true, true, true, true, true, true, true, true, true, true, true, true, true, true, true, false, false, false, false, false, false] rfl rfl (one_of HT_.out (by kernel_rfl)) (by decide) (fun K hK => ?_)
                      refine goes_ Try.func30 (by kernel_rfl) rfl #[.int .i64 a2] (by rfl) rfl rfl (by (try simp only [List.map_toArray, List.map_cons, List.map_nil]); first | done | rfl | (simp only [List.length_drop, List.length_take]; rfl)) ?_
                      with_reducible refine (whole_Of.calls kj21 a2 t465 t466 _ A104.out).mono ?_
                      rintro e w142 ⟨v467, rfl, ho0, hb⟩
                      refine ⟨_, rfl, ?_⟩
                      replace HO_7 := Aside0.mk (Kd.R_below (rl_ HO_7) hb)
                      replace HO_8 := Aside0.mk (Kd.R_below (rl_ HO_8) hb)
                      replace HO424 := Aside0.mk (Kd.R_below (rl_ HO424) hb)
                      have HO468 := Aside0.mk (Kd.R_lower (Kd.R_new' (Kd.R_new' (Kd.R_new' (Kd.R_new' (Kd.R_new' (Kd.R_new' (Kd.R_new' (Kd.R_new' (Kd.R_new' (Kd.R_new' (Kd.R_new' ho0 (Kd.R_lt (rl_ HO_381001))) (Kd.R_lt (rl_ HO_392001))) (Kd.R_lt (rl_ HO_415001))) (Kd.R_lt (rl_ HO427))) (Kd.R_lt (rl_ HO432))) (Kd.R_lt (rl_ HO437))) (Kd.R_lt (rl_ HO442))) (Kd.R_lt (rl_ HO450))) (Kd.R_lt (rl_ HO454))) (Kd.R_lt (rl_ HO459))) (Kd.R_lt (rl_ HO463))) (below_size (bw_ HB)))
                      replace HO_381001 := Aside0.mk (Kd.R_elder' (rl_ HO_381001) (Kd.R_base ho0) hb)
                      replace HO_392001 := Aside0.mk (Kd.R_elder' (rl_ HO_392001) (Kd.R_base ho0) hb)
                      replace HO_415001 := Aside0.mk (Kd.R_elder' (rl_ HO_415001) (Kd.R_base ho0) hb)
                      replace HO427 := Aside0.mk (Kd.R_elder' (rl_ HO427) (Kd.R_base ho0) hb)
                      replace HO432 := Aside0.mk (Kd.R_elder' (rl_ HO432) (Kd.R_base ho0) hb)
                      replace HO437 := Aside0.mk (Kd.R_elder' (rl_ HO437) (Kd.R_base ho0) hb)
                      replace HO442 := Aside0.mk (Kd.R_elder' (rl_ HO442) (Kd.R_base ho0) hb)
                      replace HO450 := Aside0.mk (Kd.R_elder' (rl_ HO450) (Kd.R_base ho0) hb)
                      replace HO454 := Aside0.mk (Kd.R_elder' (rl_ HO454) (Kd.R_base ho0) hb)
                      replace HO459 := Aside0.mk (Kd.R_elder' (rl_ HO459) (Kd.R_base ho0) hb)
                      replace HO463 := Aside0.mk (Kd.R_elder' (rl_ HO463) (Kd.R_base ho0) hb)
                      replace BK356 := Aside0.mk (blk_below (bl_ BK356) hb)
                      replace BK357 := Aside0.mk (blk_below (bl_ BK357) hb)
                      replace BK380 := Aside0.mk (blk_below (bl_ BK380) hb)
                      replace BK391 := Aside0.mk (blk_below (bl_ BK391) hb)
                      replace BK414 := Aside0.mk (blk_below (bl_ BK414) hb)
                      replace BK428 := Aside0.mk (blk_below (bl_ BK428) hb)
                      replace HB := Aside0.mk (below_step (bw_ HB) hb)
                      (try clear hb)
                      (try clear hb2)
                      (try clear hk)
                      (try clear hi)
                      (try clear ho0)
                      obtain ⟨Ao143, co143, eo143⟩ := Kd.R_slice HO468.out
                      (first | subst eo143 | (injection eo143 with f1_ f2_ f3_; have f4_ := f1_.symm; have f5_ := f3_.symm; clear f1_ f2_ f3_; subst f4_; subst f5_))
                      refine hK.out _ _ ⟨(blk_cell BK356.out 0).trans rfl, (blk_cell BK356.out 1).trans rfl, (blk_cell BK357.out 0).trans rfl, (blk_cell BK357.out 1).trans rfl, (blk_cell BK380.out 0).trans rfl, (blk_cell BK380.out 1).trans rfl, (blk_cell BK391.out 0).trans rfl, (blk_cell BK391.out 1).trans rfl, (blk_cell BK414.out 0).trans rfl, (blk_cell BK414.out 1).trans rfl, (blk_cell BK428.out 0).trans rfl, (blk_cell BK428.out 1).trans rfl⟩ (fun hHeld => ?_)
                      clear hK K
                      refine norm_ (a' := ?_) ?_ ?_
                      rotate_left
                      · show Act.put _ (some 127) _ = _
                        simp only [Act.put, List.setIfInBounds_toArray, List.set_cons_zero, List.set_cons_succ, i64_w, i32_w]
                        rfl
                      refine one_ (i := 54) (N := some 129) #[true, true, true, true, true, true, true, true, true, true, true, true, true, true, true, true, true, true, true, true, true, true, true, true, true, true, true, true, true, true, true, true, true, true, true, true, true, true, true, true, true, true, true, true, true, true, true, true, true, true, true, true, true, true, true, false, false, false, false, false] rfl rfl (one_of HT_.out (by kernel_rfl)) (by decide) (fun K hK => ?_)
                      refine goes_ Try.func22 (by kernel_rfl) rfl #[.agg #[.bool t465, .slice Ao143 t466.length co143], .agg #[.bool (decide (a2 < 0)), .slice Ao111 t425.length co111]] (by rfl) rfl rfl (by (try simp only [List.map_toArray, List.map_cons, List.map_nil]); first | done | rfl | (simp only [List.length_drop, List.length_take]; rfl)) ?_
                      with_reducible refine (vernierlaw03_same.calls kj21 t465 _ _ t466 (decide (a2 < 0)) _ _ t425 true _ ?side1 ?side2 ?side3 ?side4 A105.out).mono ?_
                      (case side1 => repeat (first | exact (Kd.R_reads' HO468.out).2.2 | (with_reducible refine Kd.C_alloc ?_ _) | (with_reducible refine Kd.C_drewN ?_ _) | (with_reducible refine Kd.C_drew ?_)))
                      (case side2 => exact (Kd.R_reads' HO468.out).2.1)
                      (case side3 => repeat (first | exact (Kd.R_reads' HO427.out).2.2 | (with_reducible refine Kd.C_alloc ?_ _) | (with_reducible refine Kd.C_drewN ?_ _) | (with_reducible refine Kd.C_drew ?_)))
                      (case side4 => exact (Kd.R_reads' HO427.out).2.1)
                      rintro e w144 ⟨rfl, hb⟩
                      refine ⟨_, rfl, ?_⟩
                      replace HO_7 := Aside0.mk (Kd.R_below (rl_ HO_7) hb)
                      replace HO_8 := Aside0.mk (Kd.R_below (rl_ HO_8) hb)
                      replace HO_381001 := Aside0.mk (Kd.R_below (rl_ HO_381001) hb)
                      replace HO_392001 := Aside0.mk (Kd.R_below (rl_ HO_392001) hb)
                      replace HO_415001 := Aside0.mk (Kd.R_below (rl_ HO_415001) hb)
                      replace HO424 := Aside0.mk (Kd.R_below (rl_ HO424) hb)
                      replace HO427 := Aside0.mk (Kd.R_below (rl_ HO427) hb)
                      replace HO432 := Aside0.mk (Kd.R_below (rl_ HO432) hb)
                      replace HO437 := Aside0.mk (Kd.R_below (rl_ HO437) hb)
                      replace HO442 := Aside0.mk (Kd.R_below (rl_ HO442) hb)
                      replace HO450 := Aside0.mk (Kd.R_below (rl_ HO450) hb)
                      replace HO454 := Aside0.mk (Kd.R_below (rl_ HO454) hb)
                      replace HO459 := Aside0.mk (Kd.R_below (rl_ HO459) hb)
                      replace HO463 := Aside0.mk (Kd.R_below (rl_ HO463) hb)
                      replace HO468 := Aside0.mk (Kd.R_below (rl_ HO468) hb)
                      replace BK356 := Aside0.mk (blk_below (bl_ BK356) hb)
                      replace BK357 := Aside0.mk (blk_below (bl_ BK357) hb)
                      replace BK380 := Aside0.mk (blk_below (bl_ BK380) hb)
                      replace BK391 := Aside0.mk (blk_below (bl_ BK391) hb)
                      replace BK414 := Aside0.mk (blk_below (bl_ BK414) hb)
                      replace BK428 := Aside0.mk (blk_below (bl_ BK428) hb)
                      replace HB := Aside0.mk (below_step (bw_ HB) hb)
                      (try clear hb)
                      (try clear hb2)
                      (try clear hk)
                      (try clear hi)
                      refine hK.out _ _ ⟨(blk_cell BK356.out 0).trans rfl, (blk_cell BK356.out 1).trans rfl, (blk_cell BK357.out 0).trans rfl, (blk_cell BK357.out 1).trans rfl, (blk_cell BK380.out 0).trans rfl, (blk_cell BK380.out 1).trans rfl, (blk_cell BK391.out 0).trans rfl, (blk_cell BK391.out 1).trans rfl, (blk_cell BK414.out 0).trans rfl, (blk_cell BK414.out 1).trans rfl, (blk_cell BK428.out 0).trans rfl, (blk_cell BK428.out 1).trans rfl⟩ (fun hHeld => ?_)
                      clear hK K
                      refine norm_ (a' := ?_) ?_ ?_
                      rotate_left
                      · show Act.put _ (some 129) _ = _
                        simp only [Act.put, List.setIfInBounds_toArray, List.set_cons_zero, List.set_cons_succ, i64_w, i32_w]
                        rfl
                      refine pure_ (i := 55) (N := some 130) (v := ?_) (a' := ?_) #[true, true, true, true, true, true, true, true, true, true, true, true, true, true, true, true, true, true, true, true, true, true, true, true, true, true, true, true, true, true, true, true, true, true, true, true, true, true, true, true, true, true, true, true, true, true, true, true, true, true, true, true, true, true, true, true, false, false, false, false] rfl rfl (any_of HT_.out (by kernel_rfl)) (fun _ _ _ h => h) (Or.inl ⟨by rfl, ?_⟩) ?_ ?_
                      rotate_left
                      · intro w'
                        go_simp
                        with_reducible rfl
                      rotate_left
                      · simp only [Act.put, List.setIfInBounds_toArray, List.set_cons_zero, List.set_cons_succ, i64_w, i32_w]
                        rfl
                      refine pure_ (i := 56) (N := some 131) (v := ?_) (a' := ?_) #[true, true, true, true, true, true, true, true, true, true, true, true, true, true, true, true, true, true, true, true, true, true, true, true, true, true, true, true, true, true, true, true, true, true, true, true, true, true, true, true, true, true, true, true, true, true, true, true, true, true, true, true, true, true, true, true, true, false, false, false] rfl rfl (any_of HT_.out (by kernel_rfl)) (fun _ _ _ h => h) (Or.inl ⟨by rfl, ?_⟩) ?_ ?_
                      rotate_left
                      · intro w'
                        go_simp
                        with_reducible rfl
                      rotate_left
                      · simp only [Act.put, List.setIfInBounds_toArray, List.set_cons_zero, List.set_cons_succ, i64_w, i32_w]
                        rfl
                      refine one_ (i := 57) (N := some 132) #[true, true, true, true, true, true, true, true, true, true, true, true, true, true, true, true, true, true, true, true, true, true, true, true, true, true, true, true, true, true, true, true, true, true, true, true, true, true, true, true, true, true, true, true, true, true, true, true, true, true, true, true, true, true, true, true, true, true, false, false] rfl rfl (one_of HT_.out (by kernel_rfl)) (by decide) (fun K hK => ?_)
                      refine goes_ Try.func31 (by kernel_rfl) rfl #[] (by rfl) rfl rfl (by (try simp only [List.map_toArray, List.map_cons, List.map_nil]); first | done | rfl | (simp only [List.length_drop, List.length_take]; rfl)) ?_
                      with_reducible refine (vernierlaw03_alive.calls kj21  t470 _ A107.out).mono ?_
                      rintro e w145 ⟨rfl, hb⟩
                      refine ⟨_, rfl, ?_⟩
                      replace HO_7 := Aside0.mk (Kd.R_below (rl_ HO_7) hb)
                      replace HO_8 := Aside0.mk (Kd.R_below (rl_ HO_8) hb)
                      replace HO_381001 := Aside0.mk (Kd.R_below (rl_ HO_381001) hb)
                      replace HO_392001 := Aside0.mk (Kd.R_below (rl_ HO_392001) hb)
                      replace HO_415001 := Aside0.mk (Kd.R_below (rl_ HO_415001) hb)
                      replace HO424 := Aside0.mk (Kd.R_below (rl_ HO424) hb)
                      replace HO427 := Aside0.mk (Kd.R_below (rl_ HO427) hb)
                      replace HO432 := Aside0.mk (Kd.R_below (rl_ HO432) hb)
                      replace HO437 := Aside0.mk (Kd.R_below (rl_ HO437) hb)
                      replace HO442 := Aside0.mk (Kd.R_below (rl_ HO442) hb)
                      replace HO450 := Aside0.mk (Kd.R_below (rl_ HO450) hb)
                      replace HO454 := Aside0.mk (Kd.R_below (rl_ HO454) hb)
                      replace HO459 := Aside0.mk (Kd.R_below (rl_ HO459) hb)
                      replace HO463 := Aside0.mk (Kd.R_below (rl_ HO463) hb)
                      replace HO468 := Aside0.mk (Kd.R_below (rl_ HO468) hb)
                      replace BK356 := Aside0.mk (blk_below (bl_ BK356) hb)
                      replace BK357 := Aside0.mk (blk_below (bl_ BK357) hb)
                      replace BK380 := Aside0.mk (blk_below (bl_ BK380) hb)
                      replace BK391 := Aside0.mk (blk_below (bl_ BK391) hb)
                      replace BK414 := Aside0.mk (blk_below (bl_ BK414) hb)
                      replace BK428 := Aside0.mk (blk_below (bl_ BK428) hb)
                      replace HB := Aside0.mk (below_step (bw_ HB) hb)
                      (try clear hb)
                      (try clear hb2)
                      (try clear hk)
                      (try clear hi)
                      refine hK.out _ _ ⟨(blk_cell BK356.out 0).trans rfl, (blk_cell BK356.out 1).trans rfl, (blk_cell BK357.out 0).trans rfl, (blk_cell BK357.out 1).trans rfl, (blk_cell BK380.out 0).trans rfl, (blk_cell BK380.out 1).trans rfl, (blk_cell BK391.out 0).trans rfl, (blk_cell BK391.out 1).trans rfl, (blk_cell BK414.out 0).trans rfl, (blk_cell BK414.out 1).trans rfl, (blk_cell BK428.out 0).trans rfl, (blk_cell BK428.out 1).trans rfl⟩ (fun hHeld => ?_)
                      clear hK K
                      refine norm_ (a' := ?_) ?_ ?_
                      rotate_left
                      · show Act.put _ (some 132) _ = _
                        simp only [Act.put, List.setIfInBounds_toArray, List.set_cons_zero, List.set_cons_succ, i64_w, i32_w]
                        rfl
                      refine pure_ (i := 58) (N := some 133) (v := ?_) (a' := ?_) #[true, true, true, true, true, true, true, true, true, true, true, true, true, true, true, true, true, true, true, true, true, true, true, true, true, true, true, true, true, true, true, true, true, true, true, true, true, true, true, true, true, true, true, true, true, true, true, true, true, true, true, true, true, true, true, true, true, true, true, false] rfl rfl (any_of HT_.out (by kernel_rfl)) (fun _ _ _ h => h) (Or.inl ⟨by rfl, ?_⟩) ?_ ?_
                      rotate_left
                      · intro w'
                        go_simp
                        with_reducible rfl
                      rotate_left
                      · simp only [Act.put, List.setIfInBounds_toArray, List.set_cons_zero, List.set_cons_succ, i64_w, i32_w]
                        rfl
                      refine pure_ (i := 59) (N := some 6) (v := ?_) (a' := ?_) #[true, true, true, true, true, true, true, true, true, true, true, true, true, true, true, true, true, true, true, true, true, true, true, true, true, true, true, true, true, true, true, true, true, true, true, true, true, true, true, true, true, true, true, true, true, true, true, true, true, true, true, true, true, true, true, true, true, true, true, true] rfl rfl (any_of HT_.out (by kernel_rfl)) (fun _ _ _ h => h) (Or.inl ⟨by rfl, ?_⟩) ?_ ?_
                      rotate_left
                      · intro w'
                        go_simp
                        with_reducible rfl
                      rotate_left
                      · simp only [Act.put, List.setIfInBounds_toArray, List.set_cons_zero, List.set_cons_succ, i64_w, i32_w]
                        rfl
                      refine done_ (done_of HT_.out (by kernel_rfl)) ?_
                      try go_wp2
                      go_ret
                      exact ⟨by first | rfl | (simp [errW_none, errW_some] <;> rfl) | (simp [*, errW_none, errW_some] <;> rfl), by repeat (first | (with_reducible first | exact HB.out | apply below_alloc | apply pw_below_drewN | apply below_drew1 | refine below_set ?_ GE356.out | refine below_set ?_ GE357.out | refine below_set ?_ GE380.out | refine below_set ?_ GE391.out | refine below_set ?_ GE414.out | refine below_set ?_ GE428.out) | exact HB.out)⟩
                    · replace c106 := Bool.eq_false_iff.mpr c106
                      subst c106
                      have H1 : (some false) = some r := by rw [if_neg (show ¬ (false = true) by decide)] at H; exact H
                      clear H
                      have H := H1
                      clear H1
                      exact absurd (Option.some.inj H) (by subst hT; decide)
                  · replace c103 := Bool.eq_false_iff.mpr c103
                    subst c103
                    have H1 : (some false) = some r := by rw [if_neg (show ¬ (false = true) by decide)] at H; exact H
                    clear H
                    have H := H1
                    clear H1
                    exact absurd (Option.some.inj H) (by subst hT; decide)
                · replace c99 := Bool.eq_false_iff.mpr c99
                  subst c99
                  have H1 : (some false) = some r := by rw [if_neg (show ¬ (false = true) by decide)] at H; exact H
                  clear H
                  have H := H1
                  clear H1
                  exact absurd (Option.some.inj H) (by subst hT; decide)
              · rw [if_neg c95] at H
                have c95b0 : (t445 == t446) = false := beq_eq_false_iff_ne.mpr c95
                have c95b1 : (t445 != t446) = true := bne_iff_ne.mpr c95
                exact absurd (Option.some.inj H) (by subst hT; decide)
            · rw [if_neg c92] at H
              have c92b0 : (t444 == t421) = false := beq_eq_false_iff_ne.mpr c92
              have c92b1 : (t444 != t421) = true := bne_iff_ne.mpr c92
              exact absurd (Option.some.inj H) (by subst hT; decide)
          · replace c90 := Bool.eq_false_iff.mpr c90
            subst c90
            have H1 : (some false) = some r := by rw [if_neg (show ¬ (false = true) by decide)] at H; exact H
            clear H
            have H := H1
            clear H1
            exact absurd (Option.some.inj H) (by subst hT; decide)
        · replace c87 := Bool.eq_false_iff.mpr c87
          subst c87
          have H1 : (some false) = some r := by rw [if_neg (show ¬ (false = true) by decide)] at H; exact H
          clear H
          have H := H1
          clear H1
          exact absurd (Option.some.inj H) (by subst hT; decide)
      · replace c84 := Bool.eq_false_iff.mpr c84
        subst c84
        have H1 : (some false) = some r := by rw [if_neg (show ¬ (false = true) by decide)] at H; exact H
        clear H
        have H := H1
        clear H1
        exact absurd (Option.some.inj H) (by subst hT; decide)
end Go.Proofs.Ytfmdjhfnbiekaaa.PW
