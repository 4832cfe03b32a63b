/- Contracts of Go functions: each call answers what the Lean function of its name answers. Written by a program of this session (vprint.py) round the print of the kit. -/
import Derived.Test.YtpdjahhimmaonaaDoorZDumpTells24
namespace Go.Proofs.YtpdjahhimmaonaaDoor.PD
open Go.RowKit Go.Proofs.YtpdjahhimmaonaaDoorW.PrintWords Go.Proofs.YtpdjahhimmaonaaDoorW.PrintLast Go.Proofs.YtpdjahhimmaonaaDoorW.PrintMore
attribute [local go_sem] max2_int min2_int max_two min_two max_three min_three max_four min_four
set_option linter.unusedVariables false
set_option linter.unusedSimpArgs false
attribute [local go_sem] fld138_1
mutual
def vernierlaw40_text.j0 : Nat → Int → ByteArray → Option (ByteArray)
  | 0, _, _ => none
  | k + 1, x0, x3 => (vernierref06_Class.f k x0).bind fun t168 => (if t168 = 3 then (some (⟨#[110, 97, 110]⟩ : ByteArray)) else (if t168 = 2 then (if x3.size + 3 ≤ 9223372036854775807 then (some (x3 ++ (⟨#[105, 110, 102]⟩ : ByteArray))) else (none)) else (if t168 = 0 then (if x3.size + 1 ≤ 9223372036854775807 then (some (x3 ++ (⟨#[48]⟩ : ByteArray))) else (none)) else ((vernierref06_Split.f x0).bind fun bt169 => (vernierlaw40_text.l0 k x3 bt169.2.1 bt169.2.2)))))
def vernierlaw40_text.l0 : Nat → ByteArray → Int → Int → Option (ByteArray)
  | 0, _, _, _ => none
  | k + 1, x3, x5, x6 => if (Int.tmod x5 2) = 0 then (vernierlaw40_text.l0 k x3 (IntKind.u64.wrap (Int.tdiv x5 2)) (wrap64 (x6 + 1))) else (if x6 < 0 then ((vernierlaw40_numeral.f k x5 16).bind fun t172 => (if x3.size + t172.size ≤ 9223372036854775807 then (if (x3 ++ t172).size + 2 ≤ 9223372036854775807 then ((vernierlaw40_numeral.f k (IntKind.u64.wrap (wrap64 (-x6))) 10).bind fun t173 => (if ((x3 ++ t172) ++ (⟨#[112, 45]⟩ : ByteArray)).size + t173.size ≤ 9223372036854775807 then (some (((x3 ++ t172) ++ (⟨#[112, 45]⟩ : ByteArray)) ++ t173)) else (none))) else (none)) else (none))) else ((vernierlaw40_numeral.f k x5 16).bind fun t174 => (if x3.size + t174.size ≤ 9223372036854775807 then (if (x3 ++ t174).size + 1 ≤ 9223372036854775807 then ((vernierlaw40_numeral.f k (IntKind.u64.wrap (x6)) 10).bind fun t175 => (if ((x3 ++ t174) ++ (⟨#[112]⟩ : ByteArray)).size + t175.size ≤ 9223372036854775807 then (some (((x3 ++ t174) ++ (⟨#[112]⟩ : ByteArray)) ++ t175)) else (none))) else (none)) else (none))))
end
def vernierlaw40_text.f (k : Nat) (a0 : Int) : Option (ByteArray) := if a0 ≥ 9223372036854775808 then (vernierlaw40_text.j0 k a0 (⟨#[45]⟩ : ByteArray)) else (vernierlaw40_text.j0 k a0 (⟨#[]⟩ : ByteArray))
set_option maxHeartbeats 8000000 in
set_option maxRecDepth 100000 in
theorem vernierlaw40_text.calls (k : Nat) (a0 : Int) (r : ByteArray) (w : World) (h : vernierlaw40_text.f k a0 = some r) :
    Calls Tryd.prog 11 #[.int .u64 a0] w fun e w' => e = .returned (.string r) ∧ Drawn0 w w' := by
  have H : (if a0 ≥ 9223372036854775808 then (vernierlaw40_text.j0 k a0 (⟨#[45]⟩ : ByteArray)) else (vernierlaw40_text.j0 k a0 (⟨#[]⟩ : ByteArray))) = some r := h
  clear h
  have HC2 := Aside0.mk H
  clear H
  go_enter Tryd.func11, Tryd.ntmps11
  go_upto_if 8 with (fail)
  go_cut [3] (fun v3 wc => ∃ (kq : Nat) (x3_1 : ByteArray), v3 = .string x3_1 ∧ Aside0 (vernierlaw40_text.j0 kq a0 x3_1 = some r) ∧ Aside0 (kq ≤ k) ∧ Drawn0 w wc)
  case first =>
    have H := HC2.out
    clear HC2
    by_cases c3 : a0 ≥ 9223372036854775808
    · rw [if_pos c3] at H
      have c3b0 : decide (9223372036854775808 ≤ a0) = true := decide_eq_true c3
      clear c3
      (first | rw [c3b0] | (simp only [i64_w, i32_w]; rw [c3b0]) | skip)
      have H' := Aside0.mk H
      clear H
      go_wp2
      go_meet
      case rel => exact ⟨_, ((⟨#[45]⟩ : ByteArray)), (by first | rfl | (simp; done) | (simp [*]; done)), H', ⟨by first | omega | exact Nat.le_refl _⟩, by repeat (first | exact Drawn0.refl _ | apply Drawn0.step)⟩
    · rw [if_neg c3] at H
      have c3b0 : decide (9223372036854775808 ≤ a0) = false := decide_eq_false c3
      clear c3
      (first | rw [c3b0] | (simp only [i64_w, i32_w]; rw [c3b0]) | skip)
      have H' := Aside0.mk H
      clear H
      go_wp2
      go_meet
      case rel => exact ⟨_, ((⟨#[]⟩ : ByteArray)), (by first | rfl | (simp; done) | (simp [*]; done)), H', ⟨by first | omega | exact Nat.le_refl _⟩, by repeat (first | exact Drawn0.refl _ | apply Drawn0.step)⟩
  case rest =>
    clear HC2
    try clear c1
    try clear p2
    try clear c3
    try clear c3b0
    obtain ⟨kq, x3_1, rfl, HA, HJ1, ⟨mc1, rfl⟩⟩ := hcut
    cases kq with
    | zero => exact absurd HA.out (by simp [vernierlaw40_text.j0])
    | succ kj1 =>
      have H := HA.out
      clear HA
      simp only [vernierlaw40_text.j0] at H
      replace H := Option.bind_eq_some_iff.mp H
      obtain ⟨t168, A40, H⟩ := H
      replace H : (if t168 = 3 then (some (⟨#[110, 97, 110]⟩ : ByteArray)) else (if t168 = 2 then (if x3_1.size + 3 ≤ 9223372036854775807 then (some (x3_1 ++ (⟨#[105, 110, 102]⟩ : ByteArray))) else (none)) else (if t168 = 0 then (if x3_1.size + 1 ≤ 9223372036854775807 then (some (x3_1 ++ (⟨#[48]⟩ : ByteArray))) else (none)) else ((vernierref06_Split.f a0).bind fun bt169 => (vernierlaw40_text.l0 kj1 x3_1 bt169.2.1 bt169.2.2))))) = some r := H
      have A4 := Aside0.mk A40
      clear A40
      by_cases c5 : t168 = 3
      · rw [if_pos c5] at H
        have c5b0 : (t168 == 3) = true := beq_iff_eq.mpr c5
        have c5b1 : (t168 != 3) = false := bne_eq_false_iff_eq.mpr c5
        clear c5
        obtain rfl := Option.some.inj H
        go_wp2_with (first | ((with_reducible refine gate_callee (f := 10) rfl ?_); refine goesL_ (some 10) rfl rfl Tryd.func10 (by kernel_rfl) rfl #[.int .u64 a0] rfl (by (try simp only [List.map_toArray, List.map_cons, List.map_nil]); first | done | rfl | (simp only [List.length_drop, List.length_take]; rfl)) ?_; (with_reducible refine (vernierref06_Class.calls kj1 a0 t168 _ A4.out).mono ?_); rintro e w' ⟨rfl, ⟨nd, rfl⟩⟩; refine ⟨_, rfl, ?_⟩))
        go_ret
        exact ⟨by first | rfl | (simp; done) | (simp [*]; done), by repeat (first | exact Drawn0.refl _ | apply Drawn0.step)⟩
      · rw [if_neg c5] at H
        have c5b0 : (t168 == 3) = false := beq_eq_false_iff_ne.mpr c5
        have c5b1 : (t168 != 3) = true := bne_iff_ne.mpr c5
        by_cases c6 : t168 = 2
        · rw [if_pos c6] at H
          have c6b0 : (t168 == 2) = true := beq_iff_eq.mpr c6
          have c6b1 : (t168 != 2) = false := bne_eq_false_iff_eq.mpr c6
          clear c6
          by_cases c7 : x3_1.size + 3 ≤ 9223372036854775807
          · rw [if_pos c7] at H
            have c7b0 := eq_true c7
            have c7b1 : decide (x3_1.size + 3 ≤ 9223372036854775807) = true := decide_eq_true c7
            try have c7b2 : (9223372036854775807 < x3_1.size + 3) = False := eq_false (Nat.not_lt.2 c7)
            obtain rfl := Option.some.inj H
            go_wp2_with (first | ((with_reducible refine gate_callee (f := 10) rfl ?_); refine goesL_ (some 10) rfl rfl Tryd.func10 (by kernel_rfl) rfl #[.int .u64 a0] rfl (by (try simp only [List.map_toArray, List.map_cons, List.map_nil]); first | done | rfl | (simp only [List.length_drop, List.length_take]; rfl)) ?_; (with_reducible refine (vernierref06_Class.calls kj1 a0 t168 _ A4.out).mono ?_); rintro e w' ⟨rfl, ⟨nd, rfl⟩⟩; refine ⟨_, rfl, ?_⟩))
            go_ret
            exact ⟨by first | rfl | (simp; done) | (simp [*]; done), by repeat (first | exact Drawn0.refl _ | apply Drawn0.step)⟩
          · rw [if_neg c7] at H
            exact absurd H (by simp)
        · rw [if_neg c6] at H
          have c6b0 : (t168 == 2) = false := beq_eq_false_iff_ne.mpr c6
          have c6b1 : (t168 != 2) = true := bne_iff_ne.mpr c6
          by_cases c8 : t168 = 0
          · rw [if_pos c8] at H
            have c8b0 : (t168 == 0) = true := beq_iff_eq.mpr c8
            have c8b1 : (t168 != 0) = false := bne_eq_false_iff_eq.mpr c8
            clear c8
            by_cases c9 : x3_1.size + 1 ≤ 9223372036854775807
            · rw [if_pos c9] at H
              have c9b0 := eq_true c9
              have c9b1 : decide (x3_1.size + 1 ≤ 9223372036854775807) = true := decide_eq_true c9
              try have c9b2 : (9223372036854775807 < x3_1.size + 1) = False := eq_false (Nat.not_lt.2 c9)
              obtain rfl := Option.some.inj H
              go_wp2_with (first | ((with_reducible refine gate_callee (f := 10) rfl ?_); refine goesL_ (some 10) rfl rfl Tryd.func10 (by kernel_rfl) rfl #[.int .u64 a0] rfl (by (try simp only [List.map_toArray, List.map_cons, List.map_nil]); first | done | rfl | (simp only [List.length_drop, List.length_take]; rfl)) ?_; (with_reducible refine (vernierref06_Class.calls kj1 a0 t168 _ A4.out).mono ?_); rintro e w' ⟨rfl, ⟨nd, rfl⟩⟩; refine ⟨_, rfl, ?_⟩))
              go_ret
              exact ⟨by first | rfl | (simp; done) | (simp [*]; done), by repeat (first | exact Drawn0.refl _ | apply Drawn0.step)⟩
            · rw [if_neg c9] at H
              exact absurd H (by simp)
          · rw [if_neg c8] at H
            have c8b0 : (t168 == 0) = false := beq_eq_false_iff_ne.mpr c8
            have c8b1 : (t168 != 0) = true := bne_iff_ne.mpr c8
            replace H := Option.bind_eq_some_iff.mp H
            obtain ⟨⟨t169, t170, t171⟩, A100, H⟩ := H
            replace H : (vernierlaw40_text.l0 kj1 x3_1 t170 t171) = some r := H
            have A10 := Aside0.mk A100
            clear A100
            have H' := Aside0.mk H
            clear H
            go_wp2_with (first | ((with_reducible refine gate_callee (f := 10) rfl ?_); refine goesL_ (some 10) rfl rfl Tryd.func10 (by kernel_rfl) rfl #[.int .u64 a0] rfl (by (try simp only [List.map_toArray, List.map_cons, List.map_nil]); first | done | rfl | (simp only [List.length_drop, List.length_take]; rfl)) ?_; (with_reducible refine (vernierref06_Class.calls kj1 a0 t168 _ A4.out).mono ?_); rintro e w' ⟨rfl, ⟨nd, rfl⟩⟩; refine ⟨_, rfl, ?_⟩) | ((with_reducible refine gate_callee (f := 30) rfl ?_); refine goesL_ (some 23) rfl rfl Tryd.func30 (by kernel_rfl) rfl #[.int .u64 a0] rfl (by (try simp only [List.map_toArray, List.map_cons, List.map_nil]); first | done | rfl | (simp only [List.length_drop, List.length_take]; rfl)) ?_; (with_reducible refine (vernierref06_Split.calls a0 t169 t170 t171 _ A10.out).mono ?_); rintro e w' ⟨rfl, ⟨nd, rfl⟩⟩; refine ⟨_, rfl, ?_⟩))
            go_loopg [5, 6] kj1 (fun kq v5 v6 w' => ∃ (x5_2 : Int) (x6_2 : Int), v5 = .int .u64 x5_2 ∧ v6 = .int .i64 x6_2 ∧ Aside0 (vernierlaw40_text.l0 kq x3_1 x5_2 x6_2 = some r) ∧ Aside0 (kq ≤ kj1) ∧ Drawn0 w w')
            case atStart => exact ⟨(t170), (t171), (by first | rfl | (simp; done) | (simp [*]; done)), (by first | rfl | (simp; done) | (simp [*]; done)), H', ⟨Nat.le_refl _⟩, by repeat (first | exact Drawn0.refl _ | apply Drawn0.step)⟩
            case round =>
              clear H'
              try clear c1
              try clear p2
              try clear c3
              try clear c3b0
              try clear c5
              try clear c5b0
              try clear c5b1
              try clear c6
              try clear c6b0
              try clear c6b1
              try clear c7
              try clear c7b0
              try clear c7b1
              try clear c7b2
              try clear c8
              try clear c8b0
              try clear c8b1
              try clear c9
              try clear c9b0
              try clear c9b1
              try clear c9b2
              try clear c10
              try clear p2
              obtain ⟨x5_2, x6_2, rfl, rfl, HA, HK2, ⟨m2, rfl⟩⟩ := hrel
              cases gk with
              | zero => exact absurd HA.out (by simp [vernierlaw40_text.l0])
              | succ k2 =>
                have H := HA.out
                clear HA
                simp only [vernierlaw40_text.l0] at H
                by_cases c11 : (Int.tmod x5_2 2) = 0
                · rw [if_pos c11] at H
                  have c11b0 : ((Int.tmod x5_2 2) == 0) = true := beq_iff_eq.mpr c11
                  have c11b1 : ((Int.tmod x5_2 2) != 0) = false := bne_eq_false_iff_eq.mpr c11
                  clear c11
                  have H' := Aside0.mk H
                  clear H
                  go_wp2
                  go_roundg k2
                  case measure => have := HJ1.out; have := HK2.out; omega
                  case rel => exact ⟨(IntKind.u64.wrap (Int.tdiv x5_2 2)), (wrap64 (x6_2 + 1)), (by first | rfl | (simp; done) | (simp [*]; done)), (by first | rfl | (simp; done) | (simp [*]; done)), H', ⟨by have := HJ1.out; have := HK2.out; omega⟩, by repeat (first | exact Drawn0.refl _ | apply Drawn0.step)⟩
                · rw [if_neg c11] at H
                  have c11b0 : ((Int.tmod x5_2 2) == 0) = false := beq_eq_false_iff_ne.mpr c11
                  have c11b1 : ((Int.tmod x5_2 2) != 0) = true := bne_iff_ne.mpr c11
                  by_cases c12 : x6_2 < 0
                  · rw [if_pos c12] at H
                    have c12b0 : decide (x6_2 < 0) = true := decide_eq_true c12
                    clear c12
                    replace H := Option.bind_eq_some_iff.mp H
                    obtain ⟨t172, A130, H⟩ := H
                    replace H : (if x3_1.size + t172.size ≤ 9223372036854775807 then (if (x3_1 ++ t172).size + 2 ≤ 9223372036854775807 then ((vernierlaw40_numeral.f k2 (IntKind.u64.wrap (wrap64 (-x6_2))) 10).bind fun t173 => (if ((x3_1 ++ t172) ++ (⟨#[112, 45]⟩ : ByteArray)).size + t173.size ≤ 9223372036854775807 then (some (((x3_1 ++ t172) ++ (⟨#[112, 45]⟩ : ByteArray)) ++ t173)) else (none))) else (none)) else (none)) = some r := H
                    have A13 := Aside0.mk A130
                    clear A130
                    by_cases c14 : x3_1.size + t172.size ≤ 9223372036854775807
                    · rw [if_pos c14] at H
                      have c14b0 := eq_true c14
                      have c14b1 : decide (x3_1.size + t172.size ≤ 9223372036854775807) = true := decide_eq_true c14
                      try have c14b2 : (9223372036854775807 < x3_1.size + t172.size) = False := eq_false (Nat.not_lt.2 c14)
                      by_cases c15 : (x3_1 ++ t172).size + 2 ≤ 9223372036854775807
                      · rw [if_pos c15] at H
                        have c15b0 := eq_true c15
                        (try (have c15s := c15; simp only [ByteArray.size_append] at c15s; have c15t := eq_true c15s; have c15v := eq_false (Nat.not_lt.2 c15s)))
                        have c15b1 : decide ((x3_1 ++ t172).size + 2 ≤ 9223372036854775807) = true := decide_eq_true c15
                        try have c15b2 : (9223372036854775807 < (x3_1 ++ t172).size + 2) = False := eq_false (Nat.not_lt.2 c15)
                        replace H := Option.bind_eq_some_iff.mp H
                        obtain ⟨t173, A160, H⟩ := H
                        replace H : (if ((x3_1 ++ t172) ++ (⟨#[112, 45]⟩ : ByteArray)).size + t173.size ≤ 9223372036854775807 then (some (((x3_1 ++ t172) ++ (⟨#[112, 45]⟩ : ByteArray)) ++ t173)) else (none)) = some r := H
                        have A16 := Aside0.mk A160
                        clear A160
                        by_cases c17 : ((x3_1 ++ t172) ++ (⟨#[112, 45]⟩ : ByteArray)).size + t173.size ≤ 9223372036854775807
                        · rw [if_pos c17] at H
                          have c17b0 := eq_true c17
                          (try (have c17s := c17; simp only [ByteArray.size_append, show (⟨#[112, 45]⟩ : ByteArray).size = 2 from rfl] at c17s; have c17t := eq_true c17s; have c17v := eq_false (Nat.not_lt.2 c17s)))
                          have c17b1 : decide (((x3_1 ++ t172) ++ (⟨#[112, 45]⟩ : ByteArray)).size + t173.size ≤ 9223372036854775807) = true := decide_eq_true c17
                          try have c17b2 : (9223372036854775807 < ((x3_1 ++ t172) ++ (⟨#[112, 45]⟩ : ByteArray)).size + t173.size) = False := eq_false (Nat.not_lt.2 c17)
                          obtain rfl := Option.some.inj H
                          go_wp2_with (first | ((with_reducible refine gate_callee (f := 31) rfl ?_); refine goesL_ (some 38) rfl rfl Tryd.func31 (by kernel_rfl) rfl #[.int .u64 x5_2, .int .u64 16] rfl (by (try simp only [List.map_toArray, List.map_cons, List.map_nil]); first | done | rfl | (simp only [List.length_drop, List.length_take]; rfl)) ?_; (with_reducible refine (vernierlaw40_numeral.calls k2 x5_2 16 t172 _ A13.out).mono ?_); rintro e w' ⟨rfl, ⟨nd, rfl⟩⟩; refine ⟨_, rfl, ?_⟩) | ((with_reducible refine gate_callee (f := 31) rfl ?_); refine goesL_ (some 44) rfl rfl Tryd.func31 (by kernel_rfl) rfl #[.int .u64 (IntKind.u64.wrap (wrap64 (-x6_2))), .int .u64 10] rfl (by (try simp only [List.map_toArray, List.map_cons, List.map_nil]); first | done | rfl | (simp only [List.length_drop, List.length_take]; rfl)) ?_; (with_reducible refine (vernierlaw40_numeral.calls k2 (IntKind.u64.wrap (wrap64 (-x6_2))) 10 t173 _ A16.out).mono ?_); rintro e w' ⟨rfl, ⟨nd, rfl⟩⟩; refine ⟨_, rfl, ?_⟩))
                          go_ret
                          exact ⟨by first | rfl | (simp; done) | (simp [*]; done), by repeat (first | exact Drawn0.refl _ | apply Drawn0.step)⟩
                        · rw [if_neg c17] at H
                          exact absurd H (by simp)
                      · rw [if_neg c15] at H
                        exact absurd H (by simp)
                    · rw [if_neg c14] at H
                      exact absurd H (by simp)
                  · rw [if_neg c12] at H
                    have c12b0 : decide (x6_2 < 0) = false := decide_eq_false c12
                    clear c12
                    replace H := Option.bind_eq_some_iff.mp H
                    obtain ⟨t174, A180, H⟩ := H
                    replace H : (if x3_1.size + t174.size ≤ 9223372036854775807 then (if (x3_1 ++ t174).size + 1 ≤ 9223372036854775807 then ((vernierlaw40_numeral.f k2 (IntKind.u64.wrap (x6_2)) 10).bind fun t175 => (if ((x3_1 ++ t174) ++ (⟨#[112]⟩ : ByteArray)).size + t175.size ≤ 9223372036854775807 then (some (((x3_1 ++ t174) ++ (⟨#[112]⟩ : ByteArray)) ++ t175)) else (none))) else (none)) else (none)) = some r := H
                    have A18 := Aside0.mk A180
                    clear A180
                    by_cases c19 : x3_1.size + t174.size ≤ 9223372036854775807
                    · rw [if_pos c19] at H
                      have c19b0 := eq_true c19
                      have c19b1 : decide (x3_1.size + t174.size ≤ 9223372036854775807) = true := decide_eq_true c19
                      try have c19b2 : (9223372036854775807 < x3_1.size + t174.size) = False := eq_false (Nat.not_lt.2 c19)
                      by_cases c20 : (x3_1 ++ t174).size + 1 ≤ 9223372036854775807
                      · rw [if_pos c20] at H
                        have c20b0 := eq_true c20
                        (try (have c20s := c20; simp only [ByteArray.size_append] at c20s; have c20t := eq_true c20s; have c20v := eq_false (Nat.not_lt.2 c20s)))
                        have c20b1 : decide ((x3_1 ++ t174).size + 1 ≤ 9223372036854775807) = true := decide_eq_true c20
                        try have c20b2 : (9223372036854775807 < (x3_1 ++ t174).size + 1) = False := eq_false (Nat.not_lt.2 c20)
                        replace H := Option.bind_eq_some_iff.mp H
                        obtain ⟨t175, A210, H⟩ := H
                        replace H : (if ((x3_1 ++ t174) ++ (⟨#[112]⟩ : ByteArray)).size + t175.size ≤ 9223372036854775807 then (some (((x3_1 ++ t174) ++ (⟨#[112]⟩ : ByteArray)) ++ t175)) else (none)) = some r := H
                        have A21 := Aside0.mk A210
                        clear A210
                        by_cases c22 : ((x3_1 ++ t174) ++ (⟨#[112]⟩ : ByteArray)).size + t175.size ≤ 9223372036854775807
                        · rw [if_pos c22] at H
                          have c22b0 := eq_true c22
                          (try (have c22s := c22; simp only [ByteArray.size_append, show (⟨#[112]⟩ : ByteArray).size = 1 from rfl] at c22s; have c22t := eq_true c22s; have c22v := eq_false (Nat.not_lt.2 c22s)))
                          have c22b1 : decide (((x3_1 ++ t174) ++ (⟨#[112]⟩ : ByteArray)).size + t175.size ≤ 9223372036854775807) = true := decide_eq_true c22
                          try have c22b2 : (9223372036854775807 < ((x3_1 ++ t174) ++ (⟨#[112]⟩ : ByteArray)).size + t175.size) = False := eq_false (Nat.not_lt.2 c22)
                          obtain rfl := Option.some.inj H
                          go_wp2_with (first | ((with_reducible refine gate_callee (f := 31) rfl ?_); refine goesL_ (some 48) rfl rfl Tryd.func31 (by kernel_rfl) rfl #[.int .u64 x5_2, .int .u64 16] rfl (by (try simp only [List.map_toArray, List.map_cons, List.map_nil]); first | done | rfl | (simp only [List.length_drop, List.length_take]; rfl)) ?_; (with_reducible refine (vernierlaw40_numeral.calls k2 x5_2 16 t174 _ A18.out).mono ?_); rintro e w' ⟨rfl, ⟨nd, rfl⟩⟩; refine ⟨_, rfl, ?_⟩) | ((with_reducible refine gate_callee (f := 31) rfl ?_); refine goesL_ (some 53) rfl rfl Tryd.func31 (by kernel_rfl) rfl #[.int .u64 (IntKind.u64.wrap (x6_2)), .int .u64 10] rfl (by (try simp only [List.map_toArray, List.map_cons, List.map_nil]); first | done | rfl | (simp only [List.length_drop, List.length_take]; rfl)) ?_; (with_reducible refine (vernierlaw40_numeral.calls k2 (IntKind.u64.wrap (x6_2)) 10 t175 _ A21.out).mono ?_); rintro e w' ⟨rfl, ⟨nd, rfl⟩⟩; refine ⟨_, rfl, ?_⟩))
                          go_ret
                          exact ⟨by first | rfl | (simp; done) | (simp [*]; done), by repeat (first | exact Drawn0.refl _ | apply Drawn0.step)⟩
                        · rw [if_neg c22] at H
                          exact absurd H (by simp)
                      · rw [if_neg c20] at H
                        exact absurd H (by simp)
                    · rw [if_neg c19] at H
                      exact absurd H (by simp)
def vernierlaw40_DumpTells.f (k : Nat) (a0 : Int) : Option (Bool) := (vernierlaw40_alive.f k).bind fun t176 => (if t176 = true then ((dump_Number.f k a0).bind fun t177 => ((dump_Parse.f k t177).bind fun bt178 => ((vernierref06_Class.f k a0).bind fun t180 => (if t180 = 3 then ((dump_Number.f k 9221120237041090560).bind fun t181 => ((vernierlaw40_text.f k 9221120237041090560).bind fun t182 => (if t181.toList = t182.toList then (if bt178.2 = 0 then (some (bt178.1 == 9221120237041090560)) else (some false)) else (some false)))) else ((dump_Number.f k a0).bind fun t183 => ((vernierlaw40_text.f k a0).bind fun t184 => (if t183.toList = t184.toList then (if bt178.2 = 0 then (some (bt178.1 == a0)) else (some false)) else (some false)))))))) else (some false))
set_option maxHeartbeats 8000000 in
set_option maxRecDepth 100000 in
theorem vernierlaw40_DumpTells.calls (k : Nat) (a0 : Int) (r : Bool) (w : World) (ht_ : Tz w) (h : vernierlaw40_DumpTells.f k a0 = some r) (hT : r = true := by rfl) :
    Calls Tryd.prog 3 #[.int .u64 a0] w fun e w' => e = .returned (.bool r) ∧ Below w.heap.size w w' := by
  have HT := Aside0.mk ht_
  clear ht_
  have HB := Aside0.mk (Below.refl w.heap.size w)
  have H : ((vernierlaw40_alive.f k).bind fun t176 => (if t176 = true then ((dump_Number.f k a0).bind fun t177 => ((dump_Parse.f k t177).bind fun bt178 => ((vernierref06_Class.f k a0).bind fun t180 => (if t180 = 3 then ((dump_Number.f k 9221120237041090560).bind fun t181 => ((vernierlaw40_text.f k 9221120237041090560).bind fun t182 => (if t181.toList = t182.toList then (if bt178.2 = 0 then (some (bt178.1 == 9221120237041090560)) else (some false)) else (some false)))) else ((dump_Number.f k a0).bind fun t183 => ((vernierlaw40_text.f k a0).bind fun t184 => (if t183.toList = t184.toList then (if bt178.2 = 0 then (some (bt178.1 == a0)) else (some false)) else (some false)))))))) else (some false))) = some r := h
  clear h
  replace H := Option.bind_eq_some_iff.mp H
  obtain ⟨t176, A20, H⟩ := H
  replace H : (if t176 = true then ((dump_Number.f k a0).bind fun t177 => ((dump_Parse.f k t177).bind fun bt178 => ((vernierref06_Class.f k a0).bind fun t180 => (if t180 = 3 then ((dump_Number.f k 9221120237041090560).bind fun t181 => ((vernierlaw40_text.f k 9221120237041090560).bind fun t182 => (if t181.toList = t182.toList then (if bt178.2 = 0 then (some (bt178.1 == 9221120237041090560)) else (some false)) else (some false)))) else ((dump_Number.f k a0).bind fun t183 => ((vernierlaw40_text.f k a0).bind fun t184 => (if t183.toList = t184.toList then (if bt178.2 = 0 then (some (bt178.1 == a0)) else (some false)) else (some false)))))))) else (some false)) = some r := H
  have A2 := Aside0.mk A20
  clear A20
  by_cases c3 : t176 = true
  · subst c3
    have H1 : ((dump_Number.f k a0).bind fun t177 => ((dump_Parse.f k t177).bind fun bt178 => ((vernierref06_Class.f k a0).bind fun t180 => (if t180 = 3 then ((dump_Number.f k 9221120237041090560).bind fun t181 => ((vernierlaw40_text.f k 9221120237041090560).bind fun t182 => (if t181.toList = t182.toList then (if bt178.2 = 0 then (some (bt178.1 == 9221120237041090560)) else (some false)) else (some false)))) else ((dump_Number.f k a0).bind fun t183 => ((vernierlaw40_text.f k a0).bind fun t184 => (if t183.toList = t184.toList then (if bt178.2 = 0 then (some (bt178.1 == a0)) else (some false)) else (some false)))))))) = some r := by rw [if_pos rfl] at H; exact H
    clear H
    have H := H1
    clear H1
    replace H := Option.bind_eq_some_iff.mp H
    obtain ⟨t177, A40, H⟩ := H
    replace H : ((dump_Parse.f k t177).bind fun bt178 => ((vernierref06_Class.f k a0).bind fun t180 => (if t180 = 3 then ((dump_Number.f k 9221120237041090560).bind fun t181 => ((vernierlaw40_text.f k 9221120237041090560).bind fun t182 => (if t181.toList = t182.toList then (if bt178.2 = 0 then (some (bt178.1 == 9221120237041090560)) else (some false)) else (some false)))) else ((dump_Number.f k a0).bind fun t183 => ((vernierlaw40_text.f k a0).bind fun t184 => (if t183.toList = t184.toList then (if bt178.2 = 0 then (some (bt178.1 == a0)) else (some false)) else (some false))))))) = some r := H
    have A4 := Aside0.mk A40
    clear A40
    replace H := Option.bind_eq_some_iff.mp H
    obtain ⟨⟨t178, t179⟩, A50, H⟩ := H
    replace H : ((vernierref06_Class.f k a0).bind fun t180 => (if t180 = 3 then ((dump_Number.f k 9221120237041090560).bind fun t181 => ((vernierlaw40_text.f k 9221120237041090560).bind fun t182 => (if t181.toList = t182.toList then (if t179 = 0 then (some (t178 == 9221120237041090560)) else (some false)) else (some false)))) else ((dump_Number.f k a0).bind fun t183 => ((vernierlaw40_text.f k a0).bind fun t184 => (if t183.toList = t184.toList then (if t179 = 0 then (some (t178 == a0)) else (some false)) else (some false)))))) = some r := H
    have A5 := Aside0.mk A50
    clear A50
    replace H := Option.bind_eq_some_iff.mp H
    obtain ⟨t180, A60, H⟩ := H
    replace H : (if t180 = 3 then ((dump_Number.f k 9221120237041090560).bind fun t181 => ((vernierlaw40_text.f k 9221120237041090560).bind fun t182 => (if t181.toList = t182.toList then (if t179 = 0 then (some (t178 == 9221120237041090560)) else (some false)) else (some false)))) else ((dump_Number.f k a0).bind fun t183 => ((vernierlaw40_text.f k a0).bind fun t184 => (if t183.toList = t184.toList then (if t179 = 0 then (some (t178 == a0)) else (some false)) else (some false))))) = some r := H
    have A6 := Aside0.mk A60
    clear A60
    by_cases c7 : t180 = 3
    · rw [if_pos c7] at H
      have c7b0 : (t180 == 3) = true := beq_iff_eq.mpr c7
      have c7b1 : (t180 != 3) = false := bne_eq_false_iff_eq.mpr c7
      clear c7
      replace H := Option.bind_eq_some_iff.mp H
      obtain ⟨t181, A80, H⟩ := H
      replace H : ((vernierlaw40_text.f k 9221120237041090560).bind fun t182 => (if t181.toList = t182.toList then (if t179 = 0 then (some (t178 == 9221120237041090560)) else (some false)) else (some false))) = some r := H
      have A8 := Aside0.mk A80
      clear A80
      replace H := Option.bind_eq_some_iff.mp H
      obtain ⟨t182, A90, H⟩ := H
      replace H : (if t181.toList = t182.toList then (if t179 = 0 then (some (t178 == 9221120237041090560)) else (some false)) else (some false)) = some r := H
      have A9 := Aside0.mk A90
      clear A90
      by_cases c10 : t181.toList = t182.toList
      · rw [if_pos c10] at H
        have c10b0 : (t181.toList == t182.toList) = true := beq_iff_eq.mpr c10
        have c10b1 : (t181.toList != t182.toList) = false := bne_eq_false_iff_eq.mpr c10
        clear c10
        by_cases c11 : t179 = 0
        · rw [if_pos c11] at H
          have c11b0 : (t179 == 0) = true := beq_iff_eq.mpr c11
          have c11b1 : (t179 != 0) = false := bne_eq_false_iff_eq.mpr c11
          clear c11
          obtain rfl := Option.some.inj H
          go_enter Tryd.func3, Tryd.ntmps3
          go_wp2_with (first | ((with_reducible refine gate_callee (f := 7) rfl ?_); refine goesL_ (some 5) rfl rfl Tryd.func7 (by kernel_rfl) rfl #[] rfl (by (try simp only [List.map_toArray, List.map_cons, List.map_nil]); first | done | rfl | (simp only [List.length_drop, List.length_take]; rfl)) ?_; (with_reducible refine (vernierlaw40_alive.calls k  true _ ?sidet A2.out).mono ?_); (case sidet => exact tz_ HT HB); rintro e w' ⟨rfl, ⟨nd, rfl⟩⟩; refine ⟨_, rfl, ?_⟩) | ((with_reducible refine gate_callee (f := 9) rfl ?_); refine goesL_ (some 9) rfl rfl Tryd.func9 (by kernel_rfl) rfl #[.int .u64 a0] rfl (by (try simp only [List.map_toArray, List.map_cons, List.map_nil]); first | done | rfl | (simp only [List.length_drop, List.length_take]; rfl)) ?_; (with_reducible refine (dump_Number.calls k a0 t177 _ ?sidet A4.out).mono ?_); (case sidet => exact tz_ HT HB); rintro e w' ⟨rfl, ⟨nd, rfl⟩⟩; refine ⟨_, rfl, ?_⟩) | ((with_reducible refine gate_callee (f := 8) rfl ?_); refine goesL_ (some 10) rfl rfl Tryd.func8 (by kernel_rfl) rfl #[.string t177] rfl (by (try simp only [List.map_toArray, List.map_cons, List.map_nil]); first | done | rfl | (simp only [List.length_drop, List.length_take]; rfl)) ?_; (with_reducible refine (dump_Parse.calls k t177 t178 t179 _ A5.out).mono ?_); rintro e w12 ⟨rfl, hb⟩; refine ⟨_, rfl, ?_⟩; have n0_ := Aside0.mk (below_step (by repeat (first | (with_reducible first | exact HB.out | apply below_alloc | apply pw_below_drewN | apply below_drew1) | exact HB.out)) hb); clear HB; have HB := n0_; clear n0_; (try clear hb); (try clear hb2); (try clear hk); (try clear hi)) | ((with_reducible refine gate_callee (f := 10) rfl ?_); refine goesL_ (some 14) rfl rfl Tryd.func10 (by kernel_rfl) rfl #[.int .u64 a0] rfl (by (try simp only [List.map_toArray, List.map_cons, List.map_nil]); first | done | rfl | (simp only [List.length_drop, List.length_take]; rfl)) ?_; (with_reducible refine (vernierref06_Class.calls k a0 t180 _ A6.out).mono ?_); rintro e w' ⟨rfl, ⟨nd, rfl⟩⟩; refine ⟨_, rfl, ?_⟩) | ((with_reducible refine gate_callee (f := 9) rfl ?_); refine goesL_ (some 17) rfl rfl Tryd.func9 (by kernel_rfl) rfl #[.int .u64 9221120237041090560] rfl (by (try simp only [List.map_toArray, List.map_cons, List.map_nil]); first | done | rfl | (simp only [List.length_drop, List.length_take]; rfl)) ?_; (with_reducible refine (dump_Number.calls k 9221120237041090560 t181 _ ?sidet A8.out).mono ?_); (case sidet => exact tz_ HT HB); rintro e w' ⟨rfl, ⟨nd, rfl⟩⟩; refine ⟨_, rfl, ?_⟩) | ((with_reducible refine gate_callee (f := 11) rfl ?_); refine goesL_ (some 19) rfl rfl Tryd.func11 (by kernel_rfl) rfl #[.int .u64 9221120237041090560] rfl (by (try simp only [List.map_toArray, List.map_cons, List.map_nil]); first | done | rfl | (simp only [List.length_drop, List.length_take]; rfl)) ?_; (with_reducible refine (vernierlaw40_text.calls k 9221120237041090560 t182 _ A9.out).mono ?_); rintro e w' ⟨rfl, ⟨nd, rfl⟩⟩; refine ⟨_, rfl, ?_⟩))
          go_ret
          exact ⟨by first | rfl | (simp [errW_none, errW_some] <;> rfl) | (simp [*, errW_none, errW_some] <;> rfl), by repeat (first | (with_reducible first | exact HB.out | apply below_alloc | apply pw_below_drewN | apply below_drew1) | exact HB.out)⟩
        · rw [if_neg c11] at H
          have c11b0 : (t179 == 0) = false := beq_eq_false_iff_ne.mpr c11
          have c11b1 : (t179 != 0) = true := bne_iff_ne.mpr c11
          exact absurd (Option.some.inj H) (by subst hT; decide)
      · rw [if_neg c10] at H
        have c10b0 : (t181.toList == t182.toList) = false := beq_eq_false_iff_ne.mpr c10
        have c10b1 : (t181.toList != t182.toList) = true := bne_iff_ne.mpr c10
        exact absurd (Option.some.inj H) (by subst hT; decide)
    · rw [if_neg c7] at H
      have c7b0 : (t180 == 3) = false := beq_eq_false_iff_ne.mpr c7
      have c7b1 : (t180 != 3) = true := bne_iff_ne.mpr c7
      replace H := Option.bind_eq_some_iff.mp H
      obtain ⟨t183, A130, H⟩ := H
      replace H : ((vernierlaw40_text.f k a0).bind fun t184 => (if t183.toList = t184.toList then (if t179 = 0 then (some (t178 == a0)) else (some false)) else (some false))) = some r := H
      have A13 := Aside0.mk A130
      clear A130
      replace H := Option.bind_eq_some_iff.mp H
      obtain ⟨t184, A140, H⟩ := H
      replace H : (if t183.toList = t184.toList then (if t179 = 0 then (some (t178 == a0)) else (some false)) else (some false)) = some r := H
      have A14 := Aside0.mk A140
      clear A140
      by_cases c15 : t183.toList = t184.toList
      · rw [if_pos c15] at H
        have c15b0 : (t183.toList == t184.toList) = true := beq_iff_eq.mpr c15
        have c15b1 : (t183.toList != t184.toList) = false := bne_eq_false_iff_eq.mpr c15
        clear c15
        by_cases c16 : t179 = 0
        · rw [if_pos c16] at H
          have c16b0 : (t179 == 0) = true := beq_iff_eq.mpr c16
          have c16b1 : (t179 != 0) = false := bne_eq_false_iff_eq.mpr c16
          clear c16
          obtain rfl := Option.some.inj H
          go_enter Tryd.func3, Tryd.ntmps3
          go_wp2_with (first | ((with_reducible refine gate_callee (f := 7) rfl ?_); refine goesL_ (some 5) rfl rfl Tryd.func7 (by kernel_rfl) rfl #[] rfl (by (try simp only [List.map_toArray, List.map_cons, List.map_nil]); first | done | rfl | (simp only [List.length_drop, List.length_take]; rfl)) ?_; (with_reducible refine (vernierlaw40_alive.calls k  true _ ?sidet A2.out).mono ?_); (case sidet => exact tz_ HT HB); rintro e w' ⟨rfl, ⟨nd, rfl⟩⟩; refine ⟨_, rfl, ?_⟩) | ((with_reducible refine gate_callee (f := 9) rfl ?_); refine goesL_ (some 9) rfl rfl Tryd.func9 (by kernel_rfl) rfl #[.int .u64 a0] rfl (by (try simp only [List.map_toArray, List.map_cons, List.map_nil]); first | done | rfl | (simp only [List.length_drop, List.length_take]; rfl)) ?_; (with_reducible refine (dump_Number.calls k a0 t177 _ ?sidet A4.out).mono ?_); (case sidet => exact tz_ HT HB); rintro e w' ⟨rfl, ⟨nd, rfl⟩⟩; refine ⟨_, rfl, ?_⟩) | ((with_reducible refine gate_callee (f := 8) rfl ?_); refine goesL_ (some 10) rfl rfl Tryd.func8 (by kernel_rfl) rfl #[.string t177] rfl (by (try simp only [List.map_toArray, List.map_cons, List.map_nil]); first | done | rfl | (simp only [List.length_drop, List.length_take]; rfl)) ?_; (with_reducible refine (dump_Parse.calls k t177 t178 t179 _ A5.out).mono ?_); rintro e w17 ⟨rfl, hb⟩; refine ⟨_, rfl, ?_⟩; have n0_ := Aside0.mk (below_step (by repeat (first | (with_reducible first | exact HB.out | apply below_alloc | apply pw_below_drewN | apply below_drew1) | exact HB.out)) hb); clear HB; have HB := n0_; clear n0_; (try clear hb); (try clear hb2); (try clear hk); (try clear hi)) | ((with_reducible refine gate_callee (f := 10) rfl ?_); refine goesL_ (some 14) rfl rfl Tryd.func10 (by kernel_rfl) rfl #[.int .u64 a0] rfl (by (try simp only [List.map_toArray, List.map_cons, List.map_nil]); first | done | rfl | (simp only [List.length_drop, List.length_take]; rfl)) ?_; (with_reducible refine (vernierref06_Class.calls k a0 t180 _ A6.out).mono ?_); rintro e w' ⟨rfl, ⟨nd, rfl⟩⟩; refine ⟨_, rfl, ?_⟩) | ((with_reducible refine gate_callee (f := 9) rfl ?_); refine goesL_ (some 17) rfl rfl Tryd.func9 (by kernel_rfl) rfl #[.int .u64 a0] rfl (by (try simp only [List.map_toArray, List.map_cons, List.map_nil]); first | done | rfl | (simp only [List.length_drop, List.length_take]; rfl)) ?_; (with_reducible refine (dump_Number.calls k a0 t183 _ ?sidet A13.out).mono ?_); (case sidet => exact tz_ HT HB); rintro e w' ⟨rfl, ⟨nd, rfl⟩⟩; refine ⟨_, rfl, ?_⟩) | ((with_reducible refine gate_callee (f := 11) rfl ?_); refine goesL_ (some 19) rfl rfl Tryd.func11 (by kernel_rfl) rfl #[.int .u64 a0] rfl (by (try simp only [List.map_toArray, List.map_cons, List.map_nil]); first | done | rfl | (simp only [List.length_drop, List.length_take]; rfl)) ?_; (with_reducible refine (vernierlaw40_text.calls k a0 t184 _ A14.out).mono ?_); rintro e w' ⟨rfl, ⟨nd, rfl⟩⟩; refine ⟨_, rfl, ?_⟩))
          go_ret
          exact ⟨by first | rfl | (simp [errW_none, errW_some] <;> rfl) | (simp [*, errW_none, errW_some] <;> rfl), by repeat (first | (with_reducible first | exact HB.out | apply below_alloc | apply pw_below_drewN | apply below_drew1) | exact HB.out)⟩
        · rw [if_neg c16] at H
          have c16b0 : (t179 == 0) = false := beq_eq_false_iff_ne.mpr c16
          have c16b1 : (t179 != 0) = true := bne_iff_ne.mpr c16
          exact absurd (Option.some.inj H) (by subst hT; decide)
      · rw [if_neg c15] at H
        have c15b0 : (t183.toList == t184.toList) = false := beq_eq_false_iff_ne.mpr c15
        have c15b1 : (t183.toList != t184.toList) = true := bne_iff_ne.mpr c15
        exact absurd (Option.some.inj H) (by subst hT; decide)
  · replace c3 := Bool.eq_false_iff.mpr c3
    subst c3
    have H1 : (some false) = some r := by rw [if_neg (show ¬ (false = true) by decide)] at H; exact H
    clear H
    have H := H1
    clear H1
    exact absurd (Option.some.inj H) (by subst hT; decide)
def nat_size.l0 : Nat → List Int → Int → Option (Int)
  | 0, _, _ => none
  | k + 1, x0, x3 => if x3 > 0 then (if 0 ≤ (wrap64 (x3 - 1)) then (if (wrap64 (x3 - 1)) < (x0.length : Int) then (if (rd x0 (wrap64 (x3 - 1))) = 0 then (nat_size.l0 k x0 (wrap64 (x3 - 1))) else (some x3)) else (none)) else (none)) else (some x3)
def nat_size.f (k : Nat) (l0 : List Int) : Option (Int) := nat_size.l0 k l0 (l0.length : Int)
def nat_Bits.f (k : Nat) (l0 : List Int) : Option (Int) := (nat_size.f k l0).bind fun t188 => (if t188 = 0 then (some 0) else (if 0 ≤ (wrap64 (t188 - 1)) then (if (wrap64 (t188 - 1)) < (l0.length : Int) then ((bits_Len64.f (rd l0 (wrap64 (t188 - 1)))).bind fun t190 => (some (wrap64 ((wrap64 (64 * (wrap64 (t188 - 1)))) + t190)))) else (none)) else (none)))
end Go.Proofs.YtpdjahhimmaonaaDoor.PD
