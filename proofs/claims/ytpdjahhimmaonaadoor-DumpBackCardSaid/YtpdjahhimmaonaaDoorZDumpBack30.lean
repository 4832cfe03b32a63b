/- dump.Matrix tells a matrix's text: its numbers' texts, a space between two of a row, a newline behind each row. -/
import Derived.Test.YtpdjahhimmaonaaDoorZDumpBack17
import Derived.Test.YtpdjahhimmaonaaDoorZDumpBack28
import Derived.Test.YtpdjahhimmaonaaDoorZDumpBack29
import Derived.Deep.QuietTactic
import Derived.BigQuiet
namespace Go.Proofs.YtpdjahhimmaonaaDoor.PE
open Go.RowKit Go.Proofs.YtpdjahhimmaonaaDoorW.PrintWords Go.Proofs.YtpdjahhimmaonaaDoorW.PrintLast Go.Proofs.YtpdjahhimmaonaaDoorW.PrintMore
set_option linter.unusedVariables false
set_option linter.unusedSimpArgs false
def dump_Matrix.l0 : Nat → Int → List Int → List UInt8 → Int → Option (List UInt8)
  | 0, _, _, _, _ => none
  | k + 1, c, l, s, i => if i < (l.length : Int) then (if 0 ≤ i then ((dump_Number.f k (rd l i)).bind fun t => (if s.length + t.size ≤ 100000000 then (if c = 0 then none else (if Int.tmod i c = wrap64 (c - 1) then (dump_Matrix.l0 k c l (s ++ t.data.toList ++ [10]) (wrap64 (i + 1))) else (dump_Matrix.l0 k c l (s ++ t.data.toList ++ [32]) (wrap64 (i + 1))))) else none)) else none) else some s
def dump_Matrix.f (k : Nat) (a0 a1 : Int) (l : List Int) : Option (ByteArray × Int) :=
  (shape_Check.f a0 a1 l).bind fun e => (if e = 0 then ((dump_Matrix.l0 k a1 l [] 0).bind fun s => (if (s.length : Int) > 65536 then some (⟨#[]⟩, 5) else some (⟨s.toArray⟩, 0))) else some (⟨#[]⟩, e))
theorem bd_drew {B b : Nat} {bs : List Value} {w : World} (h : BD B b bs w) (n : Nat) : BD B b bs (w.drewN n) := by
  rcases h with h | h
  · exact .inl h
  · exact .inr h
theorem bd_new {W : World} {b : Nat} (h : W.heap[b]? = some (.cells #[.pointer none, .slice none 0 0] 88 (0, 0))) : BD b b [] W := .inl ⟨Nat.le_refl _, _, h, World.ownsRow_nil _ _ _ _, by simp [Value.ownBlock]⟩
theorem byteCells_app (a b : List UInt8) : Lib.byteCells (a ++ b) = Lib.byteCells a ++ Lib.byteCells b := by unfold Lib.byteCells; rw [List.map_append]
theorem strCells_byte (t : ByteArray) : Lib.strCells t = Lib.byteCells t.data.toList := by rfl
theorem byteCells_len (a : List UInt8) : (Lib.byteCells a).length = a.length := by unfold Lib.byteCells; rw [List.length_map]
theorem bel_drewN {B : Nat} {w W : World} (h : Below B w W) (n : Nat) : Below B w (W.drewN n) := h.trans ⟨rfl, rfl, rfl, Nat.le_refl _, fun _ _ => rfl⟩
theorem bd_len_calls (B b : Nat) (l : List UInt8) (w : World) (h : BD B b (Lib.byteCells l) w) :
    Calls Tryd.prog 48 #[BP b] w fun e w' => e = .returned (.int .i64 l.length) ∧ w' = w := by
  have := sh_Builder_Len B b (Lib.byteCells l) w h
  rw [byteCells_len] at this
  exact this
set_option maxHeartbeats 8000000 in
set_option maxRecDepth 100000 in
theorem dump_Matrix.calls (k : Nat) (a0_0 : Int) (a0_1 : Int) (A0_2 : Option Addr) (c0_2 : Nat) (l0_2 : List Int) (r1 : ByteArray) (r2 : Int) (w : World) (hr0_2 : Kd.C (Kd.int .u64) w A0_2 l0_2.length l0_2) (hc0_2 : l0_2.length ≤ c0_2) (ht_ : Tz w) (h : dump_Matrix.f k a0_0 a0_1 l0_2 = some (r1, r2)) :
    Calls Tryd.prog 18 #[.agg #[.int .i64 a0_0, .int .i64 a0_1, .slice A0_2 l0_2.length c0_2]] w fun e w' => e = .returned (.tuple #[.string r1, .int .i64 r2]) ∧ Below w.heap.size w w' := by
  have HT := Aside0.mk ht_
  clear ht_
  have hu46 := Tryd.underlying46
  have HR := Aside0.mk hr0_2
  have HC := Aside0.mk hc0_2
  clear hr0_2 hc0_2
  have HB := Aside0.mk (Below.refl w.heap.size w)
  unfold dump_Matrix.f at h
  obtain ⟨e1, he, h1⟩ := Option.bind_eq_some_iff.mp h
  clear h
  have A1 := Aside0.mk he
  clear he
  by_cases c : e1 = 0
  · subst c
    rw [if_pos rfl] at h1
    obtain ⟨S, hS, h2⟩ := Option.bind_eq_some_iff.mp h1
    clear h1
    have A2 := Aside0.mk hS
    have HH := Aside0.mk h2
    clear hS h2
    go_enter Tryd.func18, Tryd.ntmps18
    go_wp2_with (first
      | ((with_reducible refine gate_dst (N := 1) rfl ?_); refine box_event ?hg (N := 1) ?hd (cs := #[.int .i64 a0_0, .int .i64 a0_1, .slice A0_2 l0_2.length c0_2]) (t := 46) ?hr ?_; (case hd => rfl); (case hg => rfl); (case hr => first | (go_simp; done) | (go_simp; rfl)); intro ga hg w1 hbox hb; have n0_ := Aside0.mk hb; have n1_ := Aside0.mk hbox; have n2_ := Aside0.mk (Nat.le_of_eq hg.symm); clear HB; have HB := n0_; have BK := n1_; have GA := n2_; have q0 := blk_cell hbox 0; have q1 := blk_cell hbox 1; have q2 := blk_cell hbox 2; clear n0_ n1_ n2_ hb hbox hg)
      | (go_at_call 19; (with_reducible refine (shape_Check.calls a0_0 a0_1 A0_2 c0_2 l0_2 0 _ ?s1 HC.out A1.out).mono ?_); (case s1 => exact Kd.C_below HR.out HB.out); rintro e w2 ⟨rfl, hb⟩; have n0_ := Aside0.mk (below_step HB.out hb); have n1_ := Aside0.mk (blk_below BK.out hb); clear HB BK q0 q1 q2 hb; have HB := n0_; have BK := n1_; clear n0_ n1_; have q0 := blk_cell BK.out 0; have q1 := blk_cell BK.out 1; have q2 := blk_cell BK.out 2)
      | ((with_reducible refine gate_dst (N := 5) rfl ?_); refine box_event ?hg (N := 5) ?hd (cs := #[.pointer none, .slice none 0 0]) (t := 88) ?hr ?_; (case hd => rfl); (case hg => rfl); (case hr => first | (go_simp; done) | (go_simp; rfl)); intro gb hg w3 hbox hb; have n0_ := Aside0.mk (below_step HB.out hb); have n1_ := Aside0.mk (blk_below BK.out hb); have n2_ := Aside0.mk (bd_new hbox); have n3_ := Aside0.mk (show ga < gb by rw [hg]; exact blk_lt BK.out); have n4_ := Aside0.mk (show w.heap.size ≤ gb by rw [hg]; exact HB.out.size); have n5_ := Aside0.mk (show gb ≤ w3.heap.size by rw [hg]; exact hb.size); clear HB BK q0 q1 q2 hb hbox hg; have HB := n0_; have BK := n1_; have HD := n2_; have GG := n3_; have GB := n4_; have GS := n5_; clear n0_ n1_ n2_ n3_ n4_ n5_; have q0 := blk_cell BK.out 0; have q1 := blk_cell BK.out 1; have q2 := blk_cell BK.out 2))
    go_loopg [16] k (fun kq v16 w' => ∃ (i : Int) (s : List UInt8), v16 = .int .i64 i ∧ Aside0 (dump_Matrix.l0 kq a0_1 l0_2 s i = some S) ∧ Aside0 (kq ≤ k) ∧ Aside0 (BD gb gb (Lib.byteCells s) w') ∧ Aside0 (Below gb w3 w'))
    case atStart => exact ⟨0, [], rfl, A2, ⟨Nat.le_refl _⟩, HD, ⟨Below.refl _ _⟩⟩
    case round =>
      clear A2 HD q0 q1 q2
      obtain ⟨i, s, rfl, HA, HK1, HD, HS⟩ := hrel
      have q0 := blk_cell ((HS.out.block _ GG.out).trans BK.out) 0
      have q1 := blk_cell ((HS.out.block _ GG.out).trans BK.out) 1
      have q2 := blk_cell ((HS.out.block _ GG.out).trans BK.out) 2
      cases gk with
      | zero => exact absurd HA.out (by simp [dump_Matrix.l0])
      | succ k1 =>
        have H := HA.out
        clear HA
        simp only [dump_Matrix.l0] at H
        by_cases c2 : i < (l0_2.length : Int)
        · rw [if_pos c2] at H
          have c2b0 : decide (i < (l0_2.length : Int)) = true := decide_eq_true c2
          by_cases c3 : 0 ≤ i
          · rw [if_pos c3] at H
            obtain ⟨t, ht, H1⟩ := Option.bind_eq_some_iff.mp H
            clear H
            have A3 := Aside0.mk ht
            clear ht
            by_cases c4 : s.length + t.size ≤ 100000000
            case neg => rw [if_neg c4] at H1; cases H1
            rw [if_pos c4] at H1
            have HL := Aside0.mk c4
            clear c4
            by_cases c5 : a0_1 = 0
            case pos => rw [if_pos c5] at H1; cases H1
            rw [if_neg c5] at H1
            have c5b0 : (a0_1 == 0) = false := beq_eq_false_iff_ne.mpr c5
            have HBw := Aside0.mk (HB.out.trans (HS.out.mono GB.out))
            obtain ⟨ad, ead, hx⟩ := Kd.at_int HR.out i c3 c2
            cases ead
            replace hx := (HBw.out.cell (World.block_lt_of_cell? w _ hx)).trans hx
            have c3t := eq_true c3
            have c2t := eq_true c2
            clear c2 c3
            by_cases c6 : Int.tmod i a0_1 = wrap64 (a0_1 - 1)
            · rw [if_pos c6] at H1
              have H' := Aside0.mk H1
              have c6b0 : (Int.tmod i a0_1 == wrap64 (a0_1 - 1)) = true := beq_iff_eq.mpr c6
              clear H1 c6
              go_wp2_with (first
                    | (go_at_call 9; (with_reducible refine (dump_Number.calls k1 (rd l0_2 i) t _ ?s1 A3.out).mono ?_); (case s1 => exact HT.out.of HBw.out); rintro e w4 ⟨rfl, ⟨nd, rfl⟩⟩)
                    | (go_at_call 46; (with_reducible refine (bd_string_calls gb gb (Lib.byteCells s) t _ ?s1 ?s2 ?s3).mono ?_); (case s1 => exact bd_drew HD.out _); (case s2 => rw [byteCells_len]; have := HL.out; omega); (case s3 => exact Nat.le_trans GS.out HS.out.size); rintro e w5 ⟨rfl, hd, hb⟩; have n0_ := Aside0.mk ((bel_drewN HS.out _).trans hb); have n1_ := Aside0.mk (show BD gb gb (Lib.byteCells (s ++ t.data.toList)) _ by rw [byteCells_app, ← strCells_byte]; exact hd); clear HS HD HBw q0 q1 q2 hx hb hd; have HS := n0_; have HD := n1_; clear n0_ n1_; have q0 := blk_cell ((HS.out.block _ GG.out).trans BK.out) 0; have q1 := blk_cell ((HS.out.block _ GG.out).trans BK.out) 1; have q2 := blk_cell ((HS.out.block _ GG.out).trans BK.out) 2))
              repeat (go_quiet (fail); go_wp2_with (go_at_call 47; (with_reducible refine (bd_byte_calls gb gb (Lib.byteCells (s ++ t.data.toList)) 10 _ ?s1 ?s2 ?s3).mono ?_); (case s1 => exact bd_drew HD.out _); (case s2 => rw [byteCells_len, List.length_append]; have h1_ := HL.out; have h2_ : t.size = t.data.toList.length := Lib.size_eq t; omega); (case s3 => exact Nat.le_trans GS.out HS.out.size); rintro e w6 ⟨rfl, hd, hb⟩; have n0_ := Aside0.mk ((bel_drewN HS.out _).trans hb); have n1_ := Aside0.mk (show BD gb gb (Lib.byteCells (s ++ t.data.toList ++ [10])) _ by rw [byteCells_app]; exact hd); clear HS HD q0 q1 q2 hb hd; have HS := n0_; have HD := n1_; clear n0_ n1_))
              go_roundg k1
              case measure => have := HK1.out; omega
              case rel => exact ⟨wrap64 (i + 1), s ++ t.data.toList ++ [10], by first | rfl | (simp; done), H', ⟨by have := HK1.out; omega⟩, HD, HS⟩
            · rw [if_neg c6] at H1
              have H' := Aside0.mk H1
              have c6b0 : (Int.tmod i a0_1 == wrap64 (a0_1 - 1)) = false := beq_eq_false_iff_ne.mpr c6
              clear H1 c6
              go_wp2_with (first
                    | (go_at_call 9; (with_reducible refine (dump_Number.calls k1 (rd l0_2 i) t _ ?s1 A3.out).mono ?_); (case s1 => exact HT.out.of HBw.out); rintro e w4 ⟨rfl, ⟨nd, rfl⟩⟩)
                    | (go_at_call 46; (with_reducible refine (bd_string_calls gb gb (Lib.byteCells s) t _ ?s1 ?s2 ?s3).mono ?_); (case s1 => exact bd_drew HD.out _); (case s2 => rw [byteCells_len]; have := HL.out; omega); (case s3 => exact Nat.le_trans GS.out HS.out.size); rintro e w5 ⟨rfl, hd, hb⟩; have n0_ := Aside0.mk ((bel_drewN HS.out _).trans hb); have n1_ := Aside0.mk (show BD gb gb (Lib.byteCells (s ++ t.data.toList)) _ by rw [byteCells_app, ← strCells_byte]; exact hd); clear HS HD HBw q0 q1 q2 hx hb hd; have HS := n0_; have HD := n1_; clear n0_ n1_; have q0 := blk_cell ((HS.out.block _ GG.out).trans BK.out) 0; have q1 := blk_cell ((HS.out.block _ GG.out).trans BK.out) 1; have q2 := blk_cell ((HS.out.block _ GG.out).trans BK.out) 2))
              repeat (go_quiet (fail); go_wp2_with (go_at_call 47; (with_reducible refine (bd_byte_calls gb gb (Lib.byteCells (s ++ t.data.toList)) 32 _ ?s1 ?s2 ?s3).mono ?_); (case s1 => exact bd_drew HD.out _); (case s2 => rw [byteCells_len, List.length_append]; have h1_ := HL.out; have h2_ : t.size = t.data.toList.length := Lib.size_eq t; omega); (case s3 => exact Nat.le_trans GS.out HS.out.size); rintro e w6 ⟨rfl, hd, hb⟩; have n0_ := Aside0.mk ((bel_drewN HS.out _).trans hb); have n1_ := Aside0.mk (show BD gb gb (Lib.byteCells (s ++ t.data.toList ++ [32])) _ by rw [byteCells_app]; exact hd); clear HS HD q0 q1 q2 hb hd; have HS := n0_; have HD := n1_; clear n0_ n1_))
              go_roundg k1
              case measure => have := HK1.out; omega
              case rel => exact ⟨wrap64 (i + 1), s ++ t.data.toList ++ [32], by first | rfl | (simp; done), H', ⟨by have := HK1.out; omega⟩, HD, HS⟩
          · rw [if_neg c3] at H
            cases H
        · rw [if_neg c2] at H
          have c2b0 : decide (i < (l0_2.length : Int)) = false := decide_eq_false c2
          clear c2
          obtain rfl := Option.some.inj H
          clear H
          have h2 := HH.out
          clear HH
          by_cases c7 : (s.length : Int) > 65536
          · rw [if_pos c7] at h2
            obtain ⟨rfl, rfl⟩ := Prod.mk.inj (Option.some.inj h2)
            clear h2
            have c7b0 : decide ((s.length : Int) > 65536) = true := decide_eq_true c7
            clear c7
            go_wp2_with (go_at_call 48; refine (bd_len_calls gb gb s _ HD.out).mono ?_; rintro e w4 ⟨rfl, rfl⟩)
            go_ret2
            exact ⟨rfl, HB.out.trans (HS.out.mono GB.out)⟩
          · rw [if_neg c7] at h2
            obtain ⟨rfl, rfl⟩ := Prod.mk.inj (Option.some.inj h2)
            clear h2
            have c7b0 : decide ((s.length : Int) > 65536) = false := decide_eq_false c7
            clear c7
            go_wp2_with (first
              | (go_at_call 48; refine (bd_len_calls gb gb s _ HD.out).mono ?_; rintro e w4 ⟨rfl, rfl⟩)
              | (go_at_call 49; refine (sh_Builder_String_any gb gb s _ HD.out ?s1).mono ?_; (case s1 => exact Nat.le_trans GS.out HS.out.size); rintro e w5 ⟨rfl, hb⟩))
            go_ret2
            exact ⟨rfl, HB.out.trans ((HS.out.trans hb).mono GB.out)⟩
  · rw [if_neg c] at h1
    obtain ⟨rfl, rfl⟩ := Prod.mk.inj (Option.some.inj h1)
    clear h1
    have cb : (e1 != 0) = true := bne_iff_ne.mpr c
    clear c
    go_enter Tryd.func18, Tryd.ntmps18
    go_wp2_with (first
      | ((with_reducible refine gate_dst (N := 1) rfl ?_); refine box_event ?hg (N := 1) ?hd (cs := #[.int .i64 a0_0, .int .i64 a0_1, .slice A0_2 l0_2.length c0_2]) (t := 46) ?hr ?_; (case hd => rfl); (case hg => rfl); (case hr => first | (go_simp; done) | (go_simp; rfl)); intro ga hg w1 hbox hb; have n0_ := Aside0.mk hb; clear HB; have HB := n0_; have q0 := blk_cell hbox 0; have q1 := blk_cell hbox 1; have q2 := blk_cell hbox 2; clear n0_ hb hbox hg)
      | (go_at_call 19; (with_reducible refine (shape_Check.calls a0_0 a0_1 A0_2 c0_2 l0_2 e1 _ ?s1 HC.out A1.out).mono ?_); (case s1 => exact Kd.C_below HR.out HB.out); rintro e w2 ⟨rfl, hb⟩; have n0_ := Aside0.mk (below_step HB.out hb); clear HB q0 q1 q2 hb; have HB := n0_; clear n0_))
    go_ret2
    exact ⟨rfl, HB.out⟩
end Go.Proofs.YtpdjahhimmaonaaDoor.PE
