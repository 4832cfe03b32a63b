/- dump.row tells the numbers of a line, or that one is none. -/
import Derived.Test.YtpdjahhimmaonaaDoorZDumpBack27
import Derived.Test.YtpdjahhimmaonaaDoorZDumpBack30
import Derived.Test.YtpdjahhimmaonaaDoorZDumpBack31
import Derived.Lib.Split
import Derived.Lib.SplitLaws
namespace Go.Proofs.YtpdjahhimmaonaaDoor.PE
open Go.RowKit Go.Proofs.YtpdjahhimmaonaaDoorW.PrintWords Go.Proofs.YtpdjahhimmaonaaDoorW.PrintLast Go.Proofs.YtpdjahhimmaonaaDoorW.PrintMore
set_option linter.unusedVariables false
set_option linter.unusedSimpArgs false
def dump_row.l0 : Nat → List (List UInt8) → List Int → Int → Option (List Int × Bool)
  | 0, _, _, _ => none
  | k + 1, ps, o, i => if i < (ps.length : Int) then (if 0 ≤ i then ((dump_Parse.f k (tb (ps.getD i.toNat []))).bind fun x => (if x.2 = 0 then (if o.length < 100000000 then (dump_row.l0 k ps (o ++ [x.1]) (wrap64 (i + 1))) else none) else some ([], false))) else none) else some (o, true)
def dump_row.f (k : Nat) (s : ByteArray) : Option (List Int × Bool) := if s.size < 4294967281 then dump_row.l0 k (sp 32 s.data.toList) [] 0 else none
set_option maxHeartbeats 8000000 in
set_option maxRecDepth 100000 in
theorem dump_row.calls (k : Nat) (a0 : ByteArray) (r1 : List Int) (r2 : Bool) (w : World) (ht_ : Tz w) (h : dump_row.f k a0 = some (r1, r2)) :
    Calls Tryd.prog 53 #[.string a0] w fun e w' => ∃ v1_ : Value, e = .returned (.tuple #[v1_, .bool r2]) ∧ Kd.R (Kd.int .u64) 22 w' w.heap.size (fun _ => True) v1_ r1 ∧ Below w.heap.size w w' := by
  unfold dump_row.f at h
  by_cases c : a0.size < 4294967281
  case neg => rw [if_neg c] at h; cases h
  rw [if_pos c] at h
  have HS0 := Aside0.mk c
  have MX := Aside0.mk ht_.2
  clear ht_ c
  have A1 := Aside0.mk h
  clear h
  go_enter Tryd.func53, Tryd.ntmps53
  go_wp2_with (go_at_call 52; refine (split_calls a0 32 _ HS0.out MX.out).mono ?_; rintro e w1 ⟨ad, rfl, hcell, hb⟩; have HC := Aside0.mk hcell; have HB := Aside0.mk hb; clear hcell hb)
  go_loopg [4, 12] k (fun kq v4 v12 w' => ∃ (i : Int) (o : List Int), v12 = .int .i64 i ∧ Aside0 (dump_row.l0 kq (sp 32 a0.data.toList) o i = some (r1, r2)) ∧ Aside0 (kq ≤ k) ∧ Aside0 (Kd.R (Kd.int .u64) 22 w' w1.heap.size (fun _ => True) v4 o) ∧ Aside0 (Below w1.heap.size w1 w'))
  case atStart => exact ⟨0, [], rfl, A1, ⟨Nat.le_refl _⟩, ⟨Kd.R_nil _ _ _ _ _⟩, ⟨Below.refl _ _⟩⟩
  case round =>
    clear A1
    obtain ⟨i, o, rfl, HA, HK1, HO, HS⟩ := hrel
    cases gk with
    | zero => exact absurd HA.out (by simp [dump_row.l0])
    | succ k1 =>
      have H := HA.out
      clear HA
      simp only [dump_row.l0] at H
      by_cases c2 : i < ((sp 32 a0.data.toList).length : Int)
      · rw [if_pos c2] at H
        have c2b0 : decide (i < ((sp 32 a0.data.toList).length : Int)) = true := decide_eq_true c2
        by_cases c3 : 0 ≤ i
        · rw [if_pos c3] at H
          obtain ⟨⟨x, e⟩, hp, H1⟩ := Option.bind_eq_some_iff.mp H
          clear H
          have hx := HC.out i.toNat (by omega)
          generalize (sp 32 a0.data.toList).getD i.toNat [] = p at hx hp
          have A3 := Aside0.mk hp
          clear hp
          replace hx := (HS.out.cell (World.block_lt_of_cell? w1 _ hx)).trans hx
          have c3t := eq_true c3
          have c2t := eq_true c2
          clear c2 c3
          by_cases c4 : e = 0
          · subst c4
            rw [if_pos rfl] at H1
            by_cases c5 : o.length < 100000000
            case neg => rw [if_neg c5] at H1; cases H1
            rw [if_pos c5] at H1
            have HL := Aside0.mk c5
            have H' := Aside0.mk H1
            clear c5 H1
            go_wp2_with (first
              | (go_at_call 8; (with_reducible refine (dump_Parse.calls k1 _ x 0 _ A3.out).mono ?_); rintro e w4 ⟨rfl, hb⟩; have n0_ := Aside0.mk (below_step HS.out hb); have n1_ := Aside0.mk (Kd.R_below HO.out hb); clear HS HO hx hb; have HS := n0_; have HO := n1_; clear n0_ n1_)
              | ((with_reducible refine gate_builtin (b := .append) (xs := #[.tmp 23, .tmp 25]) rfl ?_); at_builtin; refine Kd.R_append (Kd.int .u64) (w0 := w1) w1.heap.size rfl (.tmp 23) (.tmp 25) 30 22 (.int .u64 0) 8 rfl Tryd.underlying30 (by kernel_rfl) rfl (by decide) (by omega) u4 o x [.int .u64 x] (fun _ => True) (fun _ => False) rfl rfl ?aP (fun _ hk => hk.elim) ?aF ?aO ?aB ?aS ?aL ?_; (case aP => exact rfl); (case aB => exact (by repeat (first | (with_reducible first | exact HS.out | apply below_alloc | apply pw_below_drewN | apply below_drew1) | exact HS.out))); (case aF => exact (fun _ _ => trivial)); (case aO => exact (by (with_reducible repeat (first | apply Kd.R_alloc | apply Kd.R_drewN | apply Kd.R_drew)); exact HO.out)); (case aS => exact (below_size (by repeat (first | (with_reducible first | exact HS.out | apply below_alloc | apply pw_below_drewN | apply below_drew1) | exact HS.out)))); (case aL => have := HL.out; omega); intro v1 w5 ho hb hg hat; have n0_ := Aside0.mk (hb); have n1_ := Aside0.mk (ho); clear HS HO; have HS := n0_; have HO := n1_; clear n0_ n1_; clear ho hb hg hat))
            go_roundg k1
            case measure => have := HK1.out; omega
            case rel => exact ⟨wrap64 (i + 1), o ++ [x], by first | rfl | (simp; done), H', ⟨by have := HK1.out; omega⟩, HO, HS⟩
          · rw [if_neg c4] at H1
            obtain ⟨rfl, rfl⟩ := Prod.mk.inj (Option.some.inj H1)
            clear H1
            have c4b0 : (e != 0) = true := bne_iff_ne.mpr c4
            clear c4
            go_wp2_with (go_at_call 8; (with_reducible refine (dump_Parse.calls k1 _ x e _ A3.out).mono ?_); rintro e w4 ⟨rfl, hb⟩; have n0_ := Aside0.mk (below_step HS.out hb); clear HS HO hx hb; have HS := n0_; clear n0_)
            go_ret2
            exact ⟨_, rfl, Kd.R_nil _ _ _ _ _, below_step HB.out HS.out⟩
        · rw [if_neg c3] at H
          cases H
      · rw [if_neg c2] at H
        have c2b0 : decide (i < ((sp 32 a0.data.toList).length : Int)) = false := decide_eq_false c2
        clear c2
        obtain ⟨rfl, rfl⟩ := Prod.mk.inj (Option.some.inj H)
        clear H
        go_wp2
        go_ret2
        exact ⟨_, rfl, Kd.R_lower HO.out HB.out.size, below_step HB.out HS.out⟩
end Go.Proofs.YtpdjahhimmaonaaDoor.PE
