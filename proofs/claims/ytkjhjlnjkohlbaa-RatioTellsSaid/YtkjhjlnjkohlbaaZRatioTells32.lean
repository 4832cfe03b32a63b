/- natdiv.DivMod answers a quotient and a rest, digit by digit from the highest one on: contract of the Go function. -/
import Derived.Test.YtkjhjlnjkohlbaaZRatioTells30
import Derived.Test.YtkjhjlnjkohlbaaZRatioTells31
import Derived.RangeFuncNested
import Derived.RangeFuncBound
import Derived.RangeFuncCalls
import Derived.RangeFuncLeaves
import Derived.Shelf.Abstract
import Derived.Shelf.RegionOpen
import Derived.OwnWalkIn
import Derived.TacticsInMore
import Derived.LoopNIn
import Derived.LoopIn
import Derived.Lib.Hide
import Derived.Outline
namespace Go.Proofs.Ytkjhjlnjkohlbaa.PR
open Go.RowKit Go.Shelf Go.Proofs.YtkjhjlnjkohlbaaW.PrintWords Go.Proofs.YtkjhjlnjkohlbaaW.PrintLast Go.Proofs.YtkjhjlnjkohlbaaW.PrintMore
set_option linter.unusedVariables false
set_option linter.unusedSimpArgs false
attribute [local go_sem] Oper.semAt_some
def dmGo (k : Nat) (n d : List Int) : Nat → List Int → List Int → Option (List Int × List Int)
 | 0, q, r => some (q, r)
 | i + 1, q, r => if r.length ≤ 1000000000000 then (nat_Norm.f k (rd n (i : Int) :: r)).bind fun r1 => (natdiv_digit.f k r1 d).bind fun p => dmGo k n d i (q.set i p.1) p.2 else none
def natdiv_DivMod.f (k : Nat) (l0 l1 : List Int) : Option (List Int × List Int × Int) :=
 (nat_Norm.f k l1).bind fun d0 => if d0.length = 0 then some ([], [], 7) else
  (bits_LeadingZeros64.f (rd d0 ((d0.length : Int) - 1))).bind fun s => (natdiv_shl.f k d0 s).bind fun d => (natdiv_shl.f k l0 s).bind fun n =>
   if n.length ≤ 1000000000000 then (dmGo k n d n.length (List.replicate n.length 0) []).bind fun p => (nat_Norm.f k p.1).bind fun q => (natdiv_shr.f k p.2 s).bind fun r => some (q, r, 0) else none
theorem R_noncells {α : Type} {d : Kd α} {e : Nat} {w w1 : World} {base : Nat} {ok : Nat → Prop} {v : Value} {xs : List α} {row : Option Nat} (h : d.R e w base ok v xs) (hg : w.grownBy w1 row) (hr : ∀ r, row = some r → ∃ o : Obj, w.heap[r]? = some o ∧ o.isCells = false) : d.R e w1 base ok v xs :=
 Kd.R_mono (Kd.R_grown (Kd.R_bound h) hg (fun k hk e => by
  obtain ⟨_, _, _, q, _, cells, hc⟩ := hk
  obtain ⟨o, ho, hn⟩ := hr k e.symm
  rw [hc] at ho
  cases ho
  cases hn)) (fun _ hk => hk.1)
def dmI (w : World) (k b7 lo : Nat) (A3 : Option Addr) (cd3 : Nat) (d : List Int) (A4 : Option Addr) (cn : Nat) (n : List Int) (fin : List Int × List Int) (j : Nat) (W : World) : Prop :=
 ∃ (q r : List Int) (vr : Value), q.length = n.length ∧ Boxed W b7 22 (.slice A3 d.length cd3) ∧ Boxed W lo 22 (.slice A4 n.length cn) ∧ Boxed W (lo + 1 + 1) 22 (.slice (some ⟨lo + 1, 0, none⟩) n.length n.length) ∧ Boxed W (lo + 1 + 1 + 1) 22 vr ∧ Boxed W (lo + 1 + 1 + 1 + 1) 22 (.slice A4 n.length cn) ∧
  Kd.R (Kd.int .u64) 35 W w.heap.size (fun k => k = lo + 1) (.slice (some ⟨lo + 1, 0, none⟩) n.length n.length) q ∧ Kd.R (Kd.int .u64) 35 W w.heap.size (fun k => k < lo) (.slice A3 d.length cd3) d ∧ Kd.R (Kd.int .u64) 35 W w.heap.size (fun k => k < lo) (.slice A4 n.length cn) n ∧
  Kd.R (Kd.int .u64) 35 W w.heap.size (fun k => lo + 5 ≤ k) vr r ∧ Below w.heap.size w W ∧ dmGo k n d (n.length - j) q r = some fin
theorem dmI_own {w : World} {k b7 lo : Nat} {A3 : Option Addr} {cd3 : Nat} {d : List Int} {A4 : Option Addr} {cn : Nat} {n : List Int} {fin : List Int × List Int} {D : Nat} (hw : w.heap.size ≤ D) (h7 : b7 < D) (hD : D = lo + 5) : OwnFrom D (dmI w k b7 lo A3 cd3 d A4 cn n fin) := by
 rintro j W W' row ⟨q, r, vr, hq, g7, g9, g10, g11, gB, hQ, hd, hn, hR, hb, hg⟩ hgr hrow
 have hne : ∀ b, b < D → some b ≠ row := fun b hb e => by have := (hrow b e.symm).1; omega
 have hnc : ∀ r, row = some r → ∃ o : Obj, W.heap[r]? = some o ∧ o.isCells = false := fun r e => (hrow r e).2
 exact ⟨q, r, vr, hq, g7.kept hgr (hne _ h7), g9.kept hgr (hne _ (by omega)), g10.kept hgr (hne _ (by omega)), g11.kept hgr (hne _ (by omega)), gB.kept hgr (hne _ (by omega)),
  R_noncells hQ hgr hnc, R_noncells hd hgr hnc, R_noncells hn hgr hnc, R_noncells hR hgr hnc, hb.grown hgr hb.size (fun k e => Nat.le_trans hw (hrow k e).1), hg⟩
theorem R_kept {α : Type} {d : Kd α} {e : Nat} {w w1 : World} {base : Nat} {ok S : Nat → Prop} {v : Value} {xs : List α} (h : d.R e w base ok v xs) (hk : Kept w w1 S) (hs : ∀ k, ok k → ¬ S k) : d.R e w1 base ok v xs :=
 Kd.R_step h (fun k ho hl => hk.2 k hl (hs k ho))
theorem R_only {e : Nat} {w : World} {base : Nat} {ok ok' : Nat → Prop} {v : Value} {xs : List Int} (h : Kd.R (Kd.int .u64) e w base ok v xs) (hok : ∀ k, v.ownBlock = some k → base ≤ k → k < w.heap.size → ok k → ok' k) : Kd.R (Kd.int .u64) e w base ok' v xs :=
 Kd.R_of_own (Kd.own_of_R h) (fun k hk => hok k hk (Kd.R_base h k hk) (Kd.R_lt h k hk) (h.1 k hk))
set_option maxRecDepth 100000 in
set_option maxHeartbeats 4000000 in
theorem natdiv_DivMod.calls (k : Nat) (A0 : Option Addr) (c0 : Nat) (l0 : List Int) (A1 : Option Addr) (c1 : Nat) (l1 : List Int) (r1 r2 : List Int) (r3 : Int) (w : World) (hr0 : Kd.C (Kd.int .u64) w A0 l0.length l0) (hc0 : l0.length ≤ c0) (hr1 : Kd.C (Kd.int .u64) w A1 l1.length l1) (hc1 : l1.length ≤ c1) (h : natdiv_DivMod.f k l0 l1 = some (r1, r2, r3)) :
  Calls Try.prog 45 #[.slice A0 l0.length c0, .slice A1 l1.length c1] w fun e w' => ∃ v0_ v1_ : Value, e = .returned (.tuple #[v0_, v1_, .int .i64 r3]) ∧ Kd.R (Kd.int .u64) 35 w' w.heap.size (fun k_ => some k_ ≠ (v1_ : Value).ownBlock) v0_ r1 ∧ Kd.R (Kd.int .u64) 35 w' w.heap.size (fun k_ => some k_ ≠ (v0_ : Value).ownBlock) v1_ r2 ∧ Below w.heap.size w w' := by
 unfold natdiv_DivMod.f at h
 obtain ⟨d0, hd0, h⟩ := Option.bind_eq_some_iff.mp h
 have HR0 := Aside0.mk hr0
 have HR1 := Aside0.mk hr1
 have HD0 := Aside0.mk hd0
 have Hh := Aside0.mk h
 clear hr0 hr1 hd0 h
 refine (callsIn_wide (n := 6)).1 ?_
 refine callsIn_of_wp_marks Try.func45 rfl trivial ?_ rfl
 simp only [Try.ntmps45, List.size_toArray, List.length_cons, List.length_nil, Nat.reduceAdd, Nat.reduceSub, Array.replicate_succ, Array.replicate_zero, List.push_toArray, List.append_toArray, List.nil_append, List.cons_append]
 gi_wp2_with fail
 refine ⟨trivial, ?_⟩
 refine (callsIn_wide.2 (nat_Norm.calls k A1 c1 l1 d0 _ HR1.out hc1 HD0.out)).mono ?_
 rintro e w1 ⟨v0, rfl, ho0, hb1⟩
 obtain ⟨Ad, cd, rfl⟩ := Kd.R_slice ho0
 have HO0 := Aside0.mk ho0
 have HB1 := Aside0.mk hb1
 have hsz1 : w.heap.size ≤ w1.heap.size := hb1.size
 clear ho0 hb1
 have h := Hh.out
 clear Hh HD0 HR1
 by_cases hz : d0.length = 0
 ·
  rw [if_pos hz] at h
  simp only [Option.some.injEq, Prod.mk.injEq] at h
  obtain ⟨rfl, rfl, rfl⟩ := h
  obtain rfl : d0 = [] := List.length_eq_zero_iff.1 hz
  have HB2 := Aside0.mk (show Below w.heap.size w ((w1.alloc (.cells #[.slice none 0 0] 22)).setCell ⟨w1.heap.size, 0, none⟩ (.slice Ad 0 cd)) from (HB1.out.alloc hsz1 _).setCell (p := ⟨w1.heap.size, 0, none⟩) hsz1 _)
  gi_wp2_with fail
  refine ⟨.tuple #[.slice none 0 0, .slice none 0 0, .int .i64 7], ?_, ⟨_, _, rfl, Kd.R_nil _ _ _ _ _, Kd.R_nil _ _ _ _ _, HB1.out.alloc hsz1 _⟩⟩
  simp [results, Try.f45, go_sem]
 ·
  rw [if_neg hz] at h
  obtain ⟨s, hs, h⟩ := Option.bind_eq_some_iff.mp h
  obtain ⟨d, hd, h⟩ := Option.bind_eq_some_iff.mp h
  obtain ⟨n, hn, h⟩ := Option.bind_eq_some_iff.mp h
  have HS := Aside0.mk hs
  have HD := Aside0.mk hd
  have HN := Aside0.mk hn
  have Hh := Aside0.mk h
  have hRd := Kd.reads_of_C (d := (0 : Int)) (Kd.R_reads' HO0.out).2.2
  have hRd : ReadsInt w1 .u64 Ad d0.length d0 := hRd
  have hm0 : d0.length ≤ 9223372036854775807 := hRd.2.1
  obtain ⟨ad, he, hcell⟩ := (hRd.below (below_alloc (Below.refl _ _) (.cells #[.slice Ad d0.length cd] 22))).at_ ((d0.length : Int) - 1) (by omega) (by omega)
  cases he
  have hp0 : 0 < d0.length := by omega
  have hn0 : ((d0.length : Int) == 0) = false := by rw [beq_eq_false_iff_ne]; omega
  clear hs hd hn h hRd hz
  rw [show ((d0.length : Int) - 1).toNat = d0.length - 1 by omega] at hcell
  gi_wp2_with fail
  refine ⟨trivial, ?_⟩
  refine (callsIn_wide.2 (bits_LeadingZeros64.calls _ s _ HS.out)).mono ?_
  rintro e w2 ⟨rfl, ⟨d1, rfl⟩⟩
  obtain ⟨W2, hW2⟩ : ∃ W2, (w1.alloc (.cells #[.slice (some ad) d0.length cd] 22)).drewN d1 = W2 := ⟨_, rfl⟩
  have b7 : Boxed W2 w1.heap.size 22 (.slice (some ad) d0.length cd) := by rw [← hW2]; exact Boxed.new _ _ _
  have hB2 : Below w.heap.size w W2 := by rw [← hW2]; exact pw_below_drewN (HB1.out.alloc hsz1 _) _
  have hC2 : Kd.C (Kd.int .u64) W2 (some ad) d0.length d0 := by rw [← hW2]; exact Kd.C_drewN (Kd.C_alloc (Kd.R_reads' HO0.out).2.2 _) _
  have hl2 : d0.length ≤ cd := (Kd.R_reads' HO0.out).2.1
  rw [hW2]
  clear hW2 hcell HO0 HB1
  have hz2 : w1.heap.size < W2.heap.size := b7.lt
  have HB7 := Aside0.mk b7
  have HB2 := Aside0.mk hB2
  have HC2 := Aside0.mk hC2
  have c7 := b7.cell
  clear b7 hB2 hC2
  gi_wp2_with fail
  refine ⟨trivial, ?_⟩
  refine (callsIn_wide.2 (natdiv_shl.calls k (some ad) cd d0 s d W2 HC2.out hl2 HD.out)).mono ?_
  rintro e w3 ⟨v3, rfl, ho3, hb3⟩
  obtain ⟨A3, cd3, rfl⟩ := Kd.R_slice ho3
  have b7 : Boxed w3 w1.heap.size 22 (.slice (some ad) d0.length cd) := (hb3.block _ hz2).trans HB7.out
  have f7 := b7.frozen
  have c7' := b7.cell
  have hz3 : W2.heap.size ≤ w3.heap.size := hb3.size
  have hB3 : Below w.heap.size w w3 := HB2.out.trans (hb3.mono HB2.out.size)
  have HO3 := Aside0.mk ho3
  have HB7' := Aside0.mk b7
  have HB3 := Aside0.mk hB3
  clear b7 ho3 hb3 hB3 HC2 HB7 HB2 c7
  gi_wp2_with fail
  refine ⟨trivial, ?_⟩
  obtain ⟨W3, hW3⟩ : ∃ W3, w3.setCell ⟨w1.heap.size, 0, none⟩ (.slice A3 d.length cd3) = W3 := ⟨_, rfl⟩
  have hs3 : W3.heap.size = w3.heap.size := by rw [← hW3]; exact World.size_setCell _ _ _
  have b7 : Boxed W3 w1.heap.size 22 (.slice A3 d.length cd3) := by rw [← hW3]; exact HB7'.out.set _
  have hB3 : Below w.heap.size w W3 := by rw [← hW3]; exact HB3.out.setCell (p := ⟨w1.heap.size, 0, none⟩) hsz1 _
  have ty32 : ∀ q, q ∈ 35 :: (Kd.int .u64).E → q ≠ 22 := by
   intro q hq
   rcases List.mem_cons.1 hq with rfl | hq
   ·
    decide
   ·
    cases hq
  have hO3 : Kd.R (Kd.int .u64) 35 W3 W2.heap.size (fun _ => True) (.slice A3 d.length cd3) d := by rw [← hW3]; exact Kd.R_set HO3.out HB7'.out ty32 0 _
  rw [hW3]
  clear hW3 HO3 HB3 c7' f7 HB7'
  have HB3 := Aside0.mk hB3
  have HO3 := Aside0.mk hO3
  have HB7 := Aside0.mk b7
  refine (callsIn_wide.2 (natdiv_shl.calls k A0 c0 l0 s n W3 (Kd.C_below HR0.out hB3) hc0 HN.out)).mono ?_
  clear b7 hO3 hB3
  rintro e w4 ⟨v4, rfl, ho4, hb4⟩
  obtain ⟨A4, cn, rfl⟩ := Kd.R_slice ho4
  have h := Hh.out
  clear Hh
  by_cases hnl : n.length ≤ 1000000000000
  case neg => rw [if_neg hnl] at h; cases h
  rw [if_pos hnl] at h
  obtain ⟨⟨qf, rf⟩, hg, h⟩ := Option.bind_eq_some_iff.mp h
  obtain ⟨qn, hqn, h⟩ := Option.bind_eq_some_iff.mp h
  obtain ⟨rs, hrs, h⟩ := Option.bind_eq_some_iff.mp h
  simp only [Option.some.injEq, Prod.mk.injEq] at h
  obtain ⟨rfl, rfl, rfl⟩ := h
  have HG := Aside0.mk hg
  have HQN := Aside0.mk hqn
  have HRS := Aside0.mk hrs
  have hz4 : W3.heap.size ≤ w4.heap.size := hb4.size
  have b7 : Boxed w4 w1.heap.size 22 (.slice A3 d.length cd3) := (hb4.block _ (by omega)).trans HB7.out
  have hB4 : Below w.heap.size w w4 := HB3.out.trans (hb4.mono HB3.out.size)
  have hO3 := Kd.R_below HO3.out hb4
  have HB7' := Aside0.mk b7
  have HB4 := Aside0.mk hB4
  have HO3' := Aside0.mk hO3
  have HO4 := Aside0.mk ho4
  have hcn : n.length ≤ cn := (Kd.R_reads' ho4).2.1
  have hmk : ∀ W : World, (Instr.makeSlice 22 (.int .i64 (n.length : Int)) (.int .i64 (n.length : Int))).run Try.prog W = .ok (.slice (some ⟨W.heap.size, 0, none⟩) n.length n.length) (W.alloc (.cells (madeCells #[.int .u64 0] n.length) 35)) :=
   fun W => print_make (P := Try.prog) 22 35 .u64 8 Try.underlying22 info35 (by decide) n.length (by omega) W
  clear hg hqn hrs b7 hB4 hO3 ho4 hb4 HB7 HO3 HB3 HN HD HS
  gi_wp2_with fail
  refine ⟨trivial, ?_⟩
  refine (backwardR_in Fence.wide 5 trivial rfl _ _ _ _).mono ?_
  rintro e w' ⟨rfl, rfl⟩
  obtain ⟨W5, hW5⟩ : ∃ W5, (((((w4.alloc (.cells #[.slice A4 n.length cn] 22)).alloc (.cells (madeCells #[.int .u64 0] n.length) 35)).alloc (.cells #[.slice (some ⟨w4.heap.size + 1, 0, none⟩) n.length n.length] 22)).alloc (.cells #[.slice none 0 0] 22)).alloc (.cells #[.slice A4 n.length cn] 22)) = W5 := ⟨_, rfl⟩
  have hs5 : W5.heap.size = w4.heap.size + 5 := by rw [← hW5]; simp only [World.size_alloc]
  have HBX : Boxed W5 w1.heap.size 22 (.slice A3 d.length cd3) ∧ Boxed W5 w4.heap.size 22 (.slice A4 n.length cn) ∧ Boxed W5 (w4.heap.size + 1 + 1) 22 (.slice (some ⟨w4.heap.size + 1, 0, none⟩) n.length n.length) ∧ Boxed W5 (w4.heap.size + 1 + 1 + 1) 22 (.slice none 0 0) ∧ Boxed W5 (w4.heap.size + 1 + 1 + 1 + 1) 22 (.slice A4 n.length cn) := by
   rw [← hW5]
   refine ⟨((((HB7'.out.alloc _).alloc _).alloc _).alloc _).alloc _, ((((Boxed.new _ _ _).alloc _).alloc _).alloc _).alloc _, ?_, ?_, ?_⟩
   ·
    have := Boxed.new ((w4.alloc (.cells #[.slice A4 n.length cn] 22)).alloc (.cells (madeCells #[.int .u64 0] n.length) 35)) 22 (.slice (some ⟨w4.heap.size + 1, 0, none⟩) n.length n.length)
    simp only [World.size_alloc] at this
    exact (this.alloc _).alloc _
   ·
    have := Boxed.new (((w4.alloc (.cells #[.slice A4 n.length cn] 22)).alloc (.cells (madeCells #[.int .u64 0] n.length) 35)).alloc (.cells #[.slice (some ⟨w4.heap.size + 1, 0, none⟩) n.length n.length] 22)) 22 (.slice none 0 0)
    simp only [World.size_alloc] at this
    exact this.alloc _
   ·
    have := Boxed.new ((((w4.alloc (.cells #[.slice A4 n.length cn] 22)).alloc (.cells (madeCells #[.int .u64 0] n.length) 35)).alloc (.cells #[.slice (some ⟨w4.heap.size + 1, 0, none⟩) n.length n.length] 22)).alloc (.cells #[.slice none 0 0] 22)) 22 (.slice A4 n.length cn)
    simp only [World.size_alloc] at this
    exact this
  have hq5 : Kd.R (Kd.int .u64) 35 W5 w.heap.size (fun k => k = w4.heap.size + 1) (.slice (some ⟨w4.heap.size + 1, 0, none⟩) n.length n.length) (List.replicate n.length 0) := by
   rw [← hW5]
   have hw4 : w.heap.size ≤ w4.heap.size := HB4.out.size
   have := own_made (w4.alloc (.cells #[.slice A4 n.length cn] 22)) w.heap.size 35 .u64 n.length (by simp only [World.size_alloc]; omega) (by omega)
   simp only [World.size_alloc] at this
   exact Kd.R_alloc (Kd.R_alloc (Kd.R_alloc (Kd.R_of_own (by rw [List.length_replicate]; exact this) (fun k hk => by simp [Value.ownBlock] at hk; exact hk.symm)) _) _) _
  have hd5 : Kd.R (Kd.int .u64) 35 W5 w.heap.size (fun k => k < w4.heap.size) (.slice A3 d.length cd3) d := by
   rw [← hW5]
   exact Kd.R_alloc (Kd.R_alloc (Kd.R_alloc (Kd.R_alloc (Kd.R_alloc (R_only (Kd.R_lower HO3'.out (by omega)) (fun k _ _ hk _ => hk)) _) _) _) _) _
  have hn5 : Kd.R (Kd.int .u64) 35 W5 w.heap.size (fun k => k < w4.heap.size) (.slice A4 n.length cn) n := by
   rw [← hW5]
   exact Kd.R_alloc (Kd.R_alloc (Kd.R_alloc (Kd.R_alloc (Kd.R_alloc (R_only (Kd.R_lower HO4.out (by omega)) (fun k _ _ hk _ => hk)) _) _) _) _) _
  have hB5 : Below w.heap.size w W5 := by
   rw [← hW5]
   exact below_alloc (below_alloc (below_alloc (below_alloc (below_alloc HB4.out _) _) _) _) _
  have HI0 := Aside0.mk (show dmI w k w1.heap.size w4.heap.size A3 cd3 d A4 cn n (qf, rf) 0 W5 from ⟨List.replicate n.length 0, [], .slice none 0 0, by simp, HBX.1, HBX.2.1, HBX.2.2.1, HBX.2.2.2.1, HBX.2.2.2.2, hq5, hd5, hn5, Kd.R_nil _ _ _ _ _, hB5, HG.out⟩)
  have hw5 : w.heap.size ≤ w4.heap.size := HB4.out.size
  have h17 : w1.heap.size < w4.heap.size := by omega
  rw [hW5]
  simp only [World.size_alloc]
  clear hW5 HBX hq5 hd5 hn5 hB5 HO3' HO4 HB7' HB4 HR0 HG hmk
  generalize w4.heap.size = lo at *
  gi_wp2_with fail
  refine range_back (n := 6) (by decide) (lo + 1 + 1 + 1 + 1) rfl A4 n.length cn n (by omega) rfl (dmI w k w1.heap.size lo A3 cd3 d A4 cn n (qf, rf)) (dmI_own (by omega) (by omega) hs5) ?reads HI0.out
   (fun j => { tmps := #[.slice A0 l0.length c0, .slice A1 l1.length c1, undef, undef, .slice none 0 0, .slice none 0 0, .int .i64 0, .pointer (some ⟨w1.heap.size, 0, none⟩), .int .i64 s, .pointer (some ⟨lo, 0, none⟩), .pointer (some ⟨lo + 1 + 1, 0, none⟩), .pointer (some ⟨lo + 1 + 1 + 1, 0, none⟩), .int .i64 ((n.length : Int) - 1 - j), .slice A1 l1.length c1,
    .slice (some ad) d0.length cd, .slice (some ad) d0.length cd, .int .i64 d0.length, .bool false, .slice (some ad) d0.length cd, .slice (some ad) d0.length cd, .int .i64 d0.length, .int .i64 ((d0.length : Int) - 1), .pointer (some (ad.add (d0.length - 1))), .int .u64 (rd d0 ((d0.length : Int) - 1)), .int .i64 s, .slice (some ad) d0.length cd, .int .i64 s,
    .slice A3 d.length cd3, .slice A0 l0.length c0, .int .i64 s, .slice A4 n.length cn, .slice A4 n.length cn, .int .i64 n.length, .slice (some ⟨lo + 1, 0, none⟩) n.length n.length, .slice A4 n.length cn, .func (.func 56) #[] #[.pointer (some ⟨lo + 1 + 1 + 1 + 1, 0, none⟩)],
    .int .i64 ((n.length : Int) - 1 - j), .int .u64 (rd n ((n.length : Int) - 1 - j)), undef, undef, undef, undef, undef, undef, undef, undef, undef, undef, undef, undef, undef, undef, undef, undef, undef, undef, undef, undef, undef, undef], defers := [] }) ?assign ?body ?done
  case reads =>
   rintro j W ⟨q, r, vr, hq, g7, g9, g10, g11, gB, hQ, hd, hn, hR, hb, hg⟩
   exact ⟨gB.cell, Kd.reads_of_C (d := (0 : Int)) (Kd.R_reads' hn).2.2⟩
  case assign =>
   intro l j W K hj hK
   gi_wp2
   exact hK
  case body =>
   intro l j W hj hI
   as_aux_lemma =>
    obtain ⟨m, hm⟩ : ∃ m : Nat, (n.length : Int) - 1 - j = m := ⟨n.length - 1 - j, by omega⟩
    have hmn : m < n.length := by omega
    have hmj : n.length - j = m + 1 := by omega
    have hmj' : n.length - (j + 1) = m := by omega
    obtain ⟨q, r, vr, hq, g7, g9, g10, g11, gB, hQ, hd, hn, hR, hb, hg⟩ := hI
    rw [hmj] at hg
    simp only [dmGo] at hg
    rw [hm]
    clear HI0 hm
    split at hg
    case isFalse => cases hg
    case isTrue hrl =>
    obtain ⟨r1, hr1, hg⟩ := Option.bind_eq_some_iff.mp hg
    obtain ⟨⟨x, r2⟩, hx2, hg⟩ := Option.bind_eq_some_iff.mp hg
    obtain ⟨Ar, cr, rfl⟩ := Kd.R_slice hR
    have hRn := Kd.reads_of_C (d := (0 : Int)) (Kd.R_reads' hn).2.2
    have hRn : ReadsInt W .u64 A4 n.length n := hRn
    obtain ⟨a4, he4, _⟩ := hRn.at_ (m : Int) (by omega) (by omega)
    subst he4
    have hxW : ∀ X, Below W.heap.size W X → X.cell? (a4.add m) = some (.int .u64 (rd n (m : Int))) := by
     intro X hX
     obtain ⟨a5, he5, hc5⟩ := (hRn.below hX).at_ (m : Int) (by omega) (by omega)
     cases he5
     rwa [Int.toNat_natCast] at hc5
    have hbW : ∀ X, Below W.heap.size W X → Boxed X w1.heap.size 22 (.slice A3 d.length cd3) ∧ Boxed X lo 22 (.slice (some a4) n.length cn) ∧ Boxed X (lo + 1 + 1) 22 (.slice (some ⟨lo + 1, 0, none⟩) n.length n.length) ∧ Boxed X (lo + 1 + 1 + 1) 22 (.slice Ar r.length cr) ∧ Boxed X (lo + 1 + 1 + 1 + 1) 22 (.slice (some a4) n.length cn) :=
     fun X hX => ⟨(hX.block _ g7.lt).trans g7, (hX.block _ g9.lt).trans g9, (hX.block _ g10.lt).trans g10, (hX.block _ g11.lt).trans g11, (hX.block _ gB.lt).trans gB⟩
    have hlo : lo + 5 ≤ W.heap.size := gB.lt
    have hwW : w.heap.size ≤ W.heap.size := hb.size
    have hdl : d.length ≤ cd3 := (Kd.R_reads' hd).2.1
    have HXW := Lib.hid hxW
    have HBW := Lib.hid hbW
    have HRL := Lib.hid hrl
    have HR1 := Aside0.mk hr1
    have HX2 := Aside0.mk hx2
    have HG := Aside0.mk hg
    have HQ := Aside0.mk hQ
    have HD := Aside0.mk hd
    have HN := Aside0.mk hn
    have HRr := Aside0.mk hR
    have HB := Aside0.mk hb
    have HQL := Lib.hid hq
    have hm2 : (m : Int) < (n.length : Int) := by omega
    have hm3 : (m : Int) ≤ 9223372036854775807 := by omega
    have d1 := (Below.refl W.heap.size W).drew
    clear hxW hbW hrl hr1 hx2 hg hQ hd hn hR hb hq hRn g7 g9 g10 g11 gB
    gi_wp2_with fail
    refine startR_ (S := fun w' => w'.cell? ⟨lo, 0, none⟩ = some (.slice (some a4) n.length cn) ∧ w'.cell? ⟨lo + 1 + 1 + 1, 0, none⟩ = some (.slice Ar r.length cr) ∧ w'.cell? (a4.add m) = some (.int .u64 (rd n (m : Int)))) (ds := [8]) #[false, false, false, false, false, false, false, false, false] (.inr ⟨l, rfl⟩) (by kernel_rfl) (by kernel_rfl) rfl rfl ⟨(HBW.out _ d1).2.1.cell, (HBW.out _ d1).2.2.2.1.cell, HXW.out _ d1⟩ (fun hHeld => ?_)
    refine pure_ (i := 1) (N := some 39) (v := ?_) (a' := ?_) #[false, true, false, false, false, false, false, false, false] rfl rfl (by kernel_rfl) (fun _ _ _ h => by cases h.1) (Or.inl ⟨by rfl, ?_⟩) ?_ ?_
    rotate_left
    ·
     intro w'
     go_simp
     with_reducible rfl
    rotate_left
    ·
     simp only [Act.put, List.setIfInBounds_toArray, List.set_cons_zero, List.set_cons_succ, i64_w, i32_w]
     rfl
    refine take_ (i := 0) (N := some 38) (v := ?_) (a' := ?_) #[true, true, false, false, false, false, false, false, false] rfl rfl (by kernel_rfl) (fun _ _ _ h => by cases h.1) (Or.inl ⟨by rfl, ?_⟩) hHeld ?_ ?_
    rotate_left
    ·
     rintro w' ⟨s0, s1, s2⟩
     go_simp
     with_reducible rfl
    rotate_left
    ·
     simp only [Act.put, List.setIfInBounds_toArray, List.set_cons_zero, List.set_cons_succ, i64_w, i32_w]
     rfl
    refine pure_ (i := 2) (N := some 40) (v := ?_) (a' := ?_) #[true, true, true, false, false, false, false, false, false] rfl rfl (by kernel_rfl) (fun _ _ _ h => by cases h.1) (Or.inl ⟨by rfl, ?_⟩) ?_ ?_
    rotate_left
    ·
     intro w'
     go_simp
     with_reducible rfl
    rotate_left
    ·
     simp only [Act.put, List.setIfInBounds_toArray, List.set_cons_zero, List.set_cons_succ, i64_w, i32_w]
     rfl
    refine take_ (i := 3) (N := some 41) (v := ?_) (a' := ?_) #[true, true, true, true, false, false, false, false, false] rfl rfl (by kernel_rfl) (fun _ _ _ h => by cases h.1) (Or.inl ⟨by rfl, ?_⟩) hHeld ?_ ?_
    rotate_left
    ·
     rintro w' ⟨s0, s1, s2⟩
     go_simp
     with_reducible rfl
    rotate_left
    ·
     simp only [Act.put, List.setIfInBounds_toArray, List.set_cons_zero, List.set_cons_succ, i64_w, i32_w]
     rfl
    refine take_ (i := 5) (N := some 43) (v := ?_) (a' := ?_) #[true, true, true, true, false, true, false, false, false] rfl rfl (by kernel_rfl) (fun _ _ _ h => by cases h.1) (Or.inl ⟨by rfl, ?_⟩) hHeld ?_ ?_
    rotate_left
    ·
     rintro w' ⟨s0, s1, s2⟩
     go_simp
     with_reducible rfl
    rotate_left
    ·
     simp only [Act.put, List.setIfInBounds_toArray, List.set_cons_zero, List.set_cons_succ, i64_w, i32_w]
     rfl
    refine one_ (i := 4) (N := some 42) #[true, true, true, true, true, true, false, false, false] rfl rfl (by kernel_rfl) (by decide) (fun K hK => ?_)
    refine value_ (w1 := ?_) (v := ?_) (by rfl) rfl ?_ ?_
    rotate_left 2
    ·
     go_simp
     constructor
     ·
      rfl
     ·
      rfl
    have d2 : Below W.heap.size W (W.drew.alloc (.cells #[.int .u64 (rd n (m : Int))] 35)) := d1.alloc (Nat.le_refl _) _
    have hlit : Kd.R (Kd.int .u64) 35 (W.drew.alloc (.cells #[.int .u64 (rd n (m : Int))] 35)) W.heap.size (fun k => W.heap.size ≤ k) (.slice (some ⟨W.drew.heap.size, 0, none⟩) 1 1) [rd n (m : Int)] := by
     have h2 := World.ownsRow_lit (base := W.heap.size) (e := 35) (size := 1) W.drew #[.int .u64 (rd n (m : Int))] 1 (Nat.le_refl _) (by decide) rfl
     exact Kd.R_of_own h2 (fun k hk => by have e1 : W.drew.heap.size = k := (by simpa [Value.ownBlock] using hk); rw [← e1]; exact Nat.le_refl _)
    refine hK.out _ _ ⟨(HBW.out _ d2).2.1.cell, (HBW.out _ d2).2.2.2.1.cell, HXW.out _ d2⟩ (fun hHeld => ?_)
    clear hK K
    refine norm_ (a' := ?_) ?_ ?_
    rotate_left
    ·
     show Act.put _ (some 42) _ = _
     simp only [Act.put, List.setIfInBounds_toArray, List.set_cons_zero, List.set_cons_succ, i64_w, i32_w]
     rfl
    refine one_ (i := 6) (N := some 44) #[true, true, true, true, true, true, true, false, false] rfl rfl (by kernel_rfl) (by decide) (fun K hK => ?_)
    refine Kd.R_append_rows_step (Kd.int .u64) (w0 := W) W.heap.size (by rfl) (.tmp 42) (.tmp 43) 22 35 (.int .u64 0) 8 rfl Try.underlying22 info35 rfl (by decide) (by omega) _ [rd n (m : Int)] r Ar r.length cr (fun k => W.heap.size ≤ k) (fun _ => False) rfl rfl hlit ((Kd.C_below (Kd.R_reads' HRr.out).2.2 d2)) (fun _ _ h => h) (fun _ h => h.elim) (fun k hk => Nat.le_trans d2.size hk) d2 d2.size (by have := HRL.out; show (1 + r.length) * 8 ≤ 140737488355328; omega) ?_
    intro v5 w5 ho5 hb5 _ _
    obtain ⟨A5, c5, rfl⟩ := Kd.R_slice ho5
    refine hK.out _ _ ⟨(HBW.out _ hb5).2.1.cell, (HBW.out _ hb5).2.2.2.1.cell, HXW.out _ hb5⟩ (fun hHeld => ?_)
    clear hK K
    refine norm_ (a' := ?_) ?_ ?_
    rotate_left
    ·
     show Act.put _ (some 44) _ = _
     simp only [Act.put, List.setIfInBounds_toArray, List.set_cons_zero, List.set_cons_succ, i64_w, i32_w]
     rfl
    refine one_ (i := 7) (N := some 45) #[true, true, true, true, true, true, true, true, false] rfl rfl (by kernel_rfl) (by decide) (fun K hK => ?_)
    refine goes_ Try.func33 (by kernel_rfl) rfl #[.slice A5 ([rd n (m : Int)] ++ r).length c5] (by rfl) rfl rfl (by simp only [List.map_toArray, List.map_cons, List.map_nil]; rfl) ?_
    refine (nat_Norm.calls k A5 c5 ([rd n (m : Int)] ++ r) r1 w5 (Kd.R_reads' ho5).2.2 (Kd.R_reads' ho5).2.1 HR1.out).mono ?_
    rintro e w6 ⟨v6, rfl, ho6, hb6⟩
    obtain ⟨A6, c6, rfl⟩ := Kd.R_slice ho6
    refine ⟨_, rfl, ?_⟩
    have d6 : Below W.heap.size W w6 := hb5.trans (hb6.mono hb5.size)
    refine hK.out _ _ ⟨(HBW.out _ d6).2.1.cell, (HBW.out _ d6).2.2.2.1.cell, HXW.out _ d6⟩ (fun hHeld => ?_)
    clear hK K
    refine norm_ (a' := ?_) ?_ ?_
    rotate_left
    ·
     show Act.put _ (some 45) _ = _
     simp only [Act.put, List.setIfInBounds_toArray, List.set_cons_zero, List.set_cons_succ, i64_w, i32_w]
     rfl
    refine last_ (i := 8) (N := none) #[true, true, true, true, true, true, true, true, true] rfl rfl (by kernel_rfl) (by decide) (fun K hK => ?_)
    have c11 := (HBW.out _ d6).2.2.2.1.cell
    have f11 := (HBW.out _ d6).2.2.2.1.frozen
    refine skip_ (w1 := ?_) (by rfl) rfl ?_ ?_
    rotate_left
    ·
     go_simp
     rfl
    refine hK.out _ _ ?_
    clear hK K
    refine done_ (by kernel_rfl) ?_
    refine ⟨rfl, ?_⟩
    gi_wp2_with fail
    obtain ⟨W7, hW7⟩ : ∃ W7, w6.setCell ⟨lo + 1 + 1 + 1, 0, none⟩ (.slice A6 r1.length c6) = W7 := ⟨_, rfl⟩
    have ty32 : ∀ q, q ∈ 35 :: (Kd.int .u64).E → q ≠ 22 := by
     intro q hq
     rcases List.mem_cons.1 hq with rfl | hq
     ·
      decide
     ·
      cases hq
    obtain ⟨e7, e9, e10, e11, eB⟩ := HBW.out _ d6
    have hz6 : W.heap.size ≤ w6.heap.size := d6.size
    have hs7 : W7.heap.size = w6.heap.size := by rw [← hW7]; exact World.size_setCell _ _ _
    have k7 : Boxed W7 w1.heap.size 22 (.slice A3 d.length cd3) := by rw [← hW7]; exact e7.other (by omega) _
    have k9 : Boxed W7 lo 22 (.slice (some a4) n.length cn) := by rw [← hW7]; exact e9.other (by omega) _
    have k10 : Boxed W7 (lo + 1 + 1) 22 (.slice (some ⟨lo + 1, 0, none⟩) n.length n.length) := by rw [← hW7]; exact e10.other (by omega) _
    have k11 : Boxed W7 (lo + 1 + 1 + 1) 22 (.slice A6 r1.length c6) := by rw [← hW7]; exact e11.set _
    have kB : Boxed W7 (lo + 1 + 1 + 1 + 1) 22 (.slice (some a4) n.length cn) := by rw [← hW7]; exact eB.other (by omega) _
    have hQ7 : Kd.R (Kd.int .u64) 35 W7 w.heap.size (fun k => k = lo + 1) (.slice (some ⟨lo + 1, 0, none⟩) n.length n.length) q := by rw [← hW7]; exact Kd.R_set (Kd.R_below HQ.out d6) e11 ty32 0 _
    have hD7 : Kd.R (Kd.int .u64) 35 W7 w.heap.size (fun k => k < lo) (.slice A3 d.length cd3) d := by rw [← hW7]; exact Kd.R_set (Kd.R_below HD.out d6) e11 ty32 0 _
    have hN7 : Kd.R (Kd.int .u64) 35 W7 w.heap.size (fun k => k < lo) (.slice (some a4) n.length cn) n := by rw [← hW7]; exact Kd.R_set (Kd.R_below HN.out d6) e11 ty32 0 _
    have h5W : W.heap.size ≤ w5.heap.size := hb5.size
    have hR7 : Kd.R (Kd.int .u64) 35 W7 w.heap.size (fun k => lo + 5 ≤ k ∧ W.heap.size ≤ k ∧ some k = (Value.slice A6 r1.length c6).ownBlock) (.slice A6 r1.length c6) r1 := by
     rw [← hW7]
     exact Kd.R_set (R_only (Kd.R_lower ho6 (by omega)) (fun k hk hbs _ _ => by
      have := Kd.R_base ho6 k hk
      exact ⟨by omega, by omega, hk.symm⟩)) e11 ty32 0 _
    have hB7 : Below w.heap.size w W7 := by rw [← hW7]; exact (HB.out.trans (d6.mono hwW)).setCell (p := ⟨lo + 1 + 1 + 1, 0, none⟩) (by simp; omega) _
    have hK7 : ∀ (k : Nat) (o : Obj), lo + 5 ≤ k → W.heap[k]? = some o → W7.heap[k]? = some o := by
     intro k o hk ho
     rw [← hW7]
     have hkl := (Array.getElem?_eq_some_iff.1 ho).1
     exact (Below.heap_setCell w6 ⟨lo + 1 + 1 + 1, 0, none⟩ _ k (by simp; omega)).trans ((d6.block k hkl).trans ho)
    rw [hW7]
    clear hW7 e7 e9 e10 e11 eB ho5 hb5 ho6 hb6 hHeld c11 f11 hlit d2 d1
    have HQ7 := Aside0.mk hQ7
    have HD7 := Aside0.mk hD7
    have HN7 := Aside0.mk hN7
    have HR7 := Aside0.mk hR7
    have HB7 := Aside0.mk hB7
    have HK7 := Aside0.mk hK7
    have HBX := Aside0.mk (And.intro k7 (And.intro k9 (And.intro k10 (And.intro k11 kB))))
    have c7 := k7.cell
    have c10 := k10.cell
    have c11 := k11.cell
    clear hQ7 hD7 hN7 hR7 hB7 hK7 k7 k9 k10 k11 kB HBW HXW HQ HD HN HRr HB HR1
    refine startR_ (S := fun w' => w'.cell? ⟨lo + 1 + 1, 0, none⟩ = some (.slice (some ⟨lo + 1, 0, none⟩) n.length n.length) ∧ w'.cell? ⟨lo + 1 + 1 + 1, 0, none⟩ = some (.slice A6 r1.length c6) ∧ w'.cell? ⟨w1.heap.size, 0, none⟩ = some (.slice A3 d.length cd3)) (ds := [9, 10]) #[false, false, false, false, false, false, false, false, false, false, false] (.inr ⟨l, rfl⟩) (by kernel_rfl) (by kernel_rfl) rfl rfl ⟨c10, c11, c7⟩ (fun hHeld => ?_)
    clear c7 c10 c11
    refine pure_ (i := 1) (N := some 48) (v := ?_) (a' := ?_) #[false, true, false, false, false, false, false, false, false, false, false] rfl rfl (by kernel_rfl) (fun _ _ _ h => by cases h.1) (Or.inl ⟨by rfl, ?_⟩) ?_ ?_
    rotate_left
    ·
     intro w'
     go_simp
     with_reducible rfl
    rotate_left
    ·
     simp only [Act.put, List.setIfInBounds_toArray, List.set_cons_zero, List.set_cons_succ, i64_w, i32_w]
     rfl
    refine take_ (i := 0) (N := some 47) (v := ?_) (a' := ?_) #[true, true, false, false, false, false, false, false, false, false, false] rfl rfl (by kernel_rfl) (fun _ _ _ h => by cases h.1) (Or.inl ⟨by rfl, ?_⟩) hHeld ?_ ?_
    rotate_left
    ·
     rintro w' ⟨s0, s1, s2⟩
     go_simp
     with_reducible rfl
    rotate_left
    ·
     simp only [Act.put, List.setIfInBounds_toArray, List.set_cons_zero, List.set_cons_succ, i64_w, i32_w]
     rfl
    refine take_ (i := 2) (N := some 49) (v := ?_) (a' := ?_) #[true, true, true, false, false, false, false, false, false, false, false] rfl rfl (by kernel_rfl) (fun _ _ _ h => by cases h.1) (Or.inl ⟨by rfl, ?_⟩) hHeld ?_ ?_
    rotate_left
    ·
     rintro w' ⟨s0, s1, s2⟩
     go_simp
     with_reducible rfl
    rotate_left
    ·
     simp only [Act.put, List.setIfInBounds_toArray, List.set_cons_zero, List.set_cons_succ, i64_w, i32_w]
     rfl
    refine take_ (i := 3) (N := some 50) (v := ?_) (a' := ?_) #[true, true, true, true, false, false, false, false, false, false, false] rfl rfl (by kernel_rfl) (fun _ _ _ h => by cases h.1) (Or.inl ⟨by rfl, ?_⟩) hHeld ?_ ?_
    rotate_left
    ·
     rintro w' ⟨s0, s1, s2⟩
     go_simp
     with_reducible rfl
    rotate_left
    ·
     simp only [Act.put, List.setIfInBounds_toArray, List.set_cons_zero, List.set_cons_succ, i64_w, i32_w]
     rfl
    refine one_ (i := 4) (N := some 51) #[true, true, true, true, true, false, false, false, false, false, false] rfl rfl (by kernel_rfl) (by decide) (fun K hK => ?_)
    refine goes_ Try.func54 (by kernel_rfl) rfl #[.slice A6 r1.length c6, .slice A3 d.length cd3] (by rfl) rfl rfl (by simp only [List.map_toArray, List.map_cons, List.map_nil]; rfl) ?_
    refine (natdiv_digit.calls k (fun k => lo + 5 ≤ k ∧ W.heap.size ≤ k ∧ some k = (Value.slice A6 r1.length c6).ownBlock) (.slice A6 r1.length c6) r1 A3 cd3 d x r2 w W7.drew HB7.out.drew (Kd.R_drew HR7.out) (fun W_ hk => (Kd.R_reads' (R_kept (Kd.R_drew HD7.out) hk (fun k h1 h2 => by omega))).2.2) hdl HX2.out).mono ?_
    rintro e w8 ⟨v8, rfl, ho8, hb8, hk8⟩
    obtain ⟨A8, c8, rfl⟩ := Kd.R_slice ho8
    refine ⟨_, rfl, ?_⟩
    have hbK : ∀ b t v, b < lo + 5 → Boxed W7 b t v → Boxed w8 b t v := fun b t v hlt hb => (hk8.2 b hb.lt (fun hs => by omega)).trans hb
    obtain ⟨k7, k9, k10, k11, kB⟩ := HBX.out
    have m7 := hbK _ _ _ (by omega) k7
    have m9 := hbK _ _ _ (by omega) k9
    have m10 := hbK _ _ _ (by omega) k10
    have m11 := hbK _ _ _ (by omega) k11
    have mB := hbK _ _ _ (by omega) kB
    have hQ8 : Kd.R (Kd.int .u64) 35 w8 w.heap.size (fun k => k = lo + 1) (.slice (some ⟨lo + 1, 0, none⟩) n.length n.length) q := R_kept (Kd.R_drew HQ7.out) hk8 (fun k h1 h2 => by omega)
    have hD8 : Kd.R (Kd.int .u64) 35 w8 w.heap.size (fun k => k < lo) (.slice A3 d.length cd3) d := R_kept (Kd.R_drew HD7.out) hk8 (fun k h1 h2 => by omega)
    have hN8 : Kd.R (Kd.int .u64) 35 w8 w.heap.size (fun k => k < lo) (.slice (some a4) n.length cn) n := R_kept (Kd.R_drew HN7.out) hk8 (fun k h1 h2 => by omega)
    have hR8 : Kd.R (Kd.int .u64) 35 w8 w.heap.size (fun k => lo + 5 ≤ k) (.slice A8 r2.length c8) r2 := Kd.R_mono ho8 (fun k hk => by
     rcases hk with hk | hk
     ·
      exact hk.1
     ·
      have : W7.drew.heap.size = W7.heap.size := rfl
      omega)
    have hz8 : W7.heap.size ≤ w8.heap.size := hk8.1
    have hK8 : ∀ (k : Nat) (o : Obj), lo + 5 ≤ k → W.heap[k]? = some o → o.isCells = false → w8.heap[k]? = some o := by
     intro k o hk ho hn
     have h7 := HK7.out k o hk ho
     have hkl := (Array.getElem?_eq_some_iff.1 ho).1
     exact (hk8.2 k (Array.getElem?_eq_some_iff.1 h7).1 (fun hs => by omega)).trans h7
    clear k7 k9 k10 k11 kB hbK ho8 hk8
    refine hK.out _ _ ⟨m10.cell, m11.cell, m7.cell⟩ (fun hHeld => ?_)
    clear hK K
    refine norm_ (a' := ?_) ?_ ?_
    rotate_left
    ·
     show Act.put _ (some 51) _ = _
     simp only [Act.put, List.setIfInBounds_toArray, List.set_cons_zero, List.set_cons_succ, i64_w, i32_w]
     rfl
    refine pure_ (i := 5) (N := some 46) (v := ?_) (a' := ?_) #[true, true, true, true, true, true, false, false, false, false, false] rfl rfl (by kernel_rfl) (fun _ _ _ h => by cases h.1) (Or.inl ⟨by rfl, ?_⟩) ?_ ?_
    rotate_left
    ·
     intro w'
     go_simp
     with_reducible rfl
    rotate_left
    ·
     simp only [Act.put, List.setIfInBounds_toArray, List.set_cons_zero, List.set_cons_succ, i64_w, i32_w]
     rfl
    refine pure_ (i := 6) (N := some 52) (v := ?_) (a' := ?_) #[true, true, true, true, true, true, true, false, false, false, false] rfl rfl (by kernel_rfl) (fun _ _ _ h => by cases h.1) (Or.inl ⟨by rfl, ?_⟩) ?_ ?_
    rotate_left
    ·
     intro w'
     go_simp
     with_reducible rfl
    rotate_left
    ·
     simp only [Act.put, List.setIfInBounds_toArray, List.set_cons_zero, List.set_cons_succ, i64_w, i32_w]
     rfl
    refine pure_ (i := 7) (N := some 53) (v := ?_) (a' := ?_) #[true, true, true, true, true, true, true, true, false, false, false] rfl rfl (by kernel_rfl) (fun _ _ _ h => by cases h.1) (Or.inl ⟨by rfl, ?_⟩) ?_ ?_
    rotate_left
    ·
     intro w'
     go_simp
     with_reducible rfl
    rotate_left
    ·
     simp only [Act.put, List.setIfInBounds_toArray, List.set_cons_zero, List.set_cons_succ, i64_w, i32_w]
     rfl
    refine pure_ (i := 8) (N := some 54) (v := ?_) (a' := ?_) #[true, true, true, true, true, true, true, true, true, false, false] rfl rfl (by kernel_rfl) (fun _ _ _ h => by cases h.1) (Or.inl ⟨by rfl, ?_⟩) ?_ ?_
    rotate_left
    ·
     intro w'
     go_simp
     with_reducible rfl
    rotate_left
    ·
     simp only [Act.put, List.setIfInBounds_toArray, List.set_cons_zero, List.set_cons_succ, i64_w, i32_w]
     rfl
    refine last_ (i := 9) (N := none) #[true, true, true, true, true, true, true, true, true, true, false] rfl rfl (by kernel_rfl) (by decide) (fun K hK => ?_)
    have hown : w8.ownsRow w.heap.size 35 1 (.slice (some ⟨lo + 1, 0, none⟩) n.length n.length) n.length (nums .u64 q) := by
     have := Kd.own_of_R hQ8
     rw [HQL.out] at this
     exact this
    obtain ⟨cq, fq⟩ := own_at hown (m : Int) (by omega) (by omega)
    obtain ⟨hst, hgr⟩ := own_store hown (m : Int) x
    simp only [Int.toNat_natCast] at cq fq hst hgr
    have HST := Aside0.mk hst
    have HGR := Aside0.mk hgr
    clear hst hgr hown
    refine skip_ (w1 := ?_) (by rfl) rfl ?_ ?_
    rotate_left
    ·
     go_simp
     rfl
    refine hK.out _ _ ?_
    clear hK K
    have HM := Aside0.mk (And.intro m7 (And.intro m9 (And.intro m10 (And.intro m11 mB))))
    obtain ⟨W9, hW9⟩ : ∃ W9, w8.setCell ⟨lo + 1, m, none⟩ (.int .u64 x) = W9 := ⟨_, rfl⟩
    have n11 : Boxed W9 (lo + 1 + 1 + 1) 22 (.slice A6 r1.length c6) := by rw [← hW9]; exact m11.kept HGR.out (by simp; omega)
    have c11 := n11.cell
    have f11 := n11.frozen
    rw [hW9]
    refine last_ (i := 10) (N := none) #[true, true, true, true, true, true, true, true, true, true, true] rfl rfl (by kernel_rfl) (by decide) (fun K hK => ?_)
    refine skip_ (w1 := ?_) (by rfl) rfl ?_ ?_
    rotate_left
    ·
     go_simp
     rfl
    refine hK.out _ _ ?_
    clear hK K
    refine done_ (by kernel_rfl) ?_
    refine ⟨rfl, ?_⟩
    gi_wp2_with fail
    obtain ⟨m7, m9, m10, _, mB⟩ := HM.out
    have hs9 : W9.heap.size = w8.heap.size := by rw [← hW9]; exact World.size_setCell _ _ _
    have hne : ∀ b, b ≠ lo + 1 → (some b : Option Nat) ≠ some (lo + 1) := fun b h e => h (Option.some.inj e)
    have p7 : Boxed W9 w1.heap.size 22 (.slice A3 d.length cd3) := by rw [← hW9]; exact m7.kept HGR.out (hne _ (by omega))
    have p9 : Boxed W9 lo 22 (.slice (some a4) n.length cn) := by rw [← hW9]; exact m9.kept HGR.out (hne _ (by omega))
    have p10 : Boxed W9 (lo + 1 + 1) 22 (.slice (some ⟨lo + 1, 0, none⟩) n.length n.length) := by rw [← hW9]; exact m10.kept HGR.out (hne _ (by omega))
    have pB : Boxed W9 (lo + 1 + 1 + 1 + 1) 22 (.slice (some a4) n.length cn) := by rw [← hW9]; exact mB.kept HGR.out (hne _ (by omega))
    have hql : (q.set m x).length = n.length := by rw [List.length_set]; exact HQL.out
    have rq : Kd.R (Kd.int .u64) 35 W9 w.heap.size (fun k => k = lo + 1) (.slice (some ⟨lo + 1, 0, none⟩) n.length n.length) (q.set m x) := by
     rw [← hW9]
     exact Kd.R_of_own (by rw [hql]; exact HST.out) (fun k hk => by simp [Value.ownBlock] at hk; exact hk.symm)
    have rd' : Kd.R (Kd.int .u64) 35 W9 w.heap.size (fun k => k < lo) (.slice A3 d.length cd3) d := by rw [← hW9]; exact Kd.R_far hD8 (p := ⟨lo + 1, m, none⟩) (fun k hk => by simp; omega) _
    have rn' : Kd.R (Kd.int .u64) 35 W9 w.heap.size (fun k => k < lo) (.slice (some a4) n.length cn) n := by rw [← hW9]; exact Kd.R_far hN8 (p := ⟨lo + 1, m, none⟩) (fun k hk => by simp; omega) _
    have rr' : Kd.R (Kd.int .u64) 35 W9 w.heap.size (fun k => lo + 5 ≤ k) (.slice A8 r2.length c8) r2 := by rw [← hW9]; exact Kd.R_far hR8 (p := ⟨lo + 1, m, none⟩) (fun k hk => by simp; omega) _
    have hB9 : Below w.heap.size w W9 := by rw [← hW9]; exact hb8.setCell (p := ⟨lo + 1, m, none⟩) (by simp; omega) _
    refine ⟨⟨?_, ?_⟩, q.set m x, r2, .slice A8 r2.length c8, hql, p7.other (by omega) _, p9.other (by omega) _, p10.other (by omega) _, n11.set _, pB.other (by omega) _, Kd.R_set rq n11 ty32 0 _, Kd.R_set rd' n11 ty32 0 _, Kd.R_set rn' n11 ty32 0 _, Kd.R_set rr' n11 ty32 0 _, hB9.setCell (p := ⟨lo + 1 + 1 + 1, 0, none⟩) (by simp; omega) _, by rw [hmj']; exact HG.out⟩
    ·
     rw [World.size_setCell]
     omega
    ·
     intro k o hk ho hn
     refine (Below.heap_setCell W9 ⟨lo + 1 + 1 + 1, 0, none⟩ _ k (by simp; omega)).trans ?_
     rw [← hW9]
     exact (Below.heap_setCell w8 ⟨lo + 1, m, none⟩ _ k (by simp; omega)).trans (hK8 k o (by omega) ho hn)
  case done =>
   intro D W hD hI hW
   obtain ⟨q, r, vr, hq, g7, g9, g10, g11, gB, hQ, hd, hn, hR, hb, hg⟩ := hI
   rw [Nat.sub_self] at hg
   simp only [dmGo, Option.some.injEq, Prod.mk.injEq] at hg
   obtain ⟨rfl, rfl⟩ := hg
   obtain ⟨Ar, cr, rfl⟩ := Kd.R_slice hR
   have hDl : D < W.heap.size := (Array.getElem?_eq_some_iff.1 hW).1
   have d1 := (Below.refl W.heap.size W).drew
   have HQ := Aside0.mk (R_only (ok' := fun _ => True) hQ (fun _ _ _ _ _ => trivial))
   have HR := Aside0.mk (R_only (ok' := fun _ => True) hR (fun _ _ _ _ _ => trivial))
   have HB := Aside0.mk hb
   have HW := Aside0.mk hW
   have HQL := Lib.hid hq
   have HG := Aside0.mk (And.intro g10 g11)
   have c10 := g10.cell
   have c11 := g11.cell
   have hwW : w.heap.size ≤ W.heap.size := hb.size
   clear HI0 hq g7 g9 g10 g11 gB hQ hd hn hR hb hW
   gi_wp2_with fail
   refine startR_ (S := fun w' => w'.cell? ⟨lo + 1 + 1, 0, none⟩ = some (.slice (some ⟨lo + 1, 0, none⟩) n.length n.length) ∧ w'.cell? ⟨lo + 1 + 1 + 1, 0, none⟩ = some (.slice Ar r.length cr)) (ds := []) #[false, false, false, false, false, false, false, false] (.inl rfl) (by kernel_rfl) (by kernel_rfl) rfl rfl ⟨c10, c11⟩ (fun hHeld => ?_)
   clear c10 c11
   refine pure_ (i := 3) (N := some 58) (v := ?_) (a' := ?_) #[false, false, false, true, false, false, false, false] rfl rfl (by kernel_rfl) (fun _ _ _ h => by cases h.1) (Or.inl ⟨by rfl, ?_⟩) ?_ ?_
   rotate_left
   ·
    intro w'
    go_simp
    with_reducible rfl
   rotate_left
   ·
    simp only [Act.put, List.setIfInBounds_toArray, List.set_cons_zero, List.set_cons_succ, i64_w, i32_w]
    rfl
   refine take_ (i := 0) (N := some 55) (v := ?_) (a' := ?_) #[true, false, false, true, false, false, false, false] rfl rfl (by kernel_rfl) (fun _ _ _ h => by cases h.1) (Or.inl ⟨by rfl, ?_⟩) hHeld ?_ ?_
   rotate_left
   ·
    rintro w' ⟨s0, s1⟩
    go_simp
    with_reducible rfl
   rotate_left
   ·
    simp only [Act.put, List.setIfInBounds_toArray, List.set_cons_zero, List.set_cons_succ, i64_w, i32_w]
    rfl
   refine take_ (i := 2) (N := some 57) (v := ?_) (a' := ?_) #[true, false, true, true, false, false, false, false] rfl rfl (by kernel_rfl) (fun _ _ _ h => by cases h.1) (Or.inl ⟨by rfl, ?_⟩) hHeld ?_ ?_
   rotate_left
   ·
    rintro w' ⟨s0, s1⟩
    go_simp
    with_reducible rfl
   rotate_left
   ·
    simp only [Act.put, List.setIfInBounds_toArray, List.set_cons_zero, List.set_cons_succ, i64_w, i32_w]
    rfl
   refine one_ (i := 1) (N := some 56) #[true, true, true, true, false, false, false, false] rfl rfl (by kernel_rfl) (by decide) (fun K hK => ?_)
   refine goes_ Try.func33 (by kernel_rfl) rfl #[.slice (some ⟨lo + 1, 0, none⟩) n.length n.length] (by rfl) rfl rfl (by simp only [List.map_toArray, List.map_cons, List.map_nil]; rfl) ?_
   refine calls_of_args (args' := #[.slice (some ⟨lo + 1, 0, none⟩) q.length n.length]) (by rw [HQL.out]) ?_
   refine (nat_Norm.calls k (some ⟨lo + 1, 0, none⟩) n.length q qn W.drew (Kd.C_drew (Kd.R_reads' HQ.out).2.2) (by rw [HQL.out]; exact Nat.le_refl _) HQN.out).mono ?_
   rintro e w6 ⟨v6, rfl, ho6, hb6⟩
   refine ⟨_, rfl, ?_⟩
   have d6 : Below W.heap.size W w6 := d1.trans (hb6.mono (Nat.le_refl _))
   have HO6 := Aside0.mk ho6
   refine hK.out _ _ ⟨Boxed.cell ((d6.block _ HG.out.1.lt).trans HG.out.1), Boxed.cell ((d6.block _ HG.out.2.lt).trans HG.out.2)⟩ (fun hHeld => ?_)
   clear hK K
   refine norm_ (a' := ?_) ?_ ?_
   rotate_left
   ·
    show Act.put _ (some 56) _ = _
    simp only [Act.put, List.setIfInBounds_toArray, List.set_cons_zero, List.set_cons_succ, i64_w, i32_w]
    rfl
   refine one_ (i := 4) (N := some 59) #[true, true, true, true, true, false, false, false] rfl rfl (by kernel_rfl) (by decide) (fun K hK => ?_)
   refine goes_ Try.func55 (by kernel_rfl) rfl #[.slice Ar r.length cr, .int .i64 s] (by rfl) rfl rfl (by simp only [List.map_toArray, List.map_cons, List.map_nil]; rfl) ?_
   refine (natdiv_shr.calls k Ar cr r s rs w6 (Kd.R_reads' (Kd.R_below HR.out d6)).2.2 (Kd.R_reads' HR.out).2.1 HRS.out).mono ?_
   rintro e w7 ⟨v7, rfl, ho7, hb7⟩
   refine ⟨_, rfl, ?_⟩
   have d7 : Below W.heap.size W w7 := d6.trans (hb7.mono d6.size)
   have HO7 := Aside0.mk ho7
   refine hK.out _ _ ⟨Boxed.cell ((d7.block _ HG.out.1.lt).trans HG.out.1), Boxed.cell ((d7.block _ HG.out.2.lt).trans HG.out.2)⟩ (fun hHeld => ?_)
   clear hK K
   refine norm_ (a' := ?_) ?_ ?_
   rotate_left
   ·
    show Act.put _ (some 59) _ = _
    simp only [Act.put, List.setIfInBounds_toArray, List.set_cons_zero, List.set_cons_succ, i64_w, i32_w]
    rfl
   refine pure_ (i := 5) (N := some 4) (v := ?_) (a' := ?_) #[true, true, true, true, true, true, false, false] rfl rfl (by kernel_rfl) (fun _ _ _ h => by cases h.1) (Or.inl ⟨by rfl, ?_⟩) ?_ ?_
   rotate_left
   ·
    intro w'
    go_simp
    with_reducible rfl
   rotate_left
   ·
    simp only [Act.put, List.setIfInBounds_toArray, List.set_cons_zero, List.set_cons_succ, i64_w, i32_w]
    rfl
   refine pure_ (i := 6) (N := some 5) (v := ?_) (a' := ?_) #[true, true, true, true, true, true, true, false] rfl rfl (by kernel_rfl) (fun _ _ _ h => by cases h.1) (Or.inl ⟨by rfl, ?_⟩) ?_ ?_
   rotate_left
   ·
    intro w'
    go_simp
    with_reducible rfl
   rotate_left
   ·
    simp only [Act.put, List.setIfInBounds_toArray, List.set_cons_zero, List.set_cons_succ, i64_w, i32_w]
    rfl
   refine pure_ (i := 7) (N := some 6) (v := ?_) (a' := ?_) #[true, true, true, true, true, true, true, true] rfl rfl (by kernel_rfl) (fun _ _ _ h => by cases h.1) (Or.inl ⟨by rfl, ?_⟩) ?_ ?_
   rotate_left
   ·
    intro w'
    go_simp
    with_reducible rfl
   rotate_left
   ·
    simp only [Act.put, List.setIfInBounds_toArray, List.set_cons_zero, List.set_cons_succ, i64_w, i32_w]
    rfl
   refine done_ (by kernel_rfl) ?_
   refine ⟨rfl, ?_⟩
   have hW7 : w7.heap[D]? = some (.deferred (some [])) := (d7.block _ hDl).trans HW.out
   gi_wp2_with fail
   refine ⟨by simp, .inl ⟨_, _, rfl, run_takeDeferred hW7, ?_⟩⟩
   refine ⟨.tuple #[v6, v7, .int .i64 0], ?_, v6, v7, rfl, ?_, ?_, ?_⟩
   ·
    simp [results, Try.f45, go_sem]
   ·
    refine R_noncells (Kd.R_mono (Kd.R_lower (Kd.R_elder' ho6 (Kd.R_base ho7) hb7) ?_) (fun _ h => h.2)) (grownBy_putObj' w7 D (.deferred none)) (fun r e => by cases e; exact ⟨_, hW7, rfl⟩)
    exact hwW
   ·
    refine R_noncells (Kd.R_mono (Kd.R_lower (Kd.R_new' ho7 (Kd.R_lt ho6)) ?_) (fun _ h => h.2)) (grownBy_putObj' w7 D (.deferred none)) (fun r e => by cases e; exact ⟨_, hW7, rfl⟩)
    have := d6.size
    omega
   ·
    exact ((HB.out.trans (d7.mono hwW))).grown (grownBy_putObj' w7 D (.deferred none)) (HB.out.trans (d7.mono hwW)).size (fun k e => by cases e; omega)
end Go.Proofs.Ytkjhjlnjkohlbaa.PR
