/- nat.Cmp answers which of two naturals is greater: by their sizes, else by the highest limb that parts them. -/
import Derived.Test.YtpdjahhimmaonaaDoorZBoundOwn28
import Derived.Test.YtpdjahhimmaonaaDoorZBoundOwn19
import Derived.Test.YtpdjahhimmaonaaDoorZBoundOwn29
import Derived.RangeFuncNested
import Derived.RangeFuncBound
import Derived.RangeFuncCalls
import Derived.RangeFuncLeaves
import Derived.Shelf.Abstract
import Derived.Shelf.RegionOpen
import Derived.OwnWalkIn
import Derived.TacticsInMore
import Derived.LoopNIn
import Derived.LoopIn
import Derived.Lib.Hide
import Derived.Outline
namespace Go.Proofs.YtpdjahhimmaonaaDoor.PD
open Go.RowKit Go.Shelf Go.Proofs.YtpdjahhimmaonaaDoorW.PrintWords Go.Proofs.YtpdjahhimmaonaaDoorW.PrintLast Go.Proofs.YtpdjahhimmaonaaDoorW.PrintMore
set_option linter.unusedVariables false
set_option linter.unusedSimpArgs false
attribute [local go_sem] Oper.semAt_some
abbrev PlaceOf (N : Nat) := { i : Int // 0 ≤ i ∧ i < (N : Int) }
def backTo (N : Nat) : Nat → List (PlaceOf N)
  | 0 => []
  | k + 1 => backTo N k ++ (if h : k < N then [⟨(N : Int) - 1 - k, by omega, by omega⟩] else [])
theorem backTo_succ (N k : Nat) (h : k < N) : backTo N (k + 1) = backTo N k ++ [⟨(N : Int) - 1 - k, by omega, by omega⟩] := by simp [backTo, h]
theorem backTo_length (N k : Nat) (h : k ≤ N) : (backTo N k).length = k := by
  induction k with
  | zero => rfl
  | succ k ih => rw [backTo_succ N k (by omega), List.length_append, ih (by omega)]; rfl
theorem backTo_mem (N k : Nat) (i : PlaceOf N) (h : (N : Int) - k ≤ i.1) : i ∈ backTo N k := by
  induction k with
  | zero => have := i.2; omega
  | succ k ih =>
    have := i.2
    by_cases hk : k < N
    · rw [backTo_succ N k hk]
      by_cases e : i.1 = (N : Int) - 1 - k
      · exact List.mem_append_right _ (List.mem_singleton.2 (Subtype.ext e))
      · exact List.mem_append_left _ (ih (by omega))
    · exact List.mem_append_left _ (ih (by omega))
set_option maxRecDepth 100000 in
set_option maxHeartbeats 2000000 in
theorem back1_in (F : Fence) (n : Nat) (h7 : F.fn 127) (hro : F.round = none) (hn : 1 ≤ n) (l Bs n₀ : Nat) (A0 : Option Addr) (N cap : Nat) (zs : List Int) (J Jx : List (PlaceOf N) → World → Prop)
    (hY : ∀ pre x W, J pre W → pre.length < N → YieldAt F (n - 1) Tryd.prog l #[.int .i64 x.1, .int .u64 (rd zs x.1)] W fun e W' =>
      (e = .returned (.bool true) ∧ J (pre ++ [x]) W' ∧ Below n₀ W W') ∨ (e = .returned (.bool false) ∧ Jx (pre ++ [x]) W'))
    (W : World) (hBs : W.cell? ⟨Bs, 0, none⟩ = some (.slice A0 N cap)) (hBsn : Bs < n₀) (hR : Hid (∀ W', Below n₀ W W' → ReadsInt W' .u64 A0 N zs)) (hmx : N ≤ 9223372036854775807) (h0 : J [] W) :
    CallsIn F n Tryd.prog 127 #[.func (.yield l) #[] #[], .pointer (some ⟨Bs, 0, none⟩)] W fun e W' => (∃ v, e = .returned v) ∧
      ((∃ ys, ys = backTo N N ∧ J ys W') ∨ (∃ pre, (∃ k, k ≤ N ∧ pre = backTo N k) ∧ Jx pre W')) := by
  refine callsIn_of_wp Tryd.func127 rfl h7 ?_ hro
  simp only [Tryd.ntmps127, List.size_toArray, List.length_cons, List.length_nil, Nat.reduceAdd, Nat.reduceSub, Array.replicate_succ, Array.replicate_zero, List.push_toArray, List.append_toArray, List.nil_append, List.cons_append]
  gi_wp2
  gi_loopw [3] (fun i wr => ∃ k : Nat, k ≤ N ∧ i = .int .i64 ((N : Int) - 1 - k) ∧ J (backTo N k) wr ∧ Below n₀ W wr)
    (fun i _ => (intOf i + 1).toNat)
  case atStart => exact ⟨0, Nat.zero_le _, by simp, h0, Below.refl _ _⟩
  case round =>
    obtain ⟨k, hk, rfl, hJs, hnx⟩ := hrel
    have hBs' := (hnx.cell (p := ⟨Bs, 0, none⟩) hBsn).trans hBs
    by_cases hlt : k < N
    · have hp : 0 ≤ (N : Int) - 1 - k ∧ (N : Int) - 1 - k < (N : Int) := by omega
      obtain ⟨x0, hx0⟩ : ∃ x0 : PlaceOf N, x0 = ⟨(N : Int) - 1 - k, hp⟩ := ⟨⟨_, hp⟩, rfl⟩
      have hv : x0.1 = (N : Int) - 1 - k := by rw [hx0]
      obtain ⟨fn, tmps, assign, body, hy, hR1⟩ := hY _ x0 wr hJs (by rw [backTo_length N k hk]; exact hlt)
      have Hsuc := Lib.hid (show backTo N (k + 1) = backTo N k ++ [x0] by rw [hx0]; exact backTo_succ N k hlt)
      obtain ⟨hb0, hb1⟩ := x0.2
      have hb2 : x0.1 ≤ 9223372036854775807 := by omega
      obtain ⟨ad, he, hc⟩ := (hR.out wr hnx).at_ x0.1 hb0 hb1
      cases he
      have Hi0 := Lib.hid hv
      have Hlt := Lib.hid hlt
      rw [← hv]
      clear hv hx0 hlt
      gi_wp2
      refine hR1.mono ?_
      rintro e W3 (⟨rfl, hJ3, hk3⟩ | ⟨rfl, hJx3⟩)
      · gi_wp2
        go_roundw
        case rel => exact ⟨k + 1, Hlt.out, by have := Hi0.out; congr 1; omega, by rw [Hsuc.out]; exact hJ3, hnx.trans hk3⟩
        case measure => simp [intOf]; omega
      · gi_wp2
        refine bodyPost_ret (results_none rfl _ _ _) rfl ?_
        exact ⟨⟨_, rfl⟩, .inr ⟨_, ⟨k + 1, Hlt.out, Hsuc.out.symm⟩, hJx3⟩⟩
    · obtain rfl : k = N := by omega
      have hm : (k : Int) - 1 - (k : Int) = -1 := by omega
      rw [hm]
      gi_wp2
      go_end0
      exact ⟨⟨_, rfl⟩, .inl ⟨_, rfl, hJs⟩⟩
set_option maxHeartbeats 1000000 in
theorem backward_in (F : Fence) (n : Nat) (h5 : F.fn 120) (hro : F.round = none) (a : Option Addr) (len cap : Nat) (w : World) :
    CallsIn F n Tryd.prog 120 #[.slice a len cap] w fun e w' => e = .returned (.func (.func 127) #[] #[.pointer (some ⟨w.heap.size, 0, none⟩)]) ∧ w' = w.alloc (.cells #[.slice a len cap] 30) := by
  refine callsIn_of_wp Tryd.func120 rfl h5 ?_ hro
  simp only [Tryd.ntmps120, List.size_toArray, List.length_cons, List.length_nil, Nat.reduceAdd, Nat.reduceSub, Array.replicate_succ, Array.replicate_zero, List.push_toArray, List.append_toArray, List.nil_append, List.cons_append]
  gi_wp2
  go_ret
  exact ⟨rfl, rfl⟩
theorem back_stops (F : Fence) (n : Nat) (h7 : F.fn 127) (hro : F.round = none) (hn : 1 ≤ n) (Bs n₀ : Nat) (A0 : Option Addr) (N cap : Nat) (zs : List Int) (w : World) (hBs : Bs < n₀) (hn₀ : n₀ ≤ w.heap.size)
    (hc : w.cell? ⟨Bs, 0, none⟩ = some (.slice A0 N cap)) (hR : ∀ W', Below n₀ w W' → ReadsInt W' .u64 A0 N zs) :
    SeqStopsK F n Tryd.prog 127 #[.pointer (some ⟨Bs, 0, none⟩)] (fun x : PlaceOf N => #[Value.int .i64 x.1, Value.int .u64 (rd zs x.1)]) (Below n₀) (fun ys => ys = backTo N N)
      (fun pre => ∃ k, k ≤ N ∧ pre = backTo N k) N w := fun l J Jx W hW _ _ hY h0 => by
  have hW' : Below n₀ w W := hW.mono hn₀
  have hc' := (hW'.cell (p := ⟨Bs, 0, none⟩) hBs).trans hc
  exact back1_in F n h7 hro hn l Bs n₀ A0 N cap zs J Jx hY W hc' hBs (Lib.hid (fun W' hW2 => hR W' (hW'.trans hW2))) (hR w (Below.refl _ _)).2.1 h0
def cmpDown (l0 l1 : List Int) : Nat → Int
  | 0 => 0
  | i + 1 => if rd l0 i = rd l1 i then cmpDown l0 l1 i else if rd l0 i < rd l1 i then -1 else 1
theorem cmpDown_step (l0 l1 : List Int) (i : Nat) (h : rd l0 i = rd l1 i) : cmpDown l0 l1 (i + 1) = cmpDown l0 l1 i := by simp [cmpDown, h]
theorem cmpDown_all (l0 l1 : List Int) (N : Nat) (h : ∀ i : Nat, i < N → rd l0 i = rd l1 i) : cmpDown l0 l1 N = 0 := by
  induction N with
  | zero => rfl
  | succ N ih => rw [cmpDown_step l0 l1 N (h N (by omega))]; exact ih (fun i hi => h i (by omega))
theorem cmpDown_at (l0 l1 : List Int) (N j : Nat) (hj : j < N) (h : ∀ i : Nat, j < i → i < N → rd l0 i = rd l1 i) (hne : rd l0 j ≠ rd l1 j) : cmpDown l0 l1 N = if rd l0 j < rd l1 j then -1 else 1 := by
  induction N with
  | zero => omega
  | succ N ih =>
    by_cases e : j = N
    · subst e; simp [cmpDown, hne]
    · rw [cmpDown_step l0 l1 N (h N (by omega) (by omega))]; exact ih (by omega) (fun i h1 h2 => h i h1 (by omega))
def nat_Cmp.f (k : Nat) (l0 l1 : List Int) : Option Int :=
  (nat_size.f k l0).bind fun n => (nat_size.f k l1).bind fun m => if 0 ≤ n ∧ n ≤ l0.length ∧ m ≤ l1.length then (if n = m then some (cmpDown l0 l1 n.toNat) else if n < m then some (-1) else some 1) else none
def cmpI (w : World) (A0 : Option Addr) (c0 : Nat) (l0 : List Int) (A1 : Option Addr) (c1 : Nat) (l1 : List Int) (N : Nat) (pre : List (PlaceOf N)) (W : World) : Prop :=
  ((∀ x ∈ pre, rd l0 x.1 = rd l1 x.1) ∧ Boxed W w.heap.size 30 (.slice A0 l0.length c0) ∧ Boxed W (w.heap.size + 1) 30 (.slice A1 l1.length c1) ∧ Boxed W (w.heap.size + 1 + 1) 3 (.int .i64 0)) ∧ Below w.heap.size w W
def cmpX (w : World) (l0 l1 : List Int) (N : Nat) (c : Code) (pre : List (PlaceOf N)) (W : World) : Prop :=
  (c = .ret ∧ ∃ ini last, pre = ini ++ [last] ∧ (∀ x ∈ ini, rd l0 x.1 = rd l1 x.1) ∧ rd l0 last.1 ≠ rd l1 last.1 ∧ Boxed W (w.heap.size + 1 + 1) 3 (.int .i64 (if rd l0 last.1 < rd l1 last.1 then -1 else 1))) ∧ Below w.heap.size w W
theorem cmpI_own {w : World} {A0 : Option Addr} {c0 : Nat} {l0 : List Int} {A1 : Option Addr} {c1 : Nat} {l1 : List Int} {N D : Nat} (hD : w.heap.size ≤ D) : OwnFrom D (cmpI w A0 c0 l0 A1 c1 l1 N) := by
  unfold cmpI
  exact OwnFrom.and (Own.from (fun s A B row hs hg hr => ⟨hs.1, hs.2.1.kept hg (fun e => by obtain ⟨o, h1, h2⟩ := hr _ e.symm; have := hs.2.1; unfold Boxed at this; rw [this] at h1; cases h1; cases h2), hs.2.2.1.kept hg (fun e => by obtain ⟨o, h1, h2⟩ := hr _ e.symm; have := hs.2.2.1; unfold Boxed at this; rw [this] at h1; cases h1; cases h2), hs.2.2.2.kept hg (fun e => by obtain ⟨o, h1, h2⟩ := hr _ e.symm; have := hs.2.2.2; unfold Boxed at this; rw [this] at h1; cases h1; cases h2)⟩) _) (ownFrom_below (Nat.le_refl _) hD)
theorem cmpX_own {w : World} {l0 l1 : List Int} {N D : Nat} (hD : w.heap.size ≤ D) (c : Code) : OwnFrom D (cmpX w l0 l1 N c) := by
  unfold cmpX
  exact OwnFrom.and (Own.from (fun s A B row hs hg hr => by
        obtain ⟨hc, ini, last, e1, e2, e3, e4⟩ := hs
        exact ⟨hc, ini, last, e1, e2, e3, e4.kept hg (fun e => by obtain ⟨o, h1, h2⟩ := hr _ e.symm; unfold Boxed at e4; rw [e4] at h1; cases h1; cases h2)⟩) _) (ownFrom_below (Nat.le_refl _) hD)
set_option maxRecDepth 100000 in
set_option maxHeartbeats 4000000 in
theorem nat_Cmp.calls (k : Nat) (A0 : Option Addr) (c0 : Nat) (l0 : List Int) (A1 : Option Addr) (c1 : Nat) (l1 : List Int) (r : Int) (w : World) (hr0 : Kd.C (Kd.int .u64) w A0 l0.length l0) (hc0 : l0.length ≤ c0) (hr1 : Kd.C (Kd.int .u64) w A1 l1.length l1) (hc1 : l1.length ≤ c1) (h : nat_Cmp.f k l0 l1 = some r) :
    Calls Tryd.prog 101 #[.slice A0 l0.length c0, .slice A1 l1.length c1] w fun e w' => e = .returned (.int .i64 r) ∧ Below w.heap.size w w' := by
  unfold nat_Cmp.f at h
  replace h := Option.bind_eq_some_iff.mp h
  obtain ⟨n, hn, h⟩ := h
  replace h := Option.bind_eq_some_iff.mp h
  obtain ⟨m, hm, h⟩ := h
  split at h
  case isFalse => cases h
  case isTrue hb =>
  obtain ⟨hb0, hb1, hb2⟩ := hb
  have HN := Aside0.mk hn
  have HM := Aside0.mk hm
  have HR0 := Aside0.mk hr0
  have HR1 := Aside0.mk hr1
  clear hn hm hr0 hr1
  have bel0 : Below w.heap.size w (((w.alloc (.cells #[.slice A0 l0.length c0] 30)).alloc (.cells #[.slice A1 l1.length c1] 30)).alloc (.cells #[.int .i64 0] 3)) := (((Below.refl _ _).alloc (Nat.le_refl _) _).alloc (by simp) _).alloc (by simp; omega) _
  have HB0 := Aside0.mk bel0
  clear bel0
  refine (callsIn_wide (n := 6)).1 ?_
  refine callsIn_of_wp_marks Tryd.func101 rfl trivial ?_ rfl
  simp only [Tryd.ntmps101, List.size_toArray, List.length_cons, List.length_nil, Nat.reduceAdd, Nat.reduceSub, Array.replicate_succ, Array.replicate_zero, List.push_toArray, List.append_toArray, List.nil_append, List.cons_append]
  have Hh := Aside0.mk h
  clear h
  gi_wp2_with fail
  refine ⟨trivial, ?_⟩
  refine (callsIn_wide.2 (nat_size.calls k A0 c0 l0 n _ (Kd.C_below HR0.out HB0.out) hc0 HN.out)).mono ?_
  rintro e w1 ⟨rfl, ⟨d1, rfl⟩⟩
  gi_wp2_with fail
  refine ⟨trivial, ?_⟩
  refine (callsIn_wide.2 (nat_size.calls k A1 c1 l1 m _ (Kd.C_below HR1.out (pw_below_drewN HB0.out _)) hc1 HM.out)).mono ?_
  rintro e w2 ⟨rfl, ⟨d2, rfl⟩⟩
  have hA0 : Boxed (((w.alloc (.cells #[.slice A0 l0.length c0] 30)).alloc (.cells #[.slice A1 l1.length c1] 30)).alloc (.cells #[.int .i64 0] 3)) w.heap.size 30 (.slice A0 l0.length c0) := ((Boxed.new _ _ _).alloc _).alloc _
  have hB0' : Boxed (((w.alloc (.cells #[.slice A0 l0.length c0] 30)).alloc (.cells #[.slice A1 l1.length c1] 30)).alloc (.cells #[.int .i64 0] 3)) (w.heap.size + 1) 30 (.slice A1 l1.length c1) := by
    have := Boxed.new (w.alloc (.cells #[.slice A0 l0.length c0] 30)) 30 (.slice A1 l1.length c1)
    rw [World.size_alloc] at this
    exact this.alloc _
  have hC0 : Boxed (((w.alloc (.cells #[.slice A0 l0.length c0] 30)).alloc (.cells #[.slice A1 l1.length c1] 30)).alloc (.cells #[.int .i64 0] 3)) (w.heap.size + 1 + 1) 3 (.int .i64 0) := by
    have := Boxed.new ((w.alloc (.cells #[.slice A0 l0.length c0] 30)).alloc (.cells #[.slice A1 l1.length c1] 30)) 3 (.int .i64 0)
    rw [World.size_alloc, World.size_alloc] at this
    exact this
  have hbel0 := HB0.out
  clear HB0
  obtain ⟨W0, hW0⟩ : ∃ W0, ((((w.alloc (.cells #[.slice A0 l0.length c0] 30)).alloc (.cells #[.slice A1 l1.length c1] 30)).alloc (.cells #[.int .i64 0] 3)).drewN d1).drewN d2 = W0 := ⟨_, rfl⟩
  have hA : Boxed W0 w.heap.size 30 (.slice A0 l0.length c0) := by rw [← hW0]; exact hA0
  have hB : Boxed W0 (w.heap.size + 1) 30 (.slice A1 l1.length c1) := by rw [← hW0]; exact hB0'
  have hC : Boxed W0 (w.heap.size + 1 + 1) 3 (.int .i64 0) := by rw [← hW0]; exact hC0
  have hbel : Below w.heap.size w W0 := by rw [← hW0]; exact pw_below_drewN (pw_below_drewN hbel0 _) _
  have hsz : w.heap.size + 1 + 1 < W0.heap.size := hC.lt
  rw [hW0]
  clear hW0 hA0 hB0' hC0 hbel0
  have HB0 := Aside0.mk hbel
  have HBX := Aside0.mk (And.intro hA (And.intro hB hC))
  have hA1 := hA.cell
  have hB1 := hB.cell
  have hC1 := hC.cell
  have hC2 := hC.frozen
  clear hA hB hC hbel
  have h := Hh.out
  clear Hh
  obtain ⟨N, rfl⟩ := Int.eq_ofNat_of_zero_le hb0
  by_cases hnm : (N : Int) = m
  · subst hnm
    rw [if_pos rfl, Int.toNat_natCast] at h
    obtain rfl := Option.some.inj h
    clear h
    have hN : N ≤ l0.length := by omega
    have hN1 : N ≤ c0 := by omega
    gi_wp2_with fail
    refine ⟨trivial, ?_⟩
    refine (backward_in Fence.wide 5 trivial rfl _ _ _ _).mono ?_
    rintro e w' ⟨rfl, rfl⟩
    obtain ⟨hA, hB, hC⟩ := HBX.out
    have bA := hA.alloc (.cells #[.slice A0 N c0] 30)
    have bB := hB.alloc (.cells #[.slice A0 N c0] 30)
    have bC := hC.alloc (.cells #[.slice A0 N c0] 30)
    have bN := Boxed.new W0 30 (.slice A0 N c0)
    have hsz1 : w.heap.size ≤ W0.heap.size := HB0.out.size
    have hB1 : Below w.heap.size w (W0.alloc (.cells #[.slice A0 N c0] 30)) := HB0.out.alloc hsz1 _
    have hRA := Kd.reads_of_C (d := (0 : Int)) HR0.out
    have hRA : ReadsInt w .u64 A0 l0.length l0 := hRA
    have hRB := Kd.reads_of_C (d := (0 : Int)) HR1.out
    have hRB : ReadsInt w .u64 A1 l1.length l1 := hRB
    clear hA hB hC
    obtain ⟨W1, hW1⟩ : ∃ W1, W0.alloc (.cells #[.slice A0 N c0] 30) = W1 := ⟨_, rfl⟩
    have hsz2 : W1.heap.size = W0.heap.size + 1 := by rw [← hW1, World.size_alloc]
    rw [hW1] at bA bB bC bN hB1 ⊢
    clear hW1
    gi_wp2_with fail
    refine wpIn_rangeFunc_ownG (n := 6) rfl (by decide) (gf := 127) (lb := #[.pointer (some ⟨W0.heap.size, 0, none⟩)]) rfl trivial (enters_of Tryd.func127 (by kernel_rfl) rfl)
      (back_stops Fence.wide 5 trivial rfl (by decide) W0.heap.size W1.heap.size A0 N c0 (l0.take N) W1 (by omega) (Nat.le_refl _) bN.cell
        (fun W' hW' => by
          have hb := hB1.trans (hW'.mono hB1.size)
          have := (hRA.below hb).take_ N (by omega)
          exact this)) belowK_t (belowK_b (by omega)) (Below.refl _ _) (fun _ => rfl)
      (cmpI w A0 c0 l0 A1 c1 l1 N)
      (cmpX w l0 l1 N)
      (cmpI_own (by omega)) (fun c => cmpX_own (by omega) c)
      ⟨⟨by simp, bA, bB, bC⟩, hB1⟩
      (fun x => { tmps := #[.slice A0 l0.length c0, .slice A1 l1.length c1, .pointer (some ⟨w.heap.size, 0, none⟩), .pointer (some ⟨w.heap.size + 1, 0, none⟩), .pointer (some ⟨w.heap.size + 1 + 1, 0, none⟩), .int .i64 N, .int .i64 N, .int .i64 x.1, .slice A0 l0.length c0, .int .i64 N, .slice A1 l1.length c1, .int .i64 N, .int .i64 N, .int .i64 N, .bool false, undef, undef, undef, undef, .slice A0 l0.length c0, .int .i64 N, .slice A0 N c0, .func (.func 127) #[] #[.pointer (some ⟨W0.heap.size, 0, none⟩)], .int .i64 x.1, .int .u64 (rd (l0.take N) x.1), undef, undef, undef, undef, undef, undef, undef, undef, undef, undef, undef, undef, undef, undef, undef, undef, undef, undef, undef], defers := [] }) ?assign ?body ?done ?stop
    case assign =>
      intro l x W K hK
      gi_wp2
      exact hK
    case body =>
      rintro l pre x W ⟨⟨hpre, wA, wB, wC⟩, hbw⟩ _
      obtain ⟨hx0, hx1⟩ := x.2
      obtain ⟨ad0, he0, hc0'⟩ := (hRA.below hbw).at_ x.1 hx0 (by omega)
      obtain ⟨ad1, he1, hc1'⟩ := (hRB.below hbw).at_ x.1 hx0 (by omega)
      have hcA := wA.cell
      have hcB := wB.cell
      have hcC := wC.cell
      have hfC := wC.frozen
      have hx2 : x.1 < (l0.length : Int) := by omega
      have hx3 : x.1 < (l1.length : Int) := by omega
      by_cases hq : rd l0 x.1 = rd l1 x.1
      · have hq1 : (rd l0 x.1 != rd l1 x.1) = false := bne_eq_false_iff_eq.mpr hq
        have Hq := Lib.hid hq
        clear hq
        gi_wp2
        refine rq_region rfl (by kernel_rfl) (by kernel_rfl) rfl ?_
        repeat (quiet_step_in (fail))
        refine wpQuietIn_nil ?_
        rintro _ ⟨nq, rfl⟩
        gi_wp2
        exact ⟨(show KeepsOthers W (W.drewN nq) from ⟨Nat.le_refl _, fun _ _ h _ => h⟩).from _, pw_below_drewN (Below.refl _ _) _, ⟨fun y hy => (List.mem_append.1 hy).elim (hpre y) (fun e => by rw [List.mem_singleton.1 e]; exact Hq.out), wA, wB, wC⟩, pw_below_drewN hbw _⟩
      · have hq1 : (rd l0 x.1 != rd l1 x.1) = true := bne_iff_ne.mpr hq
        have Hq := Lib.hid hq
        clear hq
        gi_wp2
        refine rq_region rfl (by kernel_rfl) (by kernel_rfl) rfl ?_
        repeat (quiet_step_in (fail))
        refine wpQuietIn_nil ?_
        rintro _ ⟨nq, rfl⟩
        gi_wp2
        obtain ⟨W2, hW2⟩ : ∃ W2, W.drewN nq = W2 := ⟨_, rfl⟩
        have kA : KeepsOthers W W2 := by rw [← hW2]; exact ⟨Nat.le_refl _, fun _ _ h _ => h⟩
        have kB : Below W1.heap.size W W2 := by rw [← hW2]; exact pw_below_drewN (Below.refl _ _) _
        have kBw : Below w.heap.size w W2 := by rw [← hW2]; exact pw_below_drewN hbw _
        have kC : Boxed W2 (w.heap.size + 1 + 1) 3 (.int .i64 0) := by rw [← hW2]; exact wC
        have gA : W2.cell? ⟨w.heap.size, 0, none⟩ = some (.slice A0 l0.length c0) := by rw [← hW2]; exact hcA
        have gB : W2.cell? ⟨w.heap.size + 1, 0, none⟩ = some (.slice A1 l1.length c1) := by rw [← hW2]; exact hcB
        have gC : W2.cell? ⟨w.heap.size + 1 + 1, 0, none⟩ = some (.int .i64 0) := by rw [← hW2]; exact hcC
        have gF : W2.frozen? ⟨w.heap.size + 1 + 1, 0, none⟩ = false := by rw [← hW2]; exact hfC
        have g0 : W2.cell? (ad0.add x.1.toNat) = some (.int .u64 (rd l0 x.1)) := by rw [← hW2]; exact hc0'
        have g1 : W2.cell? (ad1.add x.1.toNat) = some (.int .u64 (rd l1 x.1)) := by rw [← hW2]; exact hc1'
        rw [hW2]
        clear hW2 hcA hcB hcC hfC hc0' hc1'
        have fin : ∀ (z : Int) (d : Nat), z = (if rd l0 x.1 < rd l1 x.1 then -1 else 1) → KeepsFrom W1.heap.size W ((W2.drewN d).setCell ⟨w.heap.size + 1 + 1, 0, none⟩ (.int .i64 z)) ∧
            cmpX w l0 l1 N .ret (pre ++ [x]) ((W2.drewN d).setCell ⟨w.heap.size + 1 + 1, 0, none⟩ (.int .i64 z)) := by
          intro z d hz
          have kd : KeepsOthers W (W2.drewN d) := kA.trans ⟨Nat.le_refl _, fun _ _ h _ => h⟩
          have kCd : Boxed (W2.drewN d) (w.heap.size + 1 + 1) 3 (.int .i64 0) := kC
          refine ⟨(kd.trans (KeepsOthers.setCell _ _ _)).from _, ⟨rfl, pre, x, rfl, hpre, Hq.out, ?_⟩, (pw_below_drewN kBw d).setCell (p := ⟨w.heap.size + 1 + 1, 0, none⟩) (by simp; omega) _⟩
          rw [← hz]
          exact kCd.set _
        by_cases hlt : rd l0 x.1 < rd l1 x.1
        · have hd : decide (rd l0 x.1 < rd l1 x.1) = true := decide_eq_true hlt
          have Hf := Lib.hid (fun d => fin (-1) d (by rw [if_pos hlt]))
          clear hlt fin Hq
          refine rq_tail (m := 10) rfl (by kernel_rfl) rfl rfl rfl (by kernel_rfl) rfl ?_
          simp only [List.take_succ_cons, List.take_zero]
          repeat (
            refine wpQuietIn_step (fun _ _ _ _ => trivial) (fun K hK => ?_)
            go_simp
            first
              | (refine hK _ ?_; clear hK K)
              | (apply Exists.intro
                 refine ⟨fun _ => ?_, hK _ ?_⟩
                 (exact CallsIn.quiet_of ((CallsIn.inRound l (callsIn_wide.2 (nat_order.calls _ (-1) _ rfl))).mono (fun e w' h => ⟨h.1, h.2.out⟩)))
                 clear hK K))
          refine wpQuietIn_nil ?_
          rintro _ ⟨nq2, rfl⟩
          go_simp
          gi_wp2
          exact Hf.out _
        · have hd : decide (rd l0 x.1 < rd l1 x.1) = false := decide_eq_false hlt
          have Hf := Lib.hid (fun d => fin 1 d (by rw [if_neg hlt]))
          clear hlt fin Hq
          refine rq_tail (m := 10) rfl (by kernel_rfl) rfl rfl rfl (by kernel_rfl) rfl ?_
          simp only [List.take_succ_cons, List.take_zero]
          repeat (
            refine wpQuietIn_step (fun _ _ _ _ => trivial) (fun K hK => ?_)
            go_simp
            first
              | (refine hK _ ?_; clear hK K)
              | (apply Exists.intro
                 refine ⟨fun _ => ?_, hK _ ?_⟩
                 (exact CallsIn.quiet_of ((CallsIn.inRound l (callsIn_wide.2 (nat_order.calls _ 1 _ rfl))).mono (fun e w' h => ⟨h.1, h.2.out⟩)))
                 clear hK K))
          refine wpQuietIn_nil ?_
          rintro _ ⟨nq2, rfl⟩
          go_simp
          gi_wp2
          exact Hf.out _
    case done =>
      rintro D ys W hD rfl ⟨⟨hall, wA, wB, wC⟩, hbw⟩ hK
      have hz : cmpDown l0 l1 N = 0 := cmpDown_all l0 l1 N (fun i hi => hall ⟨(i : Int), by omega, by omega⟩ (backTo_mem N N _ (by simp)))
      have Hz := Lib.hid hz
      clear hz hall
      have hcC := wC.cell
      have hfC := wC.frozen
      gi_wp2
      have hK' := (KeepsOthers.setCell W ⟨w.heap.size + 1 + 1, 0, none⟩ (.int .i64 0)).same D _ hK rfl
      refine ⟨by simp, .inl ⟨_, _, rfl, run_takeDeferred hK', ?_⟩⟩
      have hc5 := cell_kept (World.cell?_setCell_same' W ⟨w.heap.size + 1 + 1, 0, none⟩ (.int .i64 0) (by rw [hcC]; rfl)) (grownBy_putObj' _ D (.deferred none)) (fun r e => by cases e; exact ⟨_, hK', rfl⟩)
      refine ⟨.int .i64 0, ?_, by rw [Hz.out], (hbw.setCell (p := ⟨w.heap.size + 1 + 1, 0, none⟩) (by simp; omega) _).trans (belowK_b (w := w) (Nat.le_refl _) _ D _ _ (by omega) hK' rfl rfl)⟩
      simp [results, Tryd.f101, go_sem, hc5]
    case stop =>
      rintro D c pre W hD ⟨k', hk', rfl⟩ ⟨⟨rfl, ini, last, e1, e2, e3, wC⟩, hbw⟩ hK
      have hz : cmpDown l0 l1 N = if rd l0 last.1 < rd l1 last.1 then -1 else 1 := by
        obtain ⟨k1, rfl⟩ : ∃ k1, k' = k1 + 1 := by
          cases k' with
          | zero => exact absurd (congrArg List.length e1) (by simp [backTo])
          | succ k1 => exact ⟨k1, rfl⟩
        rw [backTo_succ N k1 (by omega)] at e1
        obtain ⟨rfl, e5⟩ := List.append_inj' e1 rfl
        have hl1 : last.1 = (N : Int) - 1 - k1 := by
          have : (⟨(N : Int) - 1 - k1, by omega, by omega⟩ : PlaceOf N) = last := by simpa using e5
          rw [← this]
        have hl2 : last.1 = ((N - 1 - k1 : Nat) : Int) := by omega
        rw [hl2] at e3 ⊢
        refine cmpDown_at l0 l1 N (N - 1 - k1) (by omega) (fun i h1 h2 => ?_) e3
        exact e2 ⟨(i : Int), by omega, by omega⟩ (backTo_mem N k1 _ (by simp; omega))
      have hcC := wC.cell
      clear e1 e2 e3
      gi_wp2
      refine ⟨by simp, .inl ⟨_, _, rfl, run_takeDeferred hK, ?_⟩⟩
      have hc5 := cell_kept hcC (grownBy_putObj' _ D (.deferred none)) (fun r e => by cases e; exact ⟨_, hK, rfl⟩)
      refine ⟨.int .i64 (if rd l0 last.1 < rd l1 last.1 then -1 else 1), ?_, by rw [hz], hbw.trans (belowK_b (w := w) (Nat.le_refl _) W D _ _ (by omega) hK rfl rfl)⟩
      simp [results, Tryd.f101, go_sem, hc5]
  · rw [if_neg hnm] at h
    have hne : ((N : Int) != m) = true := bne_iff_ne.mpr hnm
    have hne' : ((N : Int) == m) = false := beq_eq_false_iff_ne.mpr hnm
    by_cases hlt : (N : Int) < m
    · rw [if_pos hlt] at h
      obtain rfl := Option.some.inj h
      have hd : decide ((N : Int) < m) = true := decide_eq_true hlt
      clear h hlt
      gi_wp2_with fail
      refine ⟨trivial, ?_⟩
      refine (callsIn_wide.2 (nat_order.calls _ (-1) _ rfl)).mono ?_
      rintro e w3 ⟨rfl, ⟨d3, rfl⟩⟩
      gi_wp2_with fail
      have hc5 := World.cell?_setCell_same' (W0.drewN d3) ⟨w.heap.size + 1 + 1, 0, none⟩ (.int .i64 (-1)) (by rw [World.cell?_drewN, hC1]; rfl)
      refine ⟨.int .i64 (-1), ?_, rfl, (pw_below_drewN HB0.out d3).setCell (p := ⟨w.heap.size + 1 + 1, 0, none⟩) (by simp; omega) _⟩
      simp [results, Tryd.f101, go_sem, hc5]
    · rw [if_neg hlt] at h
      obtain rfl := Option.some.inj h
      have hd : decide ((N : Int) < m) = false := decide_eq_false hlt
      clear h hlt
      gi_wp2_with fail
      refine ⟨trivial, ?_⟩
      refine (callsIn_wide.2 (nat_order.calls _ 1 _ rfl)).mono ?_
      rintro e w3 ⟨rfl, ⟨d3, rfl⟩⟩
      gi_wp2_with fail
      have hc5 := World.cell?_setCell_same' (W0.drewN d3) ⟨w.heap.size + 1 + 1, 0, none⟩ (.int .i64 1) (by rw [World.cell?_drewN, hC1]; rfl)
      refine ⟨.int .i64 1, ?_, rfl, (pw_below_drewN HB0.out d3).setCell (p := ⟨w.heap.size + 1 + 1, 0, none⟩) (by simp; omega) _⟩
      simp [results, Tryd.f101, go_sem, hc5]
end Go.Proofs.YtpdjahhimmaonaaDoor.PD
