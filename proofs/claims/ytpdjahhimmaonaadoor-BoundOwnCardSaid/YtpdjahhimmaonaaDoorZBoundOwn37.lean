/- nat.Mul answers a product's limbs: row by row, each row added to what stands, and cut where zeros begin. -/
import Derived.Test.YtpdjahhimmaonaaDoorZBoundOwn19
import Derived.Test.YtpdjahhimmaonaaDoorZBoundOwn25
import Derived.Test.YtpdjahhimmaonaaDoorZBoundOwn36
import Derived.Lib.Hide
namespace Go.Proofs.YtpdjahhimmaonaaDoor.PD
open Go.RowKit Go.Proofs.YtpdjahhimmaonaaDoorW.PrintWords Go.Proofs.YtpdjahhimmaonaaDoorW.PrintLast Go.Proofs.YtpdjahhimmaonaaDoorW.PrintMore
set_option linter.unusedVariables false
set_option linter.unusedSimpArgs false
def nat_row.go (off : Nat) (x : Int) : List Int → Nat → Int → List Int → Option (List Int)
 | [], i, carry, L => some (L.set (off + i) carry)
 | y :: ys, i, carry, L => (bits_Mul64.f x y).bind fun p => (bits_Add64.f p.2 carry 0).bind fun q => (bits_Add64.f (rd L ((off + i : Nat) : Int)) q.1 0).bind fun r =>
   nat_row.go off x ys (i + 1) (IntKind.u64.wrap (IntKind.u64.wrap (p.1 + q.2) + r.2)) (L.set (off + i) r.1)
theorem nat_row.go_length (off : Nat) (x : Int) : ∀ (ys : List Int) (i : Nat) (c : Int) (L r : List Int), nat_row.go off x ys i c L = some r → r.length = L.length
 | [], i, c, L, r, h => by simp only [nat_row.go, Option.some.injEq] at h; rw [← h]; simp
 | y :: ys, i, c, L, r, h => by
  simp only [nat_row.go] at h
  obtain ⟨p, _, h⟩ := Option.bind_eq_some_iff.mp h
  obtain ⟨q, _, h⟩ := Option.bind_eq_some_iff.mp h
  obtain ⟨t, _, h⟩ := Option.bind_eq_some_iff.mp h
  have := nat_row.go_length off x ys (i + 1) _ _ r h
  rw [this]; simp
def rowRel (w0 : World) (g M cap off : Nat) (x : Int) (l1 : List Int) (r : List Int) (k : Nat) (cy : Int) (wr : World) : Prop :=
 ∃ L, L.length = M ∧ wr.ownsRow w0.heap.size 22 1 (.slice (some ⟨g, 0, none⟩) M cap) M (nums .u64 L) ∧ Below w0.heap.size w0 wr ∧ nat_row.go off x (l1.drop k) k cy L = some r
set_option maxHeartbeats 2000000 in
set_option maxRecDepth 100000 in
theorem nat_row.calls (w0 : World) (g M cap off n c : Nat) (A1 : Option Addr) (c1 : Nat) (l1 : List Int) (x : Int) (L r : List Int) (w : World)
  (hr : ∀ W', Below w0.heap.size w0 W' → ReadsInt W' .u64 A1 l1.length l1) (hc1 : l1.length ≤ c1) (hL : L.length = M) (hoff : off + l1.length < M) (hn : n = M - off) (hM : M ≤ 35184372088832)
  (ho : w.ownsRow w0.heap.size 22 1 (.slice (some ⟨g, 0, none⟩) M cap) M (nums .u64 L)) (hb : Below w0.heap.size w0 w) (h : nat_row.go off x l1 0 0 L = some r) :
  Calls Tryd.prog 124 #[.slice (some ⟨g, off, none⟩) n c, .slice A1 l1.length c1, .int .u64 x] w fun e w' => e = .returned (.tuple #[]) ∧
   w'.ownsRow w0.heap.size 22 1 (.slice (some ⟨g, 0, none⟩) M cap) M (nums .u64 r) ∧ Below w0.heap.size w0 w' := by
 have Hr := Lib.hid hr
 have Hg : w0.heap.size ≤ g := own_base ho g rfl
 have Hrel := Aside0.mk (show rowRel w0 g M cap off x l1 r 0 0 w from ⟨L, hL, ho, hb, by simpa using h⟩)
 have Hn := Lib.hid hn
 have hn1 : l1.length < n := by omega
 have hl1 : l1.length ≤ 35184372088832 := by omega
 clear hr h ho hb hL hn
 go_enter Tryd.func124, Tryd.ntmps124
 go_wp2
 go_loopw [6, 14] (fun cy i wr => ∃ (k : Nat) (z : Int), k ≤ l1.length ∧ i = .int .i64 k ∧ cy = .int .u64 z ∧ Aside0 (rowRel w0 g M cap off x l1 r k z wr)) (fun _ i _ => l1.length - (intOf i).toNat)
 case atStart => exact ⟨0, 0, Nat.zero_le _, rfl, rfl, Hrel⟩
 case round =>
  clear Hrel
  obtain ⟨k, z, hk, rfl, rfl, HL⟩ := hrel
  obtain ⟨L', hL', ho, hb, h⟩ := HL.out
  by_cases hlt : k < l1.length
  ·
   rw [List.drop_eq_getElem_cons hlt] at h
   simp only [nat_row.go] at h
   obtain ⟨⟨p1, p2⟩, hp, h⟩ := Option.bind_eq_some_iff.mp h
   obtain ⟨⟨q1, q2⟩, hq, h⟩ := Option.bind_eq_some_iff.mp h
   obtain ⟨⟨r1, r2⟩, hs, h⟩ := Option.bind_eq_some_iff.mp h
   have hy : l1[k] = rd l1 (k : Int) := by simp [rd, List.getD_eq_getElem?_getD, List.getElem?_eq_getElem hlt]
   rw [hy] at hp
   have HP := Aside0.mk hp
   have HQ := Aside0.mk hq
   have HS := Aside0.mk hs
   obtain ⟨ad, he, hc⟩ := (Hr.out wr hb).at_ (k : Int) (by omega) (by omega)
   cases he
   obtain ⟨hcell, hfree⟩ := own_at ho ((off + k : Nat) : Int) (by omega) (by omega)
   simp only [Int.toNat_natCast] at hc hcell hfree
   have HF := fun d : Nat => Aside0.mk (show rowRel w0 g M cap off x l1 r (k + 1) (IntKind.u64.wrap (IntKind.u64.wrap (p1 + q2) + r2)) ((wr.drewN d).setCell ⟨g, off + k, none⟩ (.int .u64 r1)) from
    ⟨L'.set (off + k) r1, by simpa using hL', by
     have ho' : (wr.drewN d).ownsRow w0.heap.size 22 1 (.slice (some ⟨g, 0, none⟩) M cap) M (nums .u64 L') := ho
     have h2 := (own_store ho' ((off + k : Nat) : Int) r1).1
     simp only [Int.toNat_natCast] at h2
     exact h2, (pw_below_drewN hb d).setCell (p := ⟨g, off + k, none⟩) Hg _, h⟩)
   have hkn : k < n := by omega
   clear hp hq hs h ho hb HL hL' hy
   go_wp2_with fail
   refine (bits_Mul64.calls _ _ p1 p2 _ HP.out).mono ?_
   rintro e w' ⟨rfl, ⟨d1, rfl⟩⟩
   go_wp2_with (first
    | ((with_reducible refine gate_callee (f := 121) rfl ?_); refine goesX_ (some 28) rfl rfl #[.int .u64 p2, .int .u64 z, .int .u64 0] rfl (by (try simp only [List.map_toArray, List.map_cons, List.map_nil]); first | done | rfl) ?_; (with_reducible refine (bits_Add64.calls _ _ _ q1 q2 _ HQ.out).mono ?_); rintro e w' ⟨rfl, ⟨d2, rfl⟩⟩; refine ⟨_, rfl, ?_⟩)
    | ((with_reducible refine gate_callee (f := 121) rfl ?_); refine goesX_ (some 42) rfl rfl #[.int .u64 (rd L' ((off + k : Nat) : Int)), .int .u64 q1, .int .u64 0] rfl (by (try simp only [List.map_toArray, List.map_cons, List.map_nil]); first | done | rfl) ?_; (with_reducible refine (bits_Add64.calls _ _ _ r1 r2 _ HS.out).mono ?_); rintro e w' ⟨rfl, ⟨d3, rfl⟩⟩; refine ⟨_, rfl, ?_⟩))
   go_roundw
   case rel => exact ⟨k + 1, _, by omega, by go_num, rfl, HF _⟩
   case measure => simp [intOf]; omega
  ·
   obtain rfl : k = l1.length := by omega
   rw [List.drop_of_length_le (Nat.le_refl _)] at h
   simp only [nat_row.go, Option.some.injEq] at h
   subst h
   obtain ⟨hcell, hfree⟩ := own_at ho ((off + l1.length : Nat) : Int) (by omega) (by omega)
   simp only [Int.toNat_natCast] at hcell hfree
   obtain ⟨ho2, hg2⟩ := own_store ho ((off + l1.length : Nat) : Int) z
   simp only [Int.toNat_natCast] at ho2 hg2
   have hb2 := hb.setCell (p := ⟨g, off + l1.length, none⟩) Hg (.int .u64 z)
   have HO2 := Aside0.mk ho2
   have HB2 := Aside0.mk hb2
   clear ho2 hg2 hb2 ho hb HL hL'
   go_wp2_with fail
   go_end0
   exact ⟨rfl, HO2.out, HB2.out⟩
def mulGo (l0 : List Int) : List Int → Nat → List Int → Option (List Int)
 | [], _, out => some out
 | x :: xs, i, out => (nat_row.go i x l0 0 0 out).bind fun o => mulGo l0 xs (i + 1) o
theorem mulGo_length (l0 : List Int) : ∀ (xs : List Int) (i : Nat) (L r : List Int), mulGo l0 xs i L = some r → r.length = L.length
 | [], i, L, r, h => by simp only [mulGo, Option.some.injEq] at h; rw [h]
 | x :: xs, i, L, r, h => by
  simp only [mulGo] at h
  obtain ⟨o, h1, h2⟩ := Option.bind_eq_some_iff.mp h
  rw [mulGo_length l0 xs (i + 1) o r h2, nat_row.go_length _ _ _ _ _ _ _ h1]
def nat_Mul.f (k : Nat) (l0 l1 : List Int) : Option (List Int) :=
 if l0.length + l1.length + 1 ≤ 35184372088832 then (mulGo l0 l1 0 (List.replicate (l0.length + l1.length + 1) 0)).bind fun out => (nat_size.f k out).bind fun n => if 0 ≤ n ∧ n ≤ (out.length : Int) then some (out.take n.toNat) else none else none
def mulRel (w : World) (g M cap : Nat) (l0 l1 : List Int) (r : List Int) (k : Nat) (wr : World) : Prop :=
 ∃ L, L.length = M ∧ wr.ownsRow w.heap.size 22 1 (.slice (some ⟨g, 0, none⟩) M cap) M (nums .u64 L) ∧ Below w.heap.size w wr ∧ mulGo l0 (l1.drop k) k L = some r
set_option maxHeartbeats 2000000 in
set_option maxRecDepth 100000 in
theorem nat_Mul.calls (k : Nat) (A0 : Option Addr) (c0 : Nat) (l0 : List Int) (A1 : Option Addr) (c1 : Nat) (l1 : List Int) (r : List Int) (w : World) (hr0 : Kd.C (Kd.int .u64) w A0 l0.length l0) (hc0 : l0.length ≤ c0) (hr1 : Kd.C (Kd.int .u64) w A1 l1.length l1) (hc1 : l1.length ≤ c1) (h : nat_Mul.f k l0 l1 = some r) :
  Calls Tryd.prog 109 #[.slice A0 l0.length c0, .slice A1 l1.length c1] w fun e w' => ∃ v0_ : Value, e = .returned (v0_) ∧ Kd.R (Kd.int .u64) 22 w' w.heap.size (fun _ => True) v0_ r ∧ Below w.heap.size w w' := by
 unfold nat_Mul.f at h
 split at h
 case isFalse => cases h
 case isTrue hlen =>
 obtain ⟨out, hout, h⟩ := Option.bind_eq_some_iff.mp h
 obtain ⟨n, hn, h⟩ := Option.bind_eq_some_iff.mp h
 split at h
 case isFalse => cases h
 case isTrue hnb =>
 obtain rfl := Option.some.inj h
 obtain ⟨hn0, hn1⟩ := hnb
 have hol : out.length = l0.length + l1.length + 1 := by rw [mulGo_length _ _ _ _ _ hout]; simp
 have hRA := Kd.reads_of_C (d := (0 : Int)) hr0
 have hRA : ReadsInt w .u64 A0 l0.length l0 := hRA
 have hRB := Kd.reads_of_C (d := (0 : Int)) hr1
 have hRB : ReadsInt w .u64 A1 l1.length l1 := hRB
 have HA := Lib.hid (fun W' (hb : Below w.heap.size w W') => hRA.below hb)
 have HB := Lib.hid (fun W' (hb : Below w.heap.size w W') => hRB.below hb)
 have HN := Aside0.mk hn
 have HOUT := Aside0.mk hout
 have HOL := Lib.hid hol
 have hl0 : l0.length ≤ 35184372088832 := by omega
 have hl1 : l1.length ≤ 35184372088832 := by omega
 have hl2 : (l0.length : Int) + l1.length + 1 ≤ 35184372088832 := by omega
 have hl3 : (l0.length : Int) + l1.length ≤ 35184372088832 := by omega
 clear h hn hout hol hRA hRB hr0 hr1
 have hmk : ∀ W : World, (Instr.makeSlice 30 (.int .i64 ((l0.length : Int) + l1.length + 1)) (.int .i64 ((l0.length : Int) + l1.length + 1))).run Tryd.prog W = .ok (.slice (some ⟨W.heap.size, 0, none⟩) (l0.length + l1.length + 1) (l0.length + l1.length + 1)) (W.alloc (.cells (madeCells #[.int .u64 0] (l0.length + l1.length + 1)) 22)) := by
  intro W
  have := print_make (P := Tryd.prog) 30 22 .u64 8 Tryd.underlying30 info22 (by decide) (l0.length + l1.length + 1) (by omega) W
  have e : ((l0.length + l1.length + 1 : Nat) : Int) = (l0.length : Int) + l1.length + 1 := by omega
  rw [e] at this
  exact this
 have HM := Aside0.mk (show mulRel w w.heap.size (l0.length + l1.length + 1) (l0.length + l1.length + 1) l0 l1 out 0 (w.alloc (.cells (madeCells #[.int .u64 0] (l0.length + l1.length + 1)) 22)) from
  ⟨List.replicate (l0.length + l1.length + 1) 0, by simp, own_made w w.heap.size 22 .u64 _ (Nat.le_refl _) (by omega), (Below.refl _ _).alloc (Nat.le_refl _) _, by simpa using HOUT.out⟩)
 have HMc := Lib.hid (show l0.length + l1.length + 1 = l0.length + l1.length + 1 from rfl)
 go_enter Tryd.func109, Tryd.ntmps109
 go_wp2_with fail
 go_loopw [17] (fun i wr => ∃ j : Nat, j ≤ l1.length ∧ i = .int .i64 j ∧ Aside0 (mulRel w w.heap.size (l0.length + l1.length + 1) (l0.length + l1.length + 1) l0 l1 out j wr)) (fun i _ => l1.length - (intOf i).toNat)
 case atStart => exact ⟨0, Nat.zero_le _, rfl, HM⟩
 case round =>
  clear HM hmk
  obtain ⟨j, hj, rfl, HL⟩ := hrel
  obtain ⟨L, hL, ho, hb, h⟩ := HL.out
  by_cases hlt : j < l1.length
  ·
   rw [List.drop_eq_getElem_cons hlt] at h
   simp only [mulGo] at h
   obtain ⟨o, hrow, h⟩ := Option.bind_eq_some_iff.mp h
   have hy : l1[j] = rd l1 (j : Int) := by simp [rd, List.getD_eq_getElem?_getD, List.getElem?_eq_getElem hlt]
   rw [hy] at hrow
   obtain ⟨ad, he, hc⟩ := (HB.out wr hb).at_ (j : Int) (by omega) (by omega)
   cases he
   simp only [Int.toNat_natCast] at hc
   have HC := Lib.hid (nat_row.calls w w.heap.size (l0.length + l1.length + 1) (l0.length + l1.length + 1) j (l0.length + l1.length + 1 - j) (l0.length + l1.length + 1 - j) A0 c0 l0 (rd l1 (j : Int)) L o wr (fun W' hb' => HA.out W' hb') hc0 hL (by omega) rfl hlen ho hb hrow)
   have HH := Aside0.mk h
   have hjm : j < l0.length + l1.length + 1 := by omega
   have HOK := Lib.hid (nat_row.go_length _ _ _ _ _ _ _ hrow)
   have HL' := Lib.hid hL
   clear h hrow ho hb HL hL hy
   go_wp2_with fail
   refine HC.out.mono ?_
   rintro e w' ⟨rfl, ho', hb'⟩
   have HF := Aside0.mk (show mulRel w w.heap.size (l0.length + l1.length + 1) (l0.length + l1.length + 1) l0 l1 out (j + 1) w' from ⟨o, by rw [HOK.out, HL'.out], ho', hb', HH.out⟩)
   clear ho' hb'
   go_wp2_with fail
   go_roundw
   case rel => exact ⟨j + 1, by omega, by go_num, HF⟩
   case measure => simp [intOf]; omega
  ·
   obtain rfl : j = l1.length := by omega
   rw [List.drop_of_length_le (Nat.le_refl _)] at h
   simp only [mulGo, Option.some.injEq] at h
   subst h
   obtain ⟨N, rfl⟩ := Int.eq_ofNat_of_zero_le hn0
   have hNL : N ≤ L.length := by omega
   have hR : Kd.R (Kd.int .u64) 22 wr w.heap.size (fun _ => True) (.slice (some ⟨w.heap.size, 0, none⟩) (l0.length + l1.length + 1) (l0.length + l1.length + 1)) L := Kd.R_of_own (by rw [hL]; exact ho) (fun _ _ => trivial)
   have hC := (Kd.R_reads' hR).2.2
   have htake := own_take ho (m := N) (by omega)
   have HT := Aside0.mk (show Kd.R (Kd.int .u64) 22 wr w.heap.size (fun _ => True) (.slice (some ⟨w.heap.size, 0, none⟩) N (l0.length + l1.length + 1)) (L.take N) from
    Kd.R_of_own (by rw [List.length_take, Nat.min_eq_left hNL]; simpa [nums, encs] using htake) (fun _ _ => trivial))
   have HB2 := Aside0.mk hb
   have HC2 := Aside0.mk hC
   have HL' := Lib.hid hL
   have hNm : N ≤ l0.length + l1.length + 1 := by omega
   clear ho hb HL hR htake hn1 hC hL
   go_wp2_with fail
   refine calls_of_args (args' := #[.slice (some ⟨w.heap.size, 0, none⟩) L.length (l0.length + l1.length + 1)]) (by rw [HL'.out]) ?_
   refine (nat_size.calls k _ _ L N _ HC2.out (by rw [HL'.out]; exact Nat.le_refl _) HN.out).mono ?_
   rintro e w' ⟨rfl, ⟨d, rfl⟩⟩
   go_wp2_with fail
   go_ret
   refine ⟨_, rfl, ?_, pw_below_drewN HB2.out _⟩
   rw [Int.toNat_natCast]
   exact Kd.R_drewN HT.out _
end Go.Proofs.YtpdjahhimmaonaaDoor.PD
