/- bound.pair.more answers what its Lean function answers: what it makes is new. Its drawn region: by what each operation leaves (support_Facts). -/
import Derived.Test.YtpdjahhimmaonaaDoorZBoundOwn40
import Derived.Test.YtpdjahhimmaonaaDoorZBoundOwn41
namespace Go.Proofs.YtpdjahhimmaonaaDoor.PD
open Go.RowKit Go.Proofs.YtpdjahhimmaonaaDoorW.PrintWords Go.Proofs.YtpdjahhimmaonaaDoorW.PrintLast Go.Proofs.YtpdjahhimmaonaaDoorW.PrintMore
set_option linter.unusedVariables false
set_option linter.unusedSimpArgs false
def bound_pair_more.f (k : Nat) (a0_0 : Bool) (l0_1 : List Int) (a0_2 : Int) (a0_3 : Bool) (l0_4 : List Int) (a0_5 : Int) (a1 : Int) : Option (Bool × List Int × Int × Bool × List Int × Int) :=
 (bound_first.f k).bind fun bt484 => ((bound_of.f k a1 0).bind fun bt495 => ((bound_of.f k 1 0).bind fun bt500 => ((bound_off.f k bt495.1 bt495.2.1 bt495.2.2 (([(⟨(⟨a0_0, l0_1, a0_2⟩ : S32)⟩ : S66), (⟨(⟨bt500.1, bt500.2.1, bt500.2.2⟩ : S32)⟩ : S66), (⟨(⟨bt484.1, bt484.2.1, bt484.2.2.1⟩ : S32)⟩ : S66)] : List (S66)))).bind fun bt508 => ((bound_num_plus.f k a0_0 l0_1 a0_2 (([(⟨(⟨bt484.1, bt484.2.1, bt484.2.2.1⟩ : S32)⟩ : S66), (⟨(⟨bt508.1, bt508.2.1, bt508.2.2⟩ : S32)⟩ : S66)] : List (S66)))).bind fun bt516 => ((bound_off.f k a0_3 l0_4 a0_5 (([(⟨(⟨bt484.2.2.2.1, bt484.2.2.2.2.1, bt484.2.2.2.2.2⟩ : S32)⟩ : S66)] : List (S66)))).bind fun bt524 => ((bound_num_plus.f k a0_3 l0_4 a0_5 (([(⟨(⟨bt484.2.2.2.1, bt484.2.2.2.2.1, bt484.2.2.2.2.2⟩ : S32)⟩ : S66), (⟨(⟨bt524.1, bt524.2.1, bt524.2.2⟩ : S32)⟩ : S66)] : List (S66)))).bind fun bt532 => (some (bt516.1, bt516.2.1, bt516.2.2, bt532.1, bt532.2.1, bt532.2.2))))))))
def SV (W : World) (v : Value) (l : List Int) : Prop := ∃ A c, v = .slice A l.length c ∧ l.length ≤ c ∧ Kd.C (Kd.int .u64) W A l.length l
theorem SV.below {W W' : World} {v : Value} {l : List Int} (h : SV W v l) (hb : Below W.heap.size W W') : SV W' v l := by
 obtain ⟨A, c, rfl, hl, hc⟩ := h
 exact ⟨A, c, rfl, hl, Kd.C_below hc hb⟩
theorem SV.of_R {e base : Nat} {ok : Nat → Prop} {W : World} {v : Value} {l : List Int} (h : Kd.R (Kd.int .u64) e W base ok v l) : SV W v l := by
 obtain ⟨A, c, rfl⟩ := Kd.R_slice h
 exact ⟨A, c, rfl, (Kd.R_reads' h).2.1, (Kd.R_reads' h).2.2⟩
def NV (W : World) (v : Value) (b : Bool) (l : List Int) (e : Int) : Prop := ∃ s, v = .agg #[.bool b, s, .int .i64 e] ∧ SV W s l
theorem NV.below {W W' : World} {v : Value} {b : Bool} {l : List Int} {e : Int} (h : NV W v b l e) (hb : Below W.heap.size W W') : NV W' v b l e := by
 obtain ⟨s, rfl, h⟩ := h
 exact ⟨s, rfl, h.below hb⟩
def LV (W : World) (v : Value) (xs : List S66) : Prop := ∃ A c, v = .slice A xs.length c ∧ xs.length ≤ c ∧ Kd.C k66 W A xs.length xs
theorem LV.below {W W' : World} {v : Value} {xs : List S66} (h : LV W v xs) (hb : Below W.heap.size W W') : LV W' v xs := by
 obtain ⟨A, c, rfl, hl, hc⟩ := h
 exact ⟨A, c, rfl, hl, k66_heap.C (fun k hk => hb.block k hk) hc⟩
theorem pop1 {l : List Value} {n : Nat} (h : l.length = n + 1) : ∃ x l', l = x :: l' ∧ l'.length = n := by
 match l, h with
 | x :: l', h => exact ⟨x, l', rfl, by simpa using h⟩
theorem SV.foot {W : World} {A : Option Addr} {c : Nat} {l : List Int} (h : SV W (.slice A l.length c) l) (b : Bool) (e : Int) : Kd.FK k66 W (fun k => k < W.heap.size) (⟨⟨b, l, e⟩⟩ : S66) [.bool b, .slice A l.length c, .int .i64 e] := by
 obtain ⟨A', c', h, hl, hc⟩ := h
 injection h with h1 h2 h3
 subst h1
 subst h3
 exact k66_mkF W _ (⟨⟨b, l, e⟩⟩ : S66) hl (Kd.C_F (Kd.heap_int .u64) hc)
theorem SV.now {W : World} {A : Option Addr} {c : Nat} {l : List Int} (h : SV W (.slice A l.length c) l) : l.length ≤ c ∧ Kd.C (Kd.int .u64) W A l.length l := by
 obtain ⟨A', c', h, hl, hc⟩ := h
 injection h with h1 h2 h3
 subst h1
 subst h3
 exact ⟨hl, hc⟩
theorem keepT {T : Array Value} {n j : Nat} {v u : Value} (h : T[n]? = some v) (hne : j + 7 ≠ n) : (T.setIfInBounds (j + 7) u)[n]? = some v := by
 rw [Array.getElem?_setIfInBounds_ne hne]
 exact h
theorem size35 : ∀ (T : Array Value), T.size = 35 → ∃ x0 x1 x2 x3 x4 x5 x6 x7 x8 x9 x10 x11 x12 x13 x14 x15 x16 x17 x18 x19 x20 x21 x22 x23 x24 x25 x26 x27 x28 x29 x30 x31 x32 x33 x34, T = #[x0, x1, x2, x3, x4, x5, x6, x7, x8, x9, x10, x11, x12, x13, x14, x15, x16, x17, x18, x19, x20, x21, x22, x23, x24, x25, x26, x27, x28, x29, x30, x31, x32, x33, x34] := by
 rintro ⟨l0⟩ h
 have h0 : l0.length = 35 := h
 clear h
 obtain ⟨x0, l1, rfl, h1⟩ := pop1 h0
 obtain ⟨x1, l2, rfl, h2⟩ := pop1 h1
 obtain ⟨x2, l3, rfl, h3⟩ := pop1 h2
 obtain ⟨x3, l4, rfl, h4⟩ := pop1 h3
 obtain ⟨x4, l5, rfl, h5⟩ := pop1 h4
 obtain ⟨x5, l6, rfl, h6⟩ := pop1 h5
 obtain ⟨x6, l7, rfl, h7⟩ := pop1 h6
 obtain ⟨x7, l8, rfl, h8⟩ := pop1 h7
 obtain ⟨x8, l9, rfl, h9⟩ := pop1 h8
 obtain ⟨x9, l10, rfl, h10⟩ := pop1 h9
 obtain ⟨x10, l11, rfl, h11⟩ := pop1 h10
 obtain ⟨x11, l12, rfl, h12⟩ := pop1 h11
 obtain ⟨x12, l13, rfl, h13⟩ := pop1 h12
 obtain ⟨x13, l14, rfl, h14⟩ := pop1 h13
 obtain ⟨x14, l15, rfl, h15⟩ := pop1 h14
 obtain ⟨x15, l16, rfl, h16⟩ := pop1 h15
 obtain ⟨x16, l17, rfl, h17⟩ := pop1 h16
 obtain ⟨x17, l18, rfl, h18⟩ := pop1 h17
 obtain ⟨x18, l19, rfl, h19⟩ := pop1 h18
 obtain ⟨x19, l20, rfl, h20⟩ := pop1 h19
 obtain ⟨x20, l21, rfl, h21⟩ := pop1 h20
 obtain ⟨x21, l22, rfl, h22⟩ := pop1 h21
 obtain ⟨x22, l23, rfl, h23⟩ := pop1 h22
 obtain ⟨x23, l24, rfl, h24⟩ := pop1 h23
 obtain ⟨x24, l25, rfl, h25⟩ := pop1 h24
 obtain ⟨x25, l26, rfl, h26⟩ := pop1 h25
 obtain ⟨x26, l27, rfl, h27⟩ := pop1 h26
 obtain ⟨x27, l28, rfl, h28⟩ := pop1 h27
 obtain ⟨x28, l29, rfl, h29⟩ := pop1 h28
 obtain ⟨x29, l30, rfl, h30⟩ := pop1 h29
 obtain ⟨x30, l31, rfl, h31⟩ := pop1 h30
 obtain ⟨x31, l32, rfl, h32⟩ := pop1 h31
 obtain ⟨x32, l33, rfl, h33⟩ := pop1 h32
 obtain ⟨x33, l34, rfl, h34⟩ := pop1 h33
 obtain ⟨x34, l35, rfl, h35⟩ := pop1 h34
 obtain rfl := List.length_eq_zero_iff.1 h35
 exact ⟨_, _, _, _, _, _, _, _, _, _, _, _, _, _, _, _, _, _, _, _, _, _, _, _, _, _, _, _, _, _, _, _, _, _, _, rfl⟩
def more_G (gp gf b0 : Nat) (a0_0 : Bool) (A0_1 : Option Addr) (c0_1 : Nat) (l0_1 : List Int) (a0_2 : Int) (a0_3 : Bool) (A0_4 : Option Addr) (c0_4 : Nat) (l0_4 : List Int) (a0_5 : Int) (a1 : Int) (f1 : Bool) (Af1 : Option Addr) (cf1 : Nat) (f2 : List Int) (f3 : Int) (f4 : Bool) (Af4 : Option Addr) (cf4 : Nat) (f5 : List Int) (f6 : Int) (j1 : Bool) (j2 : List Int) (j3 : Int) (o1 : Bool) (o2 : List Int) (o3 : Int) (x1 : Bool) (x2 : List Int) (x3 : Int) (s1 : Bool) (s2 : List Int) (s3 : Int) (y1 : Bool) (y2 : List Int) (y3 : Int) (t1 : Bool) (t2 : List Int) (t3 : Int) : Nat → Array Value → World → Prop
 | 0, T, W => T[7]? = some (.pointer (some ⟨gp, 0, none⟩))
 | 1, T, W => T[8]? = some (.agg #[.bool a0_0, .slice A0_1 l0_1.length c0_1, .int .i64 a0_2])
 | 2, T, W => T[9]? = some (.pointer (some ⟨gf, 0, none⟩))
 | 3, T, W => T[10]? = some (.agg #[.bool f1, .slice Af1 f2.length cf1, .int .i64 f3])
 | 4, T, W => T[11]? = some (.int .i64 a1)
 | 5, T, W => (∃ A c, T[12]? = some (.agg #[.bool j1, .slice A j2.length c, .int .i64 j3]) ∧ SV W (.slice A j2.length c) j2)
 | 6, T, W => T[13]? = some (.pointer (some ⟨gp, 0, none⟩))
 | 7, T, W => T[14]? = some (.agg #[.bool a0_0, .slice A0_1 l0_1.length c0_1, .int .i64 a0_2])
 | 8, T, W => (∃ A c, T[15]? = some (.agg #[.bool o1, .slice A o2.length c, .int .i64 o3]) ∧ SV W (.slice A o2.length c) o2)
 | 9, T, W => T[16]? = some (.pointer (some ⟨gf, 0, none⟩))
 | 10, T, W => T[17]? = some (.agg #[.bool f1, .slice Af1 f2.length cf1, .int .i64 f3])
 | 11, T, W => (∃ A c, T[18]? = some (.slice A ([(⟨(⟨a0_0, l0_1, a0_2⟩ : S32)⟩ : S66), (⟨(⟨o1, o2, o3⟩ : S32)⟩ : S66), (⟨(⟨f1, f2, f3⟩ : S32)⟩ : S66)] : List (S66)).length c) ∧ ([(⟨(⟨a0_0, l0_1, a0_2⟩ : S32)⟩ : S66), (⟨(⟨o1, o2, o3⟩ : S32)⟩ : S66), (⟨(⟨f1, f2, f3⟩ : S32)⟩ : S66)] : List (S66)).length ≤ c ∧ Kd.C k66 W A ([(⟨(⟨a0_0, l0_1, a0_2⟩ : S32)⟩ : S66), (⟨(⟨o1, o2, o3⟩ : S32)⟩ : S66), (⟨(⟨f1, f2, f3⟩ : S32)⟩ : S66)] : List (S66)).length ([(⟨(⟨a0_0, l0_1, a0_2⟩ : S32)⟩ : S66), (⟨(⟨o1, o2, o3⟩ : S32)⟩ : S66), (⟨(⟨f1, f2, f3⟩ : S32)⟩ : S66)] : List (S66)))
 | 12, T, W => (∃ A c, T[19]? = some (.agg #[.bool x1, .slice A x2.length c, .int .i64 x3]) ∧ SV W (.slice A x2.length c) x2)
 | 13, T, W => (∃ A c, T[20]? = some (.slice A ([(⟨(⟨f1, f2, f3⟩ : S32)⟩ : S66), (⟨(⟨x1, x2, x3⟩ : S32)⟩ : S66)] : List (S66)).length c) ∧ ([(⟨(⟨f1, f2, f3⟩ : S32)⟩ : S66), (⟨(⟨x1, x2, x3⟩ : S32)⟩ : S66)] : List (S66)).length ≤ c ∧ Kd.C k66 W A ([(⟨(⟨f1, f2, f3⟩ : S32)⟩ : S66), (⟨(⟨x1, x2, x3⟩ : S32)⟩ : S66)] : List (S66)).length ([(⟨(⟨f1, f2, f3⟩ : S32)⟩ : S66), (⟨(⟨x1, x2, x3⟩ : S32)⟩ : S66)] : List (S66)))
 | 14, T, W => (∃ s, T[21]? = some (.agg #[.bool s1, s, .int .i64 s3]) ∧ Kd.R (Kd.int .u64) 22 W b0 (fun _ => True) s s2)
 | 15, T, W => T[22]? = some (.pointer (some ⟨gp, 3, none⟩))
 | 16, T, W => T[23]? = some (.agg #[.bool a0_3, .slice A0_4 l0_4.length c0_4, .int .i64 a0_5])
 | 17, T, W => T[24]? = some (.pointer (some ⟨gf, 3, none⟩))
 | 18, T, W => T[25]? = some (.agg #[.bool f4, .slice Af4 f5.length cf4, .int .i64 f6])
 | 19, T, W => T[26]? = some (.pointer (some ⟨gp, 3, none⟩))
 | 20, T, W => T[27]? = some (.agg #[.bool a0_3, .slice A0_4 l0_4.length c0_4, .int .i64 a0_5])
 | 21, T, W => T[28]? = some (.pointer (some ⟨gf, 3, none⟩))
 | 22, T, W => T[29]? = some (.agg #[.bool f4, .slice Af4 f5.length cf4, .int .i64 f6])
 | 23, T, W => (∃ A c, T[30]? = some (.slice A ([(⟨(⟨f4, f5, f6⟩ : S32)⟩ : S66)] : List (S66)).length c) ∧ ([(⟨(⟨f4, f5, f6⟩ : S32)⟩ : S66)] : List (S66)).length ≤ c ∧ Kd.C k66 W A ([(⟨(⟨f4, f5, f6⟩ : S32)⟩ : S66)] : List (S66)).length ([(⟨(⟨f4, f5, f6⟩ : S32)⟩ : S66)] : List (S66)))
 | 24, T, W => (∃ A c, T[31]? = some (.agg #[.bool y1, .slice A y2.length c, .int .i64 y3]) ∧ SV W (.slice A y2.length c) y2) ∧ (∃ s, T[21]? = some (.agg #[.bool s1, s, .int .i64 s3]) ∧ Kd.R (Kd.int .u64) 22 W b0 (fun _ => True) s s2)
 | 25, T, W => (∃ A c, T[32]? = some (.slice A ([(⟨(⟨f4, f5, f6⟩ : S32)⟩ : S66), (⟨(⟨y1, y2, y3⟩ : S32)⟩ : S66)] : List (S66)).length c) ∧ ([(⟨(⟨f4, f5, f6⟩ : S32)⟩ : S66), (⟨(⟨y1, y2, y3⟩ : S32)⟩ : S66)] : List (S66)).length ≤ c ∧ Kd.C k66 W A ([(⟨(⟨f4, f5, f6⟩ : S32)⟩ : S66), (⟨(⟨y1, y2, y3⟩ : S32)⟩ : S66)] : List (S66)).length ([(⟨(⟨f4, f5, f6⟩ : S32)⟩ : S66), (⟨(⟨y1, y2, y3⟩ : S32)⟩ : S66)] : List (S66)))
 | 26, T, W => (∃ s t, T[21]? = some (.agg #[.bool s1, s, .int .i64 s3]) ∧ T[33]? = some (.agg #[.bool t1, t, .int .i64 t3]) ∧ Kd.R (Kd.int .u64) 22 W b0 (fun k_ => some k_ ≠ (t : Value).ownBlock) s s2 ∧ Kd.R (Kd.int .u64) 22 W b0 (fun k_ => some k_ ≠ (s : Value).ownBlock) t t2)
 | 27, T, W => (∃ s t, T[34]? = some (.agg #[.bool s1, s, .int .i64 s3, .bool t1, t, .int .i64 t3]) ∧ Kd.R (Kd.int .u64) 22 W b0 (fun k_ => some k_ ≠ (t : Value).ownBlock) s s2 ∧ Kd.R (Kd.int .u64) 22 W b0 (fun k_ => some k_ ≠ (s : Value).ownBlock) t t2)
 | _, _, _ => True
def more_deps : Nat → List Nat
 | 1 => [0]
 | 3 => [2]
 | 5 => [4]
 | 7 => [6]
 | 10 => [9]
 | 11 => [7, 8, 10]
 | 12 => [5, 11]
 | 13 => [3, 12]
 | 14 => [1, 13]
 | 16 => [15]
 | 18 => [17]
 | 20 => [19]
 | 22 => [21]
 | 23 => [22]
 | 24 => [20, 23, 14]
 | 25 => [18, 24]
 | 26 => [16, 25, 24]
 | 27 => [26]
 | _ => []
def more_D : Nat → List Nat
 | 24 => [14]
 | 26 => [14]
 | _ => []
theorem more_stab0 (gp gf b0 : Nat) (a0_0 : Bool) (A0_1 : Option Addr) (c0_1 : Nat) (l0_1 : List Int) (a0_2 : Int) (a0_3 : Bool) (A0_4 : Option Addr) (c0_4 : Nat) (l0_4 : List Int) (a0_5 : Int) (a1 : Int) (f1 : Bool) (Af1 : Option Addr) (cf1 : Nat) (f2 : List Int) (f3 : Int) (f4 : Bool) (Af4 : Option Addr) (cf4 : Nat) (f5 : List Int) (f6 : Int) (j1 : Bool) (j2 : List Int) (j3 : Int) (o1 : Bool) (o2 : List Int) (o3 : Int) (x1 : Bool) (x2 : List Int) (x3 : Int) (s1 : Bool) (s2 : List Int) (s3 : Int) (y1 : Bool) (y2 : List Int) (y3 : Int) (t1 : Bool) (t2 : List Int) (t3 : Int) : ∀ T W j v W', (∀ k ∈ 0 :: more_D 0, k ≠ j) → more_G gp gf b0 a0_0 A0_1 c0_1 l0_1 a0_2 a0_3 A0_4 c0_4 l0_4 a0_5 a1 f1 Af1 cf1 f2 f3 f4 Af4 cf4 f5 f6 j1 j2 j3 o1 o2 o3 x1 x2 x3 s1 s2 s3 y1 y2 y3 t1 t2 t3 0 T W → Below W.heap.size W W' → more_G gp gf b0 a0_0 A0_1 c0_1 l0_1 a0_2 a0_3 A0_4 c0_4 l0_4 a0_5 a1 f1 Af1 cf1 f2 f3 f4 Af4 cf4 f5 f6 j1 j2 j3 o1 o2 o3 x1 x2 x3 s1 s2 s3 y1 y2 y3 t1 t2 t3 0 (T.setIfInBounds (j + 7) v) W' := by
 intro T W j v W' hne h hb
 unfold more_G at h ⊢
 exact keepT h (fun e => hne 0 (by decide) (by omega))
theorem more_stab1 (gp gf b0 : Nat) (a0_0 : Bool) (A0_1 : Option Addr) (c0_1 : Nat) (l0_1 : List Int) (a0_2 : Int) (a0_3 : Bool) (A0_4 : Option Addr) (c0_4 : Nat) (l0_4 : List Int) (a0_5 : Int) (a1 : Int) (f1 : Bool) (Af1 : Option Addr) (cf1 : Nat) (f2 : List Int) (f3 : Int) (f4 : Bool) (Af4 : Option Addr) (cf4 : Nat) (f5 : List Int) (f6 : Int) (j1 : Bool) (j2 : List Int) (j3 : Int) (o1 : Bool) (o2 : List Int) (o3 : Int) (x1 : Bool) (x2 : List Int) (x3 : Int) (s1 : Bool) (s2 : List Int) (s3 : Int) (y1 : Bool) (y2 : List Int) (y3 : Int) (t1 : Bool) (t2 : List Int) (t3 : Int) : ∀ T W j v W', (∀ k ∈ 1 :: more_D 1, k ≠ j) → more_G gp gf b0 a0_0 A0_1 c0_1 l0_1 a0_2 a0_3 A0_4 c0_4 l0_4 a0_5 a1 f1 Af1 cf1 f2 f3 f4 Af4 cf4 f5 f6 j1 j2 j3 o1 o2 o3 x1 x2 x3 s1 s2 s3 y1 y2 y3 t1 t2 t3 1 T W → Below W.heap.size W W' → more_G gp gf b0 a0_0 A0_1 c0_1 l0_1 a0_2 a0_3 A0_4 c0_4 l0_4 a0_5 a1 f1 Af1 cf1 f2 f3 f4 Af4 cf4 f5 f6 j1 j2 j3 o1 o2 o3 x1 x2 x3 s1 s2 s3 y1 y2 y3 t1 t2 t3 1 (T.setIfInBounds (j + 7) v) W' := by
 intro T W j v W' hne h hb
 unfold more_G at h ⊢
 exact keepT h (fun e => hne 1 (by decide) (by omega))
theorem more_stab2 (gp gf b0 : Nat) (a0_0 : Bool) (A0_1 : Option Addr) (c0_1 : Nat) (l0_1 : List Int) (a0_2 : Int) (a0_3 : Bool) (A0_4 : Option Addr) (c0_4 : Nat) (l0_4 : List Int) (a0_5 : Int) (a1 : Int) (f1 : Bool) (Af1 : Option Addr) (cf1 : Nat) (f2 : List Int) (f3 : Int) (f4 : Bool) (Af4 : Option Addr) (cf4 : Nat) (f5 : List Int) (f6 : Int) (j1 : Bool) (j2 : List Int) (j3 : Int) (o1 : Bool) (o2 : List Int) (o3 : Int) (x1 : Bool) (x2 : List Int) (x3 : Int) (s1 : Bool) (s2 : List Int) (s3 : Int) (y1 : Bool) (y2 : List Int) (y3 : Int) (t1 : Bool) (t2 : List Int) (t3 : Int) : ∀ T W j v W', (∀ k ∈ 2 :: more_D 2, k ≠ j) → more_G gp gf b0 a0_0 A0_1 c0_1 l0_1 a0_2 a0_3 A0_4 c0_4 l0_4 a0_5 a1 f1 Af1 cf1 f2 f3 f4 Af4 cf4 f5 f6 j1 j2 j3 o1 o2 o3 x1 x2 x3 s1 s2 s3 y1 y2 y3 t1 t2 t3 2 T W → Below W.heap.size W W' → more_G gp gf b0 a0_0 A0_1 c0_1 l0_1 a0_2 a0_3 A0_4 c0_4 l0_4 a0_5 a1 f1 Af1 cf1 f2 f3 f4 Af4 cf4 f5 f6 j1 j2 j3 o1 o2 o3 x1 x2 x3 s1 s2 s3 y1 y2 y3 t1 t2 t3 2 (T.setIfInBounds (j + 7) v) W' := by
 intro T W j v W' hne h hb
 unfold more_G at h ⊢
 exact keepT h (fun e => hne 2 (by decide) (by omega))
theorem more_stab3 (gp gf b0 : Nat) (a0_0 : Bool) (A0_1 : Option Addr) (c0_1 : Nat) (l0_1 : List Int) (a0_2 : Int) (a0_3 : Bool) (A0_4 : Option Addr) (c0_4 : Nat) (l0_4 : List Int) (a0_5 : Int) (a1 : Int) (f1 : Bool) (Af1 : Option Addr) (cf1 : Nat) (f2 : List Int) (f3 : Int) (f4 : Bool) (Af4 : Option Addr) (cf4 : Nat) (f5 : List Int) (f6 : Int) (j1 : Bool) (j2 : List Int) (j3 : Int) (o1 : Bool) (o2 : List Int) (o3 : Int) (x1 : Bool) (x2 : List Int) (x3 : Int) (s1 : Bool) (s2 : List Int) (s3 : Int) (y1 : Bool) (y2 : List Int) (y3 : Int) (t1 : Bool) (t2 : List Int) (t3 : Int) : ∀ T W j v W', (∀ k ∈ 3 :: more_D 3, k ≠ j) → more_G gp gf b0 a0_0 A0_1 c0_1 l0_1 a0_2 a0_3 A0_4 c0_4 l0_4 a0_5 a1 f1 Af1 cf1 f2 f3 f4 Af4 cf4 f5 f6 j1 j2 j3 o1 o2 o3 x1 x2 x3 s1 s2 s3 y1 y2 y3 t1 t2 t3 3 T W → Below W.heap.size W W' → more_G gp gf b0 a0_0 A0_1 c0_1 l0_1 a0_2 a0_3 A0_4 c0_4 l0_4 a0_5 a1 f1 Af1 cf1 f2 f3 f4 Af4 cf4 f5 f6 j1 j2 j3 o1 o2 o3 x1 x2 x3 s1 s2 s3 y1 y2 y3 t1 t2 t3 3 (T.setIfInBounds (j + 7) v) W' := by
 intro T W j v W' hne h hb
 unfold more_G at h ⊢
 exact keepT h (fun e => hne 3 (by decide) (by omega))
theorem more_stab4 (gp gf b0 : Nat) (a0_0 : Bool) (A0_1 : Option Addr) (c0_1 : Nat) (l0_1 : List Int) (a0_2 : Int) (a0_3 : Bool) (A0_4 : Option Addr) (c0_4 : Nat) (l0_4 : List Int) (a0_5 : Int) (a1 : Int) (f1 : Bool) (Af1 : Option Addr) (cf1 : Nat) (f2 : List Int) (f3 : Int) (f4 : Bool) (Af4 : Option Addr) (cf4 : Nat) (f5 : List Int) (f6 : Int) (j1 : Bool) (j2 : List Int) (j3 : Int) (o1 : Bool) (o2 : List Int) (o3 : Int) (x1 : Bool) (x2 : List Int) (x3 : Int) (s1 : Bool) (s2 : List Int) (s3 : Int) (y1 : Bool) (y2 : List Int) (y3 : Int) (t1 : Bool) (t2 : List Int) (t3 : Int) : ∀ T W j v W', (∀ k ∈ 4 :: more_D 4, k ≠ j) → more_G gp gf b0 a0_0 A0_1 c0_1 l0_1 a0_2 a0_3 A0_4 c0_4 l0_4 a0_5 a1 f1 Af1 cf1 f2 f3 f4 Af4 cf4 f5 f6 j1 j2 j3 o1 o2 o3 x1 x2 x3 s1 s2 s3 y1 y2 y3 t1 t2 t3 4 T W → Below W.heap.size W W' → more_G gp gf b0 a0_0 A0_1 c0_1 l0_1 a0_2 a0_3 A0_4 c0_4 l0_4 a0_5 a1 f1 Af1 cf1 f2 f3 f4 Af4 cf4 f5 f6 j1 j2 j3 o1 o2 o3 x1 x2 x3 s1 s2 s3 y1 y2 y3 t1 t2 t3 4 (T.setIfInBounds (j + 7) v) W' := by
 intro T W j v W' hne h hb
 unfold more_G at h ⊢
 exact keepT h (fun e => hne 4 (by decide) (by omega))
theorem more_stab5 (gp gf b0 : Nat) (a0_0 : Bool) (A0_1 : Option Addr) (c0_1 : Nat) (l0_1 : List Int) (a0_2 : Int) (a0_3 : Bool) (A0_4 : Option Addr) (c0_4 : Nat) (l0_4 : List Int) (a0_5 : Int) (a1 : Int) (f1 : Bool) (Af1 : Option Addr) (cf1 : Nat) (f2 : List Int) (f3 : Int) (f4 : Bool) (Af4 : Option Addr) (cf4 : Nat) (f5 : List Int) (f6 : Int) (j1 : Bool) (j2 : List Int) (j3 : Int) (o1 : Bool) (o2 : List Int) (o3 : Int) (x1 : Bool) (x2 : List Int) (x3 : Int) (s1 : Bool) (s2 : List Int) (s3 : Int) (y1 : Bool) (y2 : List Int) (y3 : Int) (t1 : Bool) (t2 : List Int) (t3 : Int) : ∀ T W j v W', (∀ k ∈ 5 :: more_D 5, k ≠ j) → more_G gp gf b0 a0_0 A0_1 c0_1 l0_1 a0_2 a0_3 A0_4 c0_4 l0_4 a0_5 a1 f1 Af1 cf1 f2 f3 f4 Af4 cf4 f5 f6 j1 j2 j3 o1 o2 o3 x1 x2 x3 s1 s2 s3 y1 y2 y3 t1 t2 t3 5 T W → Below W.heap.size W W' → more_G gp gf b0 a0_0 A0_1 c0_1 l0_1 a0_2 a0_3 A0_4 c0_4 l0_4 a0_5 a1 f1 Af1 cf1 f2 f3 f4 Af4 cf4 f5 f6 j1 j2 j3 o1 o2 o3 x1 x2 x3 s1 s2 s3 y1 y2 y3 t1 t2 t3 5 (T.setIfInBounds (j + 7) v) W' := by
 intro T W j v W' hne h hb
 unfold more_G at h ⊢
 obtain ⟨A, c, h, hs⟩ := h
 exact ⟨A, c, keepT h (fun e => hne 5 (by decide) (by omega)), hs.below hb⟩
theorem more_stab6 (gp gf b0 : Nat) (a0_0 : Bool) (A0_1 : Option Addr) (c0_1 : Nat) (l0_1 : List Int) (a0_2 : Int) (a0_3 : Bool) (A0_4 : Option Addr) (c0_4 : Nat) (l0_4 : List Int) (a0_5 : Int) (a1 : Int) (f1 : Bool) (Af1 : Option Addr) (cf1 : Nat) (f2 : List Int) (f3 : Int) (f4 : Bool) (Af4 : Option Addr) (cf4 : Nat) (f5 : List Int) (f6 : Int) (j1 : Bool) (j2 : List Int) (j3 : Int) (o1 : Bool) (o2 : List Int) (o3 : Int) (x1 : Bool) (x2 : List Int) (x3 : Int) (s1 : Bool) (s2 : List Int) (s3 : Int) (y1 : Bool) (y2 : List Int) (y3 : Int) (t1 : Bool) (t2 : List Int) (t3 : Int) : ∀ T W j v W', (∀ k ∈ 6 :: more_D 6, k ≠ j) → more_G gp gf b0 a0_0 A0_1 c0_1 l0_1 a0_2 a0_3 A0_4 c0_4 l0_4 a0_5 a1 f1 Af1 cf1 f2 f3 f4 Af4 cf4 f5 f6 j1 j2 j3 o1 o2 o3 x1 x2 x3 s1 s2 s3 y1 y2 y3 t1 t2 t3 6 T W → Below W.heap.size W W' → more_G gp gf b0 a0_0 A0_1 c0_1 l0_1 a0_2 a0_3 A0_4 c0_4 l0_4 a0_5 a1 f1 Af1 cf1 f2 f3 f4 Af4 cf4 f5 f6 j1 j2 j3 o1 o2 o3 x1 x2 x3 s1 s2 s3 y1 y2 y3 t1 t2 t3 6 (T.setIfInBounds (j + 7) v) W' := by
 intro T W j v W' hne h hb
 unfold more_G at h ⊢
 exact keepT h (fun e => hne 6 (by decide) (by omega))
theorem more_stab7 (gp gf b0 : Nat) (a0_0 : Bool) (A0_1 : Option Addr) (c0_1 : Nat) (l0_1 : List Int) (a0_2 : Int) (a0_3 : Bool) (A0_4 : Option Addr) (c0_4 : Nat) (l0_4 : List Int) (a0_5 : Int) (a1 : Int) (f1 : Bool) (Af1 : Option Addr) (cf1 : Nat) (f2 : List Int) (f3 : Int) (f4 : Bool) (Af4 : Option Addr) (cf4 : Nat) (f5 : List Int) (f6 : Int) (j1 : Bool) (j2 : List Int) (j3 : Int) (o1 : Bool) (o2 : List Int) (o3 : Int) (x1 : Bool) (x2 : List Int) (x3 : Int) (s1 : Bool) (s2 : List Int) (s3 : Int) (y1 : Bool) (y2 : List Int) (y3 : Int) (t1 : Bool) (t2 : List Int) (t3 : Int) : ∀ T W j v W', (∀ k ∈ 7 :: more_D 7, k ≠ j) → more_G gp gf b0 a0_0 A0_1 c0_1 l0_1 a0_2 a0_3 A0_4 c0_4 l0_4 a0_5 a1 f1 Af1 cf1 f2 f3 f4 Af4 cf4 f5 f6 j1 j2 j3 o1 o2 o3 x1 x2 x3 s1 s2 s3 y1 y2 y3 t1 t2 t3 7 T W → Below W.heap.size W W' → more_G gp gf b0 a0_0 A0_1 c0_1 l0_1 a0_2 a0_3 A0_4 c0_4 l0_4 a0_5 a1 f1 Af1 cf1 f2 f3 f4 Af4 cf4 f5 f6 j1 j2 j3 o1 o2 o3 x1 x2 x3 s1 s2 s3 y1 y2 y3 t1 t2 t3 7 (T.setIfInBounds (j + 7) v) W' := by
 intro T W j v W' hne h hb
 unfold more_G at h ⊢
 exact keepT h (fun e => hne 7 (by decide) (by omega))
theorem more_stab8 (gp gf b0 : Nat) (a0_0 : Bool) (A0_1 : Option Addr) (c0_1 : Nat) (l0_1 : List Int) (a0_2 : Int) (a0_3 : Bool) (A0_4 : Option Addr) (c0_4 : Nat) (l0_4 : List Int) (a0_5 : Int) (a1 : Int) (f1 : Bool) (Af1 : Option Addr) (cf1 : Nat) (f2 : List Int) (f3 : Int) (f4 : Bool) (Af4 : Option Addr) (cf4 : Nat) (f5 : List Int) (f6 : Int) (j1 : Bool) (j2 : List Int) (j3 : Int) (o1 : Bool) (o2 : List Int) (o3 : Int) (x1 : Bool) (x2 : List Int) (x3 : Int) (s1 : Bool) (s2 : List Int) (s3 : Int) (y1 : Bool) (y2 : List Int) (y3 : Int) (t1 : Bool) (t2 : List Int) (t3 : Int) : ∀ T W j v W', (∀ k ∈ 8 :: more_D 8, k ≠ j) → more_G gp gf b0 a0_0 A0_1 c0_1 l0_1 a0_2 a0_3 A0_4 c0_4 l0_4 a0_5 a1 f1 Af1 cf1 f2 f3 f4 Af4 cf4 f5 f6 j1 j2 j3 o1 o2 o3 x1 x2 x3 s1 s2 s3 y1 y2 y3 t1 t2 t3 8 T W → Below W.heap.size W W' → more_G gp gf b0 a0_0 A0_1 c0_1 l0_1 a0_2 a0_3 A0_4 c0_4 l0_4 a0_5 a1 f1 Af1 cf1 f2 f3 f4 Af4 cf4 f5 f6 j1 j2 j3 o1 o2 o3 x1 x2 x3 s1 s2 s3 y1 y2 y3 t1 t2 t3 8 (T.setIfInBounds (j + 7) v) W' := by
 intro T W j v W' hne h hb
 unfold more_G at h ⊢
 obtain ⟨A, c, h, hs⟩ := h
 exact ⟨A, c, keepT h (fun e => hne 8 (by decide) (by omega)), hs.below hb⟩
theorem more_stab9 (gp gf b0 : Nat) (a0_0 : Bool) (A0_1 : Option Addr) (c0_1 : Nat) (l0_1 : List Int) (a0_2 : Int) (a0_3 : Bool) (A0_4 : Option Addr) (c0_4 : Nat) (l0_4 : List Int) (a0_5 : Int) (a1 : Int) (f1 : Bool) (Af1 : Option Addr) (cf1 : Nat) (f2 : List Int) (f3 : Int) (f4 : Bool) (Af4 : Option Addr) (cf4 : Nat) (f5 : List Int) (f6 : Int) (j1 : Bool) (j2 : List Int) (j3 : Int) (o1 : Bool) (o2 : List Int) (o3 : Int) (x1 : Bool) (x2 : List Int) (x3 : Int) (s1 : Bool) (s2 : List Int) (s3 : Int) (y1 : Bool) (y2 : List Int) (y3 : Int) (t1 : Bool) (t2 : List Int) (t3 : Int) : ∀ T W j v W', (∀ k ∈ 9 :: more_D 9, k ≠ j) → more_G gp gf b0 a0_0 A0_1 c0_1 l0_1 a0_2 a0_3 A0_4 c0_4 l0_4 a0_5 a1 f1 Af1 cf1 f2 f3 f4 Af4 cf4 f5 f6 j1 j2 j3 o1 o2 o3 x1 x2 x3 s1 s2 s3 y1 y2 y3 t1 t2 t3 9 T W → Below W.heap.size W W' → more_G gp gf b0 a0_0 A0_1 c0_1 l0_1 a0_2 a0_3 A0_4 c0_4 l0_4 a0_5 a1 f1 Af1 cf1 f2 f3 f4 Af4 cf4 f5 f6 j1 j2 j3 o1 o2 o3 x1 x2 x3 s1 s2 s3 y1 y2 y3 t1 t2 t3 9 (T.setIfInBounds (j + 7) v) W' := by
 intro T W j v W' hne h hb
 unfold more_G at h ⊢
 exact keepT h (fun e => hne 9 (by decide) (by omega))
theorem more_stab10 (gp gf b0 : Nat) (a0_0 : Bool) (A0_1 : Option Addr) (c0_1 : Nat) (l0_1 : List Int) (a0_2 : Int) (a0_3 : Bool) (A0_4 : Option Addr) (c0_4 : Nat) (l0_4 : List Int) (a0_5 : Int) (a1 : Int) (f1 : Bool) (Af1 : Option Addr) (cf1 : Nat) (f2 : List Int) (f3 : Int) (f4 : Bool) (Af4 : Option Addr) (cf4 : Nat) (f5 : List Int) (f6 : Int) (j1 : Bool) (j2 : List Int) (j3 : Int) (o1 : Bool) (o2 : List Int) (o3 : Int) (x1 : Bool) (x2 : List Int) (x3 : Int) (s1 : Bool) (s2 : List Int) (s3 : Int) (y1 : Bool) (y2 : List Int) (y3 : Int) (t1 : Bool) (t2 : List Int) (t3 : Int) : ∀ T W j v W', (∀ k ∈ 10 :: more_D 10, k ≠ j) → more_G gp gf b0 a0_0 A0_1 c0_1 l0_1 a0_2 a0_3 A0_4 c0_4 l0_4 a0_5 a1 f1 Af1 cf1 f2 f3 f4 Af4 cf4 f5 f6 j1 j2 j3 o1 o2 o3 x1 x2 x3 s1 s2 s3 y1 y2 y3 t1 t2 t3 10 T W → Below W.heap.size W W' → more_G gp gf b0 a0_0 A0_1 c0_1 l0_1 a0_2 a0_3 A0_4 c0_4 l0_4 a0_5 a1 f1 Af1 cf1 f2 f3 f4 Af4 cf4 f5 f6 j1 j2 j3 o1 o2 o3 x1 x2 x3 s1 s2 s3 y1 y2 y3 t1 t2 t3 10 (T.setIfInBounds (j + 7) v) W' := by
 intro T W j v W' hne h hb
 unfold more_G at h ⊢
 exact keepT h (fun e => hne 10 (by decide) (by omega))
theorem more_stab11 (gp gf b0 : Nat) (a0_0 : Bool) (A0_1 : Option Addr) (c0_1 : Nat) (l0_1 : List Int) (a0_2 : Int) (a0_3 : Bool) (A0_4 : Option Addr) (c0_4 : Nat) (l0_4 : List Int) (a0_5 : Int) (a1 : Int) (f1 : Bool) (Af1 : Option Addr) (cf1 : Nat) (f2 : List Int) (f3 : Int) (f4 : Bool) (Af4 : Option Addr) (cf4 : Nat) (f5 : List Int) (f6 : Int) (j1 : Bool) (j2 : List Int) (j3 : Int) (o1 : Bool) (o2 : List Int) (o3 : Int) (x1 : Bool) (x2 : List Int) (x3 : Int) (s1 : Bool) (s2 : List Int) (s3 : Int) (y1 : Bool) (y2 : List Int) (y3 : Int) (t1 : Bool) (t2 : List Int) (t3 : Int) : ∀ T W j v W', (∀ k ∈ 11 :: more_D 11, k ≠ j) → more_G gp gf b0 a0_0 A0_1 c0_1 l0_1 a0_2 a0_3 A0_4 c0_4 l0_4 a0_5 a1 f1 Af1 cf1 f2 f3 f4 Af4 cf4 f5 f6 j1 j2 j3 o1 o2 o3 x1 x2 x3 s1 s2 s3 y1 y2 y3 t1 t2 t3 11 T W → Below W.heap.size W W' → more_G gp gf b0 a0_0 A0_1 c0_1 l0_1 a0_2 a0_3 A0_4 c0_4 l0_4 a0_5 a1 f1 Af1 cf1 f2 f3 f4 Af4 cf4 f5 f6 j1 j2 j3 o1 o2 o3 x1 x2 x3 s1 s2 s3 y1 y2 y3 t1 t2 t3 11 (T.setIfInBounds (j + 7) v) W' := by
 intro T W j v W' hne h hb
 unfold more_G at h ⊢
 obtain ⟨A, c, h, hl, hs⟩ := h
 exact ⟨A, c, keepT h (fun e => hne 11 (by decide) (by omega)), hl, k66_heap.C (fun k hk => hb.block k hk) hs⟩
theorem more_stab12 (gp gf b0 : Nat) (a0_0 : Bool) (A0_1 : Option Addr) (c0_1 : Nat) (l0_1 : List Int) (a0_2 : Int) (a0_3 : Bool) (A0_4 : Option Addr) (c0_4 : Nat) (l0_4 : List Int) (a0_5 : Int) (a1 : Int) (f1 : Bool) (Af1 : Option Addr) (cf1 : Nat) (f2 : List Int) (f3 : Int) (f4 : Bool) (Af4 : Option Addr) (cf4 : Nat) (f5 : List Int) (f6 : Int) (j1 : Bool) (j2 : List Int) (j3 : Int) (o1 : Bool) (o2 : List Int) (o3 : Int) (x1 : Bool) (x2 : List Int) (x3 : Int) (s1 : Bool) (s2 : List Int) (s3 : Int) (y1 : Bool) (y2 : List Int) (y3 : Int) (t1 : Bool) (t2 : List Int) (t3 : Int) : ∀ T W j v W', (∀ k ∈ 12 :: more_D 12, k ≠ j) → more_G gp gf b0 a0_0 A0_1 c0_1 l0_1 a0_2 a0_3 A0_4 c0_4 l0_4 a0_5 a1 f1 Af1 cf1 f2 f3 f4 Af4 cf4 f5 f6 j1 j2 j3 o1 o2 o3 x1 x2 x3 s1 s2 s3 y1 y2 y3 t1 t2 t3 12 T W → Below W.heap.size W W' → more_G gp gf b0 a0_0 A0_1 c0_1 l0_1 a0_2 a0_3 A0_4 c0_4 l0_4 a0_5 a1 f1 Af1 cf1 f2 f3 f4 Af4 cf4 f5 f6 j1 j2 j3 o1 o2 o3 x1 x2 x3 s1 s2 s3 y1 y2 y3 t1 t2 t3 12 (T.setIfInBounds (j + 7) v) W' := by
 intro T W j v W' hne h hb
 unfold more_G at h ⊢
 obtain ⟨A, c, h, hs⟩ := h
 exact ⟨A, c, keepT h (fun e => hne 12 (by decide) (by omega)), hs.below hb⟩
theorem more_stab13 (gp gf b0 : Nat) (a0_0 : Bool) (A0_1 : Option Addr) (c0_1 : Nat) (l0_1 : List Int) (a0_2 : Int) (a0_3 : Bool) (A0_4 : Option Addr) (c0_4 : Nat) (l0_4 : List Int) (a0_5 : Int) (a1 : Int) (f1 : Bool) (Af1 : Option Addr) (cf1 : Nat) (f2 : List Int) (f3 : Int) (f4 : Bool) (Af4 : Option Addr) (cf4 : Nat) (f5 : List Int) (f6 : Int) (j1 : Bool) (j2 : List Int) (j3 : Int) (o1 : Bool) (o2 : List Int) (o3 : Int) (x1 : Bool) (x2 : List Int) (x3 : Int) (s1 : Bool) (s2 : List Int) (s3 : Int) (y1 : Bool) (y2 : List Int) (y3 : Int) (t1 : Bool) (t2 : List Int) (t3 : Int) : ∀ T W j v W', (∀ k ∈ 13 :: more_D 13, k ≠ j) → more_G gp gf b0 a0_0 A0_1 c0_1 l0_1 a0_2 a0_3 A0_4 c0_4 l0_4 a0_5 a1 f1 Af1 cf1 f2 f3 f4 Af4 cf4 f5 f6 j1 j2 j3 o1 o2 o3 x1 x2 x3 s1 s2 s3 y1 y2 y3 t1 t2 t3 13 T W → Below W.heap.size W W' → more_G gp gf b0 a0_0 A0_1 c0_1 l0_1 a0_2 a0_3 A0_4 c0_4 l0_4 a0_5 a1 f1 Af1 cf1 f2 f3 f4 Af4 cf4 f5 f6 j1 j2 j3 o1 o2 o3 x1 x2 x3 s1 s2 s3 y1 y2 y3 t1 t2 t3 13 (T.setIfInBounds (j + 7) v) W' := by
 intro T W j v W' hne h hb
 unfold more_G at h ⊢
 obtain ⟨A, c, h, hl, hs⟩ := h
 exact ⟨A, c, keepT h (fun e => hne 13 (by decide) (by omega)), hl, k66_heap.C (fun k hk => hb.block k hk) hs⟩
theorem more_stab14 (gp gf b0 : Nat) (a0_0 : Bool) (A0_1 : Option Addr) (c0_1 : Nat) (l0_1 : List Int) (a0_2 : Int) (a0_3 : Bool) (A0_4 : Option Addr) (c0_4 : Nat) (l0_4 : List Int) (a0_5 : Int) (a1 : Int) (f1 : Bool) (Af1 : Option Addr) (cf1 : Nat) (f2 : List Int) (f3 : Int) (f4 : Bool) (Af4 : Option Addr) (cf4 : Nat) (f5 : List Int) (f6 : Int) (j1 : Bool) (j2 : List Int) (j3 : Int) (o1 : Bool) (o2 : List Int) (o3 : Int) (x1 : Bool) (x2 : List Int) (x3 : Int) (s1 : Bool) (s2 : List Int) (s3 : Int) (y1 : Bool) (y2 : List Int) (y3 : Int) (t1 : Bool) (t2 : List Int) (t3 : Int) : ∀ T W j v W', (∀ k ∈ 14 :: more_D 14, k ≠ j) → more_G gp gf b0 a0_0 A0_1 c0_1 l0_1 a0_2 a0_3 A0_4 c0_4 l0_4 a0_5 a1 f1 Af1 cf1 f2 f3 f4 Af4 cf4 f5 f6 j1 j2 j3 o1 o2 o3 x1 x2 x3 s1 s2 s3 y1 y2 y3 t1 t2 t3 14 T W → Below W.heap.size W W' → more_G gp gf b0 a0_0 A0_1 c0_1 l0_1 a0_2 a0_3 A0_4 c0_4 l0_4 a0_5 a1 f1 Af1 cf1 f2 f3 f4 Af4 cf4 f5 f6 j1 j2 j3 o1 o2 o3 x1 x2 x3 s1 s2 s3 y1 y2 y3 t1 t2 t3 14 (T.setIfInBounds (j + 7) v) W' := by
 intro T W j v W' hne h hb
 unfold more_G at h ⊢
 obtain ⟨s, h, hr⟩ := h
 exact ⟨s, keepT h (fun e => hne 14 (by decide) (by omega)), Kd.R_below hr hb⟩
theorem more_stab15 (gp gf b0 : Nat) (a0_0 : Bool) (A0_1 : Option Addr) (c0_1 : Nat) (l0_1 : List Int) (a0_2 : Int) (a0_3 : Bool) (A0_4 : Option Addr) (c0_4 : Nat) (l0_4 : List Int) (a0_5 : Int) (a1 : Int) (f1 : Bool) (Af1 : Option Addr) (cf1 : Nat) (f2 : List Int) (f3 : Int) (f4 : Bool) (Af4 : Option Addr) (cf4 : Nat) (f5 : List Int) (f6 : Int) (j1 : Bool) (j2 : List Int) (j3 : Int) (o1 : Bool) (o2 : List Int) (o3 : Int) (x1 : Bool) (x2 : List Int) (x3 : Int) (s1 : Bool) (s2 : List Int) (s3 : Int) (y1 : Bool) (y2 : List Int) (y3 : Int) (t1 : Bool) (t2 : List Int) (t3 : Int) : ∀ T W j v W', (∀ k ∈ 15 :: more_D 15, k ≠ j) → more_G gp gf b0 a0_0 A0_1 c0_1 l0_1 a0_2 a0_3 A0_4 c0_4 l0_4 a0_5 a1 f1 Af1 cf1 f2 f3 f4 Af4 cf4 f5 f6 j1 j2 j3 o1 o2 o3 x1 x2 x3 s1 s2 s3 y1 y2 y3 t1 t2 t3 15 T W → Below W.heap.size W W' → more_G gp gf b0 a0_0 A0_1 c0_1 l0_1 a0_2 a0_3 A0_4 c0_4 l0_4 a0_5 a1 f1 Af1 cf1 f2 f3 f4 Af4 cf4 f5 f6 j1 j2 j3 o1 o2 o3 x1 x2 x3 s1 s2 s3 y1 y2 y3 t1 t2 t3 15 (T.setIfInBounds (j + 7) v) W' := by
 intro T W j v W' hne h hb
 unfold more_G at h ⊢
 exact keepT h (fun e => hne 15 (by decide) (by omega))
theorem more_stab16 (gp gf b0 : Nat) (a0_0 : Bool) (A0_1 : Option Addr) (c0_1 : Nat) (l0_1 : List Int) (a0_2 : Int) (a0_3 : Bool) (A0_4 : Option Addr) (c0_4 : Nat) (l0_4 : List Int) (a0_5 : Int) (a1 : Int) (f1 : Bool) (Af1 : Option Addr) (cf1 : Nat) (f2 : List Int) (f3 : Int) (f4 : Bool) (Af4 : Option Addr) (cf4 : Nat) (f5 : List Int) (f6 : Int) (j1 : Bool) (j2 : List Int) (j3 : Int) (o1 : Bool) (o2 : List Int) (o3 : Int) (x1 : Bool) (x2 : List Int) (x3 : Int) (s1 : Bool) (s2 : List Int) (s3 : Int) (y1 : Bool) (y2 : List Int) (y3 : Int) (t1 : Bool) (t2 : List Int) (t3 : Int) : ∀ T W j v W', (∀ k ∈ 16 :: more_D 16, k ≠ j) → more_G gp gf b0 a0_0 A0_1 c0_1 l0_1 a0_2 a0_3 A0_4 c0_4 l0_4 a0_5 a1 f1 Af1 cf1 f2 f3 f4 Af4 cf4 f5 f6 j1 j2 j3 o1 o2 o3 x1 x2 x3 s1 s2 s3 y1 y2 y3 t1 t2 t3 16 T W → Below W.heap.size W W' → more_G gp gf b0 a0_0 A0_1 c0_1 l0_1 a0_2 a0_3 A0_4 c0_4 l0_4 a0_5 a1 f1 Af1 cf1 f2 f3 f4 Af4 cf4 f5 f6 j1 j2 j3 o1 o2 o3 x1 x2 x3 s1 s2 s3 y1 y2 y3 t1 t2 t3 16 (T.setIfInBounds (j + 7) v) W' := by
 intro T W j v W' hne h hb
 unfold more_G at h ⊢
 exact keepT h (fun e => hne 16 (by decide) (by omega))
theorem more_stab17 (gp gf b0 : Nat) (a0_0 : Bool) (A0_1 : Option Addr) (c0_1 : Nat) (l0_1 : List Int) (a0_2 : Int) (a0_3 : Bool) (A0_4 : Option Addr) (c0_4 : Nat) (l0_4 : List Int) (a0_5 : Int) (a1 : Int) (f1 : Bool) (Af1 : Option Addr) (cf1 : Nat) (f2 : List Int) (f3 : Int) (f4 : Bool) (Af4 : Option Addr) (cf4 : Nat) (f5 : List Int) (f6 : Int) (j1 : Bool) (j2 : List Int) (j3 : Int) (o1 : Bool) (o2 : List Int) (o3 : Int) (x1 : Bool) (x2 : List Int) (x3 : Int) (s1 : Bool) (s2 : List Int) (s3 : Int) (y1 : Bool) (y2 : List Int) (y3 : Int) (t1 : Bool) (t2 : List Int) (t3 : Int) : ∀ T W j v W', (∀ k ∈ 17 :: more_D 17, k ≠ j) → more_G gp gf b0 a0_0 A0_1 c0_1 l0_1 a0_2 a0_3 A0_4 c0_4 l0_4 a0_5 a1 f1 Af1 cf1 f2 f3 f4 Af4 cf4 f5 f6 j1 j2 j3 o1 o2 o3 x1 x2 x3 s1 s2 s3 y1 y2 y3 t1 t2 t3 17 T W → Below W.heap.size W W' → more_G gp gf b0 a0_0 A0_1 c0_1 l0_1 a0_2 a0_3 A0_4 c0_4 l0_4 a0_5 a1 f1 Af1 cf1 f2 f3 f4 Af4 cf4 f5 f6 j1 j2 j3 o1 o2 o3 x1 x2 x3 s1 s2 s3 y1 y2 y3 t1 t2 t3 17 (T.setIfInBounds (j + 7) v) W' := by
 intro T W j v W' hne h hb
 unfold more_G at h ⊢
 exact keepT h (fun e => hne 17 (by decide) (by omega))
theorem more_stab18 (gp gf b0 : Nat) (a0_0 : Bool) (A0_1 : Option Addr) (c0_1 : Nat) (l0_1 : List Int) (a0_2 : Int) (a0_3 : Bool) (A0_4 : Option Addr) (c0_4 : Nat) (l0_4 : List Int) (a0_5 : Int) (a1 : Int) (f1 : Bool) (Af1 : Option Addr) (cf1 : Nat) (f2 : List Int) (f3 : Int) (f4 : Bool) (Af4 : Option Addr) (cf4 : Nat) (f5 : List Int) (f6 : Int) (j1 : Bool) (j2 : List Int) (j3 : Int) (o1 : Bool) (o2 : List Int) (o3 : Int) (x1 : Bool) (x2 : List Int) (x3 : Int) (s1 : Bool) (s2 : List Int) (s3 : Int) (y1 : Bool) (y2 : List Int) (y3 : Int) (t1 : Bool) (t2 : List Int) (t3 : Int) : ∀ T W j v W', (∀ k ∈ 18 :: more_D 18, k ≠ j) → more_G gp gf b0 a0_0 A0_1 c0_1 l0_1 a0_2 a0_3 A0_4 c0_4 l0_4 a0_5 a1 f1 Af1 cf1 f2 f3 f4 Af4 cf4 f5 f6 j1 j2 j3 o1 o2 o3 x1 x2 x3 s1 s2 s3 y1 y2 y3 t1 t2 t3 18 T W → Below W.heap.size W W' → more_G gp gf b0 a0_0 A0_1 c0_1 l0_1 a0_2 a0_3 A0_4 c0_4 l0_4 a0_5 a1 f1 Af1 cf1 f2 f3 f4 Af4 cf4 f5 f6 j1 j2 j3 o1 o2 o3 x1 x2 x3 s1 s2 s3 y1 y2 y3 t1 t2 t3 18 (T.setIfInBounds (j + 7) v) W' := by
 intro T W j v W' hne h hb
 unfold more_G at h ⊢
 exact keepT h (fun e => hne 18 (by decide) (by omega))
theorem more_stab19 (gp gf b0 : Nat) (a0_0 : Bool) (A0_1 : Option Addr) (c0_1 : Nat) (l0_1 : List Int) (a0_2 : Int) (a0_3 : Bool) (A0_4 : Option Addr) (c0_4 : Nat) (l0_4 : List Int) (a0_5 : Int) (a1 : Int) (f1 : Bool) (Af1 : Option Addr) (cf1 : Nat) (f2 : List Int) (f3 : Int) (f4 : Bool) (Af4 : Option Addr) (cf4 : Nat) (f5 : List Int) (f6 : Int) (j1 : Bool) (j2 : List Int) (j3 : Int) (o1 : Bool) (o2 : List Int) (o3 : Int) (x1 : Bool) (x2 : List Int) (x3 : Int) (s1 : Bool) (s2 : List Int) (s3 : Int) (y1 : Bool) (y2 : List Int) (y3 : Int) (t1 : Bool) (t2 : List Int) (t3 : Int) : ∀ T W j v W', (∀ k ∈ 19 :: more_D 19, k ≠ j) → more_G gp gf b0 a0_0 A0_1 c0_1 l0_1 a0_2 a0_3 A0_4 c0_4 l0_4 a0_5 a1 f1 Af1 cf1 f2 f3 f4 Af4 cf4 f5 f6 j1 j2 j3 o1 o2 o3 x1 x2 x3 s1 s2 s3 y1 y2 y3 t1 t2 t3 19 T W → Below W.heap.size W W' → more_G gp gf b0 a0_0 A0_1 c0_1 l0_1 a0_2 a0_3 A0_4 c0_4 l0_4 a0_5 a1 f1 Af1 cf1 f2 f3 f4 Af4 cf4 f5 f6 j1 j2 j3 o1 o2 o3 x1 x2 x3 s1 s2 s3 y1 y2 y3 t1 t2 t3 19 (T.setIfInBounds (j + 7) v) W' := by
 intro T W j v W' hne h hb
 unfold more_G at h ⊢
 exact keepT h (fun e => hne 19 (by decide) (by omega))
theorem more_stab20 (gp gf b0 : Nat) (a0_0 : Bool) (A0_1 : Option Addr) (c0_1 : Nat) (l0_1 : List Int) (a0_2 : Int) (a0_3 : Bool) (A0_4 : Option Addr) (c0_4 : Nat) (l0_4 : List Int) (a0_5 : Int) (a1 : Int) (f1 : Bool) (Af1 : Option Addr) (cf1 : Nat) (f2 : List Int) (f3 : Int) (f4 : Bool) (Af4 : Option Addr) (cf4 : Nat) (f5 : List Int) (f6 : Int) (j1 : Bool) (j2 : List Int) (j3 : Int) (o1 : Bool) (o2 : List Int) (o3 : Int) (x1 : Bool) (x2 : List Int) (x3 : Int) (s1 : Bool) (s2 : List Int) (s3 : Int) (y1 : Bool) (y2 : List Int) (y3 : Int) (t1 : Bool) (t2 : List Int) (t3 : Int) : ∀ T W j v W', (∀ k ∈ 20 :: more_D 20, k ≠ j) → more_G gp gf b0 a0_0 A0_1 c0_1 l0_1 a0_2 a0_3 A0_4 c0_4 l0_4 a0_5 a1 f1 Af1 cf1 f2 f3 f4 Af4 cf4 f5 f6 j1 j2 j3 o1 o2 o3 x1 x2 x3 s1 s2 s3 y1 y2 y3 t1 t2 t3 20 T W → Below W.heap.size W W' → more_G gp gf b0 a0_0 A0_1 c0_1 l0_1 a0_2 a0_3 A0_4 c0_4 l0_4 a0_5 a1 f1 Af1 cf1 f2 f3 f4 Af4 cf4 f5 f6 j1 j2 j3 o1 o2 o3 x1 x2 x3 s1 s2 s3 y1 y2 y3 t1 t2 t3 20 (T.setIfInBounds (j + 7) v) W' := by
 intro T W j v W' hne h hb
 unfold more_G at h ⊢
 exact keepT h (fun e => hne 20 (by decide) (by omega))
theorem more_stab21 (gp gf b0 : Nat) (a0_0 : Bool) (A0_1 : Option Addr) (c0_1 : Nat) (l0_1 : List Int) (a0_2 : Int) (a0_3 : Bool) (A0_4 : Option Addr) (c0_4 : Nat) (l0_4 : List Int) (a0_5 : Int) (a1 : Int) (f1 : Bool) (Af1 : Option Addr) (cf1 : Nat) (f2 : List Int) (f3 : Int) (f4 : Bool) (Af4 : Option Addr) (cf4 : Nat) (f5 : List Int) (f6 : Int) (j1 : Bool) (j2 : List Int) (j3 : Int) (o1 : Bool) (o2 : List Int) (o3 : Int) (x1 : Bool) (x2 : List Int) (x3 : Int) (s1 : Bool) (s2 : List Int) (s3 : Int) (y1 : Bool) (y2 : List Int) (y3 : Int) (t1 : Bool) (t2 : List Int) (t3 : Int) : ∀ T W j v W', (∀ k ∈ 21 :: more_D 21, k ≠ j) → more_G gp gf b0 a0_0 A0_1 c0_1 l0_1 a0_2 a0_3 A0_4 c0_4 l0_4 a0_5 a1 f1 Af1 cf1 f2 f3 f4 Af4 cf4 f5 f6 j1 j2 j3 o1 o2 o3 x1 x2 x3 s1 s2 s3 y1 y2 y3 t1 t2 t3 21 T W → Below W.heap.size W W' → more_G gp gf b0 a0_0 A0_1 c0_1 l0_1 a0_2 a0_3 A0_4 c0_4 l0_4 a0_5 a1 f1 Af1 cf1 f2 f3 f4 Af4 cf4 f5 f6 j1 j2 j3 o1 o2 o3 x1 x2 x3 s1 s2 s3 y1 y2 y3 t1 t2 t3 21 (T.setIfInBounds (j + 7) v) W' := by
 intro T W j v W' hne h hb
 unfold more_G at h ⊢
 exact keepT h (fun e => hne 21 (by decide) (by omega))
theorem more_stab22 (gp gf b0 : Nat) (a0_0 : Bool) (A0_1 : Option Addr) (c0_1 : Nat) (l0_1 : List Int) (a0_2 : Int) (a0_3 : Bool) (A0_4 : Option Addr) (c0_4 : Nat) (l0_4 : List Int) (a0_5 : Int) (a1 : Int) (f1 : Bool) (Af1 : Option Addr) (cf1 : Nat) (f2 : List Int) (f3 : Int) (f4 : Bool) (Af4 : Option Addr) (cf4 : Nat) (f5 : List Int) (f6 : Int) (j1 : Bool) (j2 : List Int) (j3 : Int) (o1 : Bool) (o2 : List Int) (o3 : Int) (x1 : Bool) (x2 : List Int) (x3 : Int) (s1 : Bool) (s2 : List Int) (s3 : Int) (y1 : Bool) (y2 : List Int) (y3 : Int) (t1 : Bool) (t2 : List Int) (t3 : Int) : ∀ T W j v W', (∀ k ∈ 22 :: more_D 22, k ≠ j) → more_G gp gf b0 a0_0 A0_1 c0_1 l0_1 a0_2 a0_3 A0_4 c0_4 l0_4 a0_5 a1 f1 Af1 cf1 f2 f3 f4 Af4 cf4 f5 f6 j1 j2 j3 o1 o2 o3 x1 x2 x3 s1 s2 s3 y1 y2 y3 t1 t2 t3 22 T W → Below W.heap.size W W' → more_G gp gf b0 a0_0 A0_1 c0_1 l0_1 a0_2 a0_3 A0_4 c0_4 l0_4 a0_5 a1 f1 Af1 cf1 f2 f3 f4 Af4 cf4 f5 f6 j1 j2 j3 o1 o2 o3 x1 x2 x3 s1 s2 s3 y1 y2 y3 t1 t2 t3 22 (T.setIfInBounds (j + 7) v) W' := by
 intro T W j v W' hne h hb
 unfold more_G at h ⊢
 exact keepT h (fun e => hne 22 (by decide) (by omega))
theorem more_stab23 (gp gf b0 : Nat) (a0_0 : Bool) (A0_1 : Option Addr) (c0_1 : Nat) (l0_1 : List Int) (a0_2 : Int) (a0_3 : Bool) (A0_4 : Option Addr) (c0_4 : Nat) (l0_4 : List Int) (a0_5 : Int) (a1 : Int) (f1 : Bool) (Af1 : Option Addr) (cf1 : Nat) (f2 : List Int) (f3 : Int) (f4 : Bool) (Af4 : Option Addr) (cf4 : Nat) (f5 : List Int) (f6 : Int) (j1 : Bool) (j2 : List Int) (j3 : Int) (o1 : Bool) (o2 : List Int) (o3 : Int) (x1 : Bool) (x2 : List Int) (x3 : Int) (s1 : Bool) (s2 : List Int) (s3 : Int) (y1 : Bool) (y2 : List Int) (y3 : Int) (t1 : Bool) (t2 : List Int) (t3 : Int) : ∀ T W j v W', (∀ k ∈ 23 :: more_D 23, k ≠ j) → more_G gp gf b0 a0_0 A0_1 c0_1 l0_1 a0_2 a0_3 A0_4 c0_4 l0_4 a0_5 a1 f1 Af1 cf1 f2 f3 f4 Af4 cf4 f5 f6 j1 j2 j3 o1 o2 o3 x1 x2 x3 s1 s2 s3 y1 y2 y3 t1 t2 t3 23 T W → Below W.heap.size W W' → more_G gp gf b0 a0_0 A0_1 c0_1 l0_1 a0_2 a0_3 A0_4 c0_4 l0_4 a0_5 a1 f1 Af1 cf1 f2 f3 f4 Af4 cf4 f5 f6 j1 j2 j3 o1 o2 o3 x1 x2 x3 s1 s2 s3 y1 y2 y3 t1 t2 t3 23 (T.setIfInBounds (j + 7) v) W' := by
 intro T W j v W' hne h hb
 unfold more_G at h ⊢
 obtain ⟨A, c, h, hl, hs⟩ := h
 exact ⟨A, c, keepT h (fun e => hne 23 (by decide) (by omega)), hl, k66_heap.C (fun k hk => hb.block k hk) hs⟩
theorem more_stab24 (gp gf b0 : Nat) (a0_0 : Bool) (A0_1 : Option Addr) (c0_1 : Nat) (l0_1 : List Int) (a0_2 : Int) (a0_3 : Bool) (A0_4 : Option Addr) (c0_4 : Nat) (l0_4 : List Int) (a0_5 : Int) (a1 : Int) (f1 : Bool) (Af1 : Option Addr) (cf1 : Nat) (f2 : List Int) (f3 : Int) (f4 : Bool) (Af4 : Option Addr) (cf4 : Nat) (f5 : List Int) (f6 : Int) (j1 : Bool) (j2 : List Int) (j3 : Int) (o1 : Bool) (o2 : List Int) (o3 : Int) (x1 : Bool) (x2 : List Int) (x3 : Int) (s1 : Bool) (s2 : List Int) (s3 : Int) (y1 : Bool) (y2 : List Int) (y3 : Int) (t1 : Bool) (t2 : List Int) (t3 : Int) : ∀ T W j v W', (∀ k ∈ 24 :: more_D 24, k ≠ j) → more_G gp gf b0 a0_0 A0_1 c0_1 l0_1 a0_2 a0_3 A0_4 c0_4 l0_4 a0_5 a1 f1 Af1 cf1 f2 f3 f4 Af4 cf4 f5 f6 j1 j2 j3 o1 o2 o3 x1 x2 x3 s1 s2 s3 y1 y2 y3 t1 t2 t3 24 T W → Below W.heap.size W W' → more_G gp gf b0 a0_0 A0_1 c0_1 l0_1 a0_2 a0_3 A0_4 c0_4 l0_4 a0_5 a1 f1 Af1 cf1 f2 f3 f4 Af4 cf4 f5 f6 j1 j2 j3 o1 o2 o3 x1 x2 x3 s1 s2 s3 y1 y2 y3 t1 t2 t3 24 (T.setIfInBounds (j + 7) v) W' := by
 intro T W j v W' hne h hb
 unfold more_G at h ⊢
 obtain ⟨⟨A, c, h, hs⟩, s, h2, hr⟩ := h
 exact ⟨⟨A, c, keepT h (fun e => hne 24 (by decide) (by omega)), hs.below hb⟩, s, keepT h2 (fun e => hne 14 (by decide) (by omega)), Kd.R_below hr hb⟩
theorem more_stab25 (gp gf b0 : Nat) (a0_0 : Bool) (A0_1 : Option Addr) (c0_1 : Nat) (l0_1 : List Int) (a0_2 : Int) (a0_3 : Bool) (A0_4 : Option Addr) (c0_4 : Nat) (l0_4 : List Int) (a0_5 : Int) (a1 : Int) (f1 : Bool) (Af1 : Option Addr) (cf1 : Nat) (f2 : List Int) (f3 : Int) (f4 : Bool) (Af4 : Option Addr) (cf4 : Nat) (f5 : List Int) (f6 : Int) (j1 : Bool) (j2 : List Int) (j3 : Int) (o1 : Bool) (o2 : List Int) (o3 : Int) (x1 : Bool) (x2 : List Int) (x3 : Int) (s1 : Bool) (s2 : List Int) (s3 : Int) (y1 : Bool) (y2 : List Int) (y3 : Int) (t1 : Bool) (t2 : List Int) (t3 : Int) : ∀ T W j v W', (∀ k ∈ 25 :: more_D 25, k ≠ j) → more_G gp gf b0 a0_0 A0_1 c0_1 l0_1 a0_2 a0_3 A0_4 c0_4 l0_4 a0_5 a1 f1 Af1 cf1 f2 f3 f4 Af4 cf4 f5 f6 j1 j2 j3 o1 o2 o3 x1 x2 x3 s1 s2 s3 y1 y2 y3 t1 t2 t3 25 T W → Below W.heap.size W W' → more_G gp gf b0 a0_0 A0_1 c0_1 l0_1 a0_2 a0_3 A0_4 c0_4 l0_4 a0_5 a1 f1 Af1 cf1 f2 f3 f4 Af4 cf4 f5 f6 j1 j2 j3 o1 o2 o3 x1 x2 x3 s1 s2 s3 y1 y2 y3 t1 t2 t3 25 (T.setIfInBounds (j + 7) v) W' := by
 intro T W j v W' hne h hb
 unfold more_G at h ⊢
 obtain ⟨A, c, h, hl, hs⟩ := h
 exact ⟨A, c, keepT h (fun e => hne 25 (by decide) (by omega)), hl, k66_heap.C (fun k hk => hb.block k hk) hs⟩
theorem more_stab26 (gp gf b0 : Nat) (a0_0 : Bool) (A0_1 : Option Addr) (c0_1 : Nat) (l0_1 : List Int) (a0_2 : Int) (a0_3 : Bool) (A0_4 : Option Addr) (c0_4 : Nat) (l0_4 : List Int) (a0_5 : Int) (a1 : Int) (f1 : Bool) (Af1 : Option Addr) (cf1 : Nat) (f2 : List Int) (f3 : Int) (f4 : Bool) (Af4 : Option Addr) (cf4 : Nat) (f5 : List Int) (f6 : Int) (j1 : Bool) (j2 : List Int) (j3 : Int) (o1 : Bool) (o2 : List Int) (o3 : Int) (x1 : Bool) (x2 : List Int) (x3 : Int) (s1 : Bool) (s2 : List Int) (s3 : Int) (y1 : Bool) (y2 : List Int) (y3 : Int) (t1 : Bool) (t2 : List Int) (t3 : Int) : ∀ T W j v W', (∀ k ∈ 26 :: more_D 26, k ≠ j) → more_G gp gf b0 a0_0 A0_1 c0_1 l0_1 a0_2 a0_3 A0_4 c0_4 l0_4 a0_5 a1 f1 Af1 cf1 f2 f3 f4 Af4 cf4 f5 f6 j1 j2 j3 o1 o2 o3 x1 x2 x3 s1 s2 s3 y1 y2 y3 t1 t2 t3 26 T W → Below W.heap.size W W' → more_G gp gf b0 a0_0 A0_1 c0_1 l0_1 a0_2 a0_3 A0_4 c0_4 l0_4 a0_5 a1 f1 Af1 cf1 f2 f3 f4 Af4 cf4 f5 f6 j1 j2 j3 o1 o2 o3 x1 x2 x3 s1 s2 s3 y1 y2 y3 t1 t2 t3 26 (T.setIfInBounds (j + 7) v) W' := by
 intro T W j v W' hne h hb
 unfold more_G at h ⊢
 obtain ⟨s, t, h, h2, hr, hr2⟩ := h
 exact ⟨s, t, keepT h (fun e => hne 14 (by decide) (by omega)), keepT h2 (fun e => hne 26 (by decide) (by omega)), Kd.R_below hr hb, Kd.R_below hr2 hb⟩
theorem more_stab27 (gp gf b0 : Nat) (a0_0 : Bool) (A0_1 : Option Addr) (c0_1 : Nat) (l0_1 : List Int) (a0_2 : Int) (a0_3 : Bool) (A0_4 : Option Addr) (c0_4 : Nat) (l0_4 : List Int) (a0_5 : Int) (a1 : Int) (f1 : Bool) (Af1 : Option Addr) (cf1 : Nat) (f2 : List Int) (f3 : Int) (f4 : Bool) (Af4 : Option Addr) (cf4 : Nat) (f5 : List Int) (f6 : Int) (j1 : Bool) (j2 : List Int) (j3 : Int) (o1 : Bool) (o2 : List Int) (o3 : Int) (x1 : Bool) (x2 : List Int) (x3 : Int) (s1 : Bool) (s2 : List Int) (s3 : Int) (y1 : Bool) (y2 : List Int) (y3 : Int) (t1 : Bool) (t2 : List Int) (t3 : Int) : ∀ T W j v W', (∀ k ∈ 27 :: more_D 27, k ≠ j) → more_G gp gf b0 a0_0 A0_1 c0_1 l0_1 a0_2 a0_3 A0_4 c0_4 l0_4 a0_5 a1 f1 Af1 cf1 f2 f3 f4 Af4 cf4 f5 f6 j1 j2 j3 o1 o2 o3 x1 x2 x3 s1 s2 s3 y1 y2 y3 t1 t2 t3 27 T W → Below W.heap.size W W' → more_G gp gf b0 a0_0 A0_1 c0_1 l0_1 a0_2 a0_3 A0_4 c0_4 l0_4 a0_5 a1 f1 Af1 cf1 f2 f3 f4 Af4 cf4 f5 f6 j1 j2 j3 o1 o2 o3 x1 x2 x3 s1 s2 s3 y1 y2 y3 t1 t2 t3 27 (T.setIfInBounds (j + 7) v) W' := by
 intro T W j v W' hne h hb
 unfold more_G at h ⊢
 obtain ⟨s, t, h, hr, hr2⟩ := h
 exact ⟨s, t, keepT h (fun e => hne 27 (by decide) (by omega)), Kd.R_below hr hb, Kd.R_below hr2 hb⟩
theorem more_stab (gp gf b0 : Nat) (a0_0 : Bool) (A0_1 : Option Addr) (c0_1 : Nat) (l0_1 : List Int) (a0_2 : Int) (a0_3 : Bool) (A0_4 : Option Addr) (c0_4 : Nat) (l0_4 : List Int) (a0_5 : Int) (a1 : Int) (f1 : Bool) (Af1 : Option Addr) (cf1 : Nat) (f2 : List Int) (f3 : Int) (f4 : Bool) (Af4 : Option Addr) (cf4 : Nat) (f5 : List Int) (f6 : Int) (j1 : Bool) (j2 : List Int) (j3 : Int) (o1 : Bool) (o2 : List Int) (o3 : Int) (x1 : Bool) (x2 : List Int) (x3 : Int) (s1 : Bool) (s2 : List Int) (s3 : Int) (y1 : Bool) (y2 : List Int) (y3 : Int) (t1 : Bool) (t2 : List Int) (t3 : Int) : ∀ i, i < 28 → ∀ T W j v W', (∀ k ∈ i :: more_D i, k ≠ j) → more_G gp gf b0 a0_0 A0_1 c0_1 l0_1 a0_2 a0_3 A0_4 c0_4 l0_4 a0_5 a1 f1 Af1 cf1 f2 f3 f4 Af4 cf4 f5 f6 j1 j2 j3 o1 o2 o3 x1 x2 x3 s1 s2 s3 y1 y2 y3 t1 t2 t3 i T W → Below W.heap.size W W' → more_G gp gf b0 a0_0 A0_1 c0_1 l0_1 a0_2 a0_3 A0_4 c0_4 l0_4 a0_5 a1 f1 Af1 cf1 f2 f3 f4 Af4 cf4 f5 f6 j1 j2 j3 o1 o2 o3 x1 x2 x3 s1 s2 s3 y1 y2 y3 t1 t2 t3 i (T.setIfInBounds (j + 7) v) W'
 | 0, _ => more_stab0 gp gf b0 a0_0 A0_1 c0_1 l0_1 a0_2 a0_3 A0_4 c0_4 l0_4 a0_5 a1 f1 Af1 cf1 f2 f3 f4 Af4 cf4 f5 f6 j1 j2 j3 o1 o2 o3 x1 x2 x3 s1 s2 s3 y1 y2 y3 t1 t2 t3
 | 1, _ => more_stab1 gp gf b0 a0_0 A0_1 c0_1 l0_1 a0_2 a0_3 A0_4 c0_4 l0_4 a0_5 a1 f1 Af1 cf1 f2 f3 f4 Af4 cf4 f5 f6 j1 j2 j3 o1 o2 o3 x1 x2 x3 s1 s2 s3 y1 y2 y3 t1 t2 t3
 | 2, _ => more_stab2 gp gf b0 a0_0 A0_1 c0_1 l0_1 a0_2 a0_3 A0_4 c0_4 l0_4 a0_5 a1 f1 Af1 cf1 f2 f3 f4 Af4 cf4 f5 f6 j1 j2 j3 o1 o2 o3 x1 x2 x3 s1 s2 s3 y1 y2 y3 t1 t2 t3
 | 3, _ => more_stab3 gp gf b0 a0_0 A0_1 c0_1 l0_1 a0_2 a0_3 A0_4 c0_4 l0_4 a0_5 a1 f1 Af1 cf1 f2 f3 f4 Af4 cf4 f5 f6 j1 j2 j3 o1 o2 o3 x1 x2 x3 s1 s2 s3 y1 y2 y3 t1 t2 t3
 | 4, _ => more_stab4 gp gf b0 a0_0 A0_1 c0_1 l0_1 a0_2 a0_3 A0_4 c0_4 l0_4 a0_5 a1 f1 Af1 cf1 f2 f3 f4 Af4 cf4 f5 f6 j1 j2 j3 o1 o2 o3 x1 x2 x3 s1 s2 s3 y1 y2 y3 t1 t2 t3
 | 5, _ => more_stab5 gp gf b0 a0_0 A0_1 c0_1 l0_1 a0_2 a0_3 A0_4 c0_4 l0_4 a0_5 a1 f1 Af1 cf1 f2 f3 f4 Af4 cf4 f5 f6 j1 j2 j3 o1 o2 o3 x1 x2 x3 s1 s2 s3 y1 y2 y3 t1 t2 t3
 | 6, _ => more_stab6 gp gf b0 a0_0 A0_1 c0_1 l0_1 a0_2 a0_3 A0_4 c0_4 l0_4 a0_5 a1 f1 Af1 cf1 f2 f3 f4 Af4 cf4 f5 f6 j1 j2 j3 o1 o2 o3 x1 x2 x3 s1 s2 s3 y1 y2 y3 t1 t2 t3
 | 7, _ => more_stab7 gp gf b0 a0_0 A0_1 c0_1 l0_1 a0_2 a0_3 A0_4 c0_4 l0_4 a0_5 a1 f1 Af1 cf1 f2 f3 f4 Af4 cf4 f5 f6 j1 j2 j3 o1 o2 o3 x1 x2 x3 s1 s2 s3 y1 y2 y3 t1 t2 t3
 | 8, _ => more_stab8 gp gf b0 a0_0 A0_1 c0_1 l0_1 a0_2 a0_3 A0_4 c0_4 l0_4 a0_5 a1 f1 Af1 cf1 f2 f3 f4 Af4 cf4 f5 f6 j1 j2 j3 o1 o2 o3 x1 x2 x3 s1 s2 s3 y1 y2 y3 t1 t2 t3
 | 9, _ => more_stab9 gp gf b0 a0_0 A0_1 c0_1 l0_1 a0_2 a0_3 A0_4 c0_4 l0_4 a0_5 a1 f1 Af1 cf1 f2 f3 f4 Af4 cf4 f5 f6 j1 j2 j3 o1 o2 o3 x1 x2 x3 s1 s2 s3 y1 y2 y3 t1 t2 t3
 | 10, _ => more_stab10 gp gf b0 a0_0 A0_1 c0_1 l0_1 a0_2 a0_3 A0_4 c0_4 l0_4 a0_5 a1 f1 Af1 cf1 f2 f3 f4 Af4 cf4 f5 f6 j1 j2 j3 o1 o2 o3 x1 x2 x3 s1 s2 s3 y1 y2 y3 t1 t2 t3
 | 11, _ => more_stab11 gp gf b0 a0_0 A0_1 c0_1 l0_1 a0_2 a0_3 A0_4 c0_4 l0_4 a0_5 a1 f1 Af1 cf1 f2 f3 f4 Af4 cf4 f5 f6 j1 j2 j3 o1 o2 o3 x1 x2 x3 s1 s2 s3 y1 y2 y3 t1 t2 t3
 | 12, _ => more_stab12 gp gf b0 a0_0 A0_1 c0_1 l0_1 a0_2 a0_3 A0_4 c0_4 l0_4 a0_5 a1 f1 Af1 cf1 f2 f3 f4 Af4 cf4 f5 f6 j1 j2 j3 o1 o2 o3 x1 x2 x3 s1 s2 s3 y1 y2 y3 t1 t2 t3
 | 13, _ => more_stab13 gp gf b0 a0_0 A0_1 c0_1 l0_1 a0_2 a0_3 A0_4 c0_4 l0_4 a0_5 a1 f1 Af1 cf1 f2 f3 f4 Af4 cf4 f5 f6 j1 j2 j3 o1 o2 o3 x1 x2 x3 s1 s2 s3 y1 y2 y3 t1 t2 t3
 | 14, _ => more_stab14 gp gf b0 a0_0 A0_1 c0_1 l0_1 a0_2 a0_3 A0_4 c0_4 l0_4 a0_5 a1 f1 Af1 cf1 f2 f3 f4 Af4 cf4 f5 f6 j1 j2 j3 o1 o2 o3 x1 x2 x3 s1 s2 s3 y1 y2 y3 t1 t2 t3
 | 15, _ => more_stab15 gp gf b0 a0_0 A0_1 c0_1 l0_1 a0_2 a0_3 A0_4 c0_4 l0_4 a0_5 a1 f1 Af1 cf1 f2 f3 f4 Af4 cf4 f5 f6 j1 j2 j3 o1 o2 o3 x1 x2 x3 s1 s2 s3 y1 y2 y3 t1 t2 t3
 | 16, _ => more_stab16 gp gf b0 a0_0 A0_1 c0_1 l0_1 a0_2 a0_3 A0_4 c0_4 l0_4 a0_5 a1 f1 Af1 cf1 f2 f3 f4 Af4 cf4 f5 f6 j1 j2 j3 o1 o2 o3 x1 x2 x3 s1 s2 s3 y1 y2 y3 t1 t2 t3
 | 17, _ => more_stab17 gp gf b0 a0_0 A0_1 c0_1 l0_1 a0_2 a0_3 A0_4 c0_4 l0_4 a0_5 a1 f1 Af1 cf1 f2 f3 f4 Af4 cf4 f5 f6 j1 j2 j3 o1 o2 o3 x1 x2 x3 s1 s2 s3 y1 y2 y3 t1 t2 t3
 | 18, _ => more_stab18 gp gf b0 a0_0 A0_1 c0_1 l0_1 a0_2 a0_3 A0_4 c0_4 l0_4 a0_5 a1 f1 Af1 cf1 f2 f3 f4 Af4 cf4 f5 f6 j1 j2 j3 o1 o2 o3 x1 x2 x3 s1 s2 s3 y1 y2 y3 t1 t2 t3
 | 19, _ => more_stab19 gp gf b0 a0_0 A0_1 c0_1 l0_1 a0_2 a0_3 A0_4 c0_4 l0_4 a0_5 a1 f1 Af1 cf1 f2 f3 f4 Af4 cf4 f5 f6 j1 j2 j3 o1 o2 o3 x1 x2 x3 s1 s2 s3 y1 y2 y3 t1 t2 t3
 | 20, _ => more_stab20 gp gf b0 a0_0 A0_1 c0_1 l0_1 a0_2 a0_3 A0_4 c0_4 l0_4 a0_5 a1 f1 Af1 cf1 f2 f3 f4 Af4 cf4 f5 f6 j1 j2 j3 o1 o2 o3 x1 x2 x3 s1 s2 s3 y1 y2 y3 t1 t2 t3
 | 21, _ => more_stab21 gp gf b0 a0_0 A0_1 c0_1 l0_1 a0_2 a0_3 A0_4 c0_4 l0_4 a0_5 a1 f1 Af1 cf1 f2 f3 f4 Af4 cf4 f5 f6 j1 j2 j3 o1 o2 o3 x1 x2 x3 s1 s2 s3 y1 y2 y3 t1 t2 t3
 | 22, _ => more_stab22 gp gf b0 a0_0 A0_1 c0_1 l0_1 a0_2 a0_3 A0_4 c0_4 l0_4 a0_5 a1 f1 Af1 cf1 f2 f3 f4 Af4 cf4 f5 f6 j1 j2 j3 o1 o2 o3 x1 x2 x3 s1 s2 s3 y1 y2 y3 t1 t2 t3
 | 23, _ => more_stab23 gp gf b0 a0_0 A0_1 c0_1 l0_1 a0_2 a0_3 A0_4 c0_4 l0_4 a0_5 a1 f1 Af1 cf1 f2 f3 f4 Af4 cf4 f5 f6 j1 j2 j3 o1 o2 o3 x1 x2 x3 s1 s2 s3 y1 y2 y3 t1 t2 t3
 | 24, _ => more_stab24 gp gf b0 a0_0 A0_1 c0_1 l0_1 a0_2 a0_3 A0_4 c0_4 l0_4 a0_5 a1 f1 Af1 cf1 f2 f3 f4 Af4 cf4 f5 f6 j1 j2 j3 o1 o2 o3 x1 x2 x3 s1 s2 s3 y1 y2 y3 t1 t2 t3
 | 25, _ => more_stab25 gp gf b0 a0_0 A0_1 c0_1 l0_1 a0_2 a0_3 A0_4 c0_4 l0_4 a0_5 a1 f1 Af1 cf1 f2 f3 f4 Af4 cf4 f5 f6 j1 j2 j3 o1 o2 o3 x1 x2 x3 s1 s2 s3 y1 y2 y3 t1 t2 t3
 | 26, _ => more_stab26 gp gf b0 a0_0 A0_1 c0_1 l0_1 a0_2 a0_3 A0_4 c0_4 l0_4 a0_5 a1 f1 Af1 cf1 f2 f3 f4 Af4 cf4 f5 f6 j1 j2 j3 o1 o2 o3 x1 x2 x3 s1 s2 s3 y1 y2 y3 t1 t2 t3
 | 27, _ => more_stab27 gp gf b0 a0_0 A0_1 c0_1 l0_1 a0_2 a0_3 A0_4 c0_4 l0_4 a0_5 a1 f1 Af1 cf1 f2 f3 f4 Af4 cf4 f5 f6 j1 j2 j3 o1 o2 o3 x1 x2 x3 s1 s2 s3 y1 y2 y3 t1 t2 t3
 | i + 28, h => absurd h (by omega)
set_option maxHeartbeats 8000000 in
set_option maxRecDepth 100000 in
theorem bound_pair_more.calls (k : Nat) (a0_0 : Bool) (A0_1 : Option Addr) (c0_1 : Nat) (l0_1 : List Int) (a0_2 : Int) (a0_3 : Bool) (A0_4 : Option Addr) (c0_4 : Nat) (l0_4 : List Int) (a0_5 : Int) (a1 : Int) (r1 : Bool) (r2 : List Int) (r3 : Int) (r4 : Bool) (r5 : List Int) (r6 : Int) (w : World) (hr0_1 : Kd.C (Kd.int .u64) w A0_1 l0_1.length l0_1) (hc0_1 : l0_1.length ≤ c0_1) (hr0_4 : Kd.C (Kd.int .u64) w A0_4 l0_4.length l0_4) (hc0_4 : l0_4.length ≤ c0_4) (ht_ : Tz w) (h : bound_pair_more.f k a0_0 l0_1 a0_2 a0_3 l0_4 a0_5 a1 = some (r1, r2, r3, r4, r5, r6)) :
  Calls Tryd.prog 59 #[.agg #[.bool a0_0, .slice A0_1 l0_1.length c0_1, .int .i64 a0_2, .bool a0_3, .slice A0_4 l0_4.length c0_4, .int .i64 a0_5], .int .i64 a1] w fun e w' => ∃ v1_ v4_ : Value, e = .returned (.agg #[.bool r1, v1_, .int .i64 r3, .bool r4, v4_, .int .i64 r6]) ∧ Kd.R (Kd.int .u64) 22 w' w.heap.size (fun k_ => some k_ ≠ (v4_ : Value).ownBlock) v1_ r2 ∧ Kd.R (Kd.int .u64) 22 w' w.heap.size (fun k_ => some k_ ≠ (v1_ : Value).ownBlock) v4_ r5 ∧ Below w.heap.size w w' := by
 have HT := Aside0.mk ht_
 have HP1 := Aside0.mk (show SV w (.slice A0_1 l0_1.length c0_1) l0_1 from ⟨_, _, rfl, hc0_1, hr0_1⟩)
 have HP4 := Aside0.mk (show SV w (.slice A0_4 l0_4.length c0_4) l0_4 from ⟨_, _, rfl, hc0_4, hr0_4⟩)
 clear ht_ hr0_1 hr0_4 hc0_1 hc0_4
 have hu68 := Tryd.underlying68
 have hu66 := Tryd.underlying66
 have hu32 := Tryd.underlying32
 unfold bound_pair_more.f at h
 obtain ⟨⟨f1, f2, f3, f4, f5, f6⟩, hf, h1⟩ := Option.bind_eq_some_iff.mp h
 clear h
 obtain ⟨⟨j1, j2, j3⟩, hj, h2⟩ := Option.bind_eq_some_iff.mp h1
 clear h1
 obtain ⟨⟨o1, o2, o3⟩, ho, h3⟩ := Option.bind_eq_some_iff.mp h2
 clear h2
 obtain ⟨⟨x1, x2, x3⟩, hx, h4⟩ := Option.bind_eq_some_iff.mp h3
 clear h3
 obtain ⟨⟨s1, s2, s3⟩, hs, h5⟩ := Option.bind_eq_some_iff.mp h4
 clear h4
 obtain ⟨⟨y1, y2, y3⟩, hy, h6⟩ := Option.bind_eq_some_iff.mp h5
 clear h5
 obtain ⟨⟨t1, t2, t3⟩, ht, h7⟩ := Option.bind_eq_some_iff.mp h6
 clear h6
 simp only [Option.some.injEq, Prod.mk.injEq] at h7
 obtain ⟨rfl, rfl, rfl, rfl, rfl, rfl⟩ := h7
 dsimp only at hj ho hx hs hy ht
 have HF := Aside0.mk hf
 have HJ := Aside0.mk hj
 have HO := Aside0.mk ho
 have HX := Aside0.mk hx
 have HS := Aside0.mk hs
 have HY := Aside0.mk hy
 have HT2 := Aside0.mk ht
 clear hf hj ho hx hs hy ht
 have HB := Aside0.mk (Below.refl w.heap.size w)
 go_enter Tryd.func59, Tryd.ntmps59
 go_wp2_with (first
  | ((with_reducible refine gate_dst (N := 2) rfl ?_); refine box_event ?hg (N := 2) ?hd (cs := #[.bool a0_0, .slice A0_1 l0_1.length c0_1, .int .i64 a0_2, .bool a0_3, .slice A0_4 l0_4.length c0_4, .int .i64 a0_5]) (t := 68) ?hr ?_; (case hd => rfl); (case hg => rfl); (case hr => first | (go_simp; done) | (go_simp; rfl)); intro gp hg w1 hbox hb; have n0_ := Aside0.mk (below_step (by repeat (first | (with_reducible first | exact HB.out | apply below_alloc | apply pw_below_drewN | apply below_drew1) | exact HB.out)) hb); clear HB; have HB := n0_; clear n0_; have BKp := Aside0.mk hbox; clear hbox hb hg)
  | ((with_reducible refine gate_dst (N := 4) rfl ?_); refine box_event ?hg (N := 4) ?hd (cs := #[.bool false, .slice none 0 0, .int .i64 0, .bool false, .slice none 0 0, .int .i64 0]) (t := 68) ?hr ?_; (case hd => rfl); (case hg => rfl); (case hr => first | (go_simp; done) | (go_simp; rfl)); intro gr hg w2 hbox hb; have n_BKp := Aside0.mk (blk_below (g := gp) (o := .cells #[.bool a0_0, .slice A0_1 l0_1.length c0_1, .int .i64 a0_2, .bool a0_3, .slice A0_4 l0_4.length c0_4, .int .i64 a0_5] 68 (0, 0)) (by (with_reducible repeat (first | refine blk_drewN ?_ _ | refine blk_drew ?_ | refine blk_alloc ?_ _)); exact BKp.out) hb); clear BKp; have BKp := n_BKp; clear n_BKp; have GR := Aside0.mk (show w.heap.size ≤ gr by rw [hg]; exact below_size HB.out); have n0_ := Aside0.mk (below_step (by repeat (first | (with_reducible first | exact HB.out | apply below_alloc | apply pw_below_drewN | apply below_drew1) | exact HB.out)) hb); clear HB; have HB := n0_; clear n0_; have BKr := Aside0.mk hbox; clear hbox hb hg)
  | ((with_reducible refine gate_callee (f := 58) rfl ?_); refine goesL_ (some 6) rfl rfl Tryd.func58 (by kernel_rfl) rfl #[] rfl (by (try simp only [List.map_toArray, List.map_cons, List.map_nil]); first | done | rfl) ?_; (with_reducible refine (bound_first.calls k f1 f2 f3 f4 f5 f6 _ ?sidet HF.out).mono ?_); (case sidet => exact tz_ HT HB); rintro e w3 ⟨vf1, vf4, rfl, hv1, hv4, hb⟩; refine ⟨_, rfl, ?_⟩; obtain ⟨Af1, cf1, rfl⟩ := Kd.R_slice hv1; obtain ⟨Af4, cf4, rfl⟩ := Kd.R_slice hv4; have HF1 := Aside0.mk (SV.of_R hv1); have HF4 := Aside0.mk (SV.of_R hv4); have n_BKp := Aside0.mk (blk_below (g := gp) (o := .cells #[.bool a0_0, .slice A0_1 l0_1.length c0_1, .int .i64 a0_2, .bool a0_3, .slice A0_4 l0_4.length c0_4, .int .i64 a0_5] 68 (0, 0)) (by (with_reducible repeat (first | refine blk_drewN ?_ _ | refine blk_drew ?_ | refine blk_alloc ?_ _)); exact BKp.out) hb); clear BKp; have BKp := n_BKp; clear n_BKp;  have n_BKr := Aside0.mk (blk_below (g := gr) (o := .cells #[.bool false, .slice none 0 0, .int .i64 0, .bool false, .slice none 0 0, .int .i64 0] 68 (0, 0)) (by (with_reducible repeat (first | refine blk_drewN ?_ _ | refine blk_drew ?_ | refine blk_alloc ?_ _)); exact BKr.out) hb); clear BKr; have BKr := n_BKr; clear n_BKr;  have n0_ := Aside0.mk (below_step (by repeat (first | (with_reducible first | exact HB.out | apply below_alloc | apply pw_below_drewN | apply below_drew1) | exact HB.out)) hb); clear HB; have HB := n0_; clear n0_;  clear hv1 hv4 hb)
  | ((with_reducible refine gate_dst (N := 5) rfl ?_); refine box_event ?hg (N := 5) ?hd (cs := #[.bool false, .slice none 0 0, .int .i64 0, .bool false, .slice none 0 0, .int .i64 0]) (t := 68) ?hr ?_; (case hd => rfl); (case hg => rfl); (case hr => first | (go_simp; done) | (go_simp; rfl)); intro gf hg w4 hbox hb; have NPF0 : gp ≠ gf := (by rw [hg]; exact Nat.ne_of_lt (blk_lt (g := gp) (o := .cells #[.bool a0_0, .slice A0_1 l0_1.length c0_1, .int .i64 a0_2, .bool a0_3, .slice A0_4 l0_4.length c0_4, .int .i64 a0_5] 68 (0, 0)) (by (with_reducible repeat (first | refine blk_drewN ?_ _ | refine blk_drew ?_ | refine blk_alloc ?_ _)); exact BKp.out))); have NRF0 : gr ≠ gf := (by rw [hg]; exact Nat.ne_of_lt (blk_lt (g := gr) (o := .cells #[.bool false, .slice none 0 0, .int .i64 0, .bool false, .slice none 0 0, .int .i64 0] 68 (0, 0)) (by (with_reducible repeat (first | refine blk_drewN ?_ _ | refine blk_drew ?_ | refine blk_alloc ?_ _)); exact BKr.out))); have n_BKp := Aside0.mk (blk_below (g := gp) (o := .cells #[.bool a0_0, .slice A0_1 l0_1.length c0_1, .int .i64 a0_2, .bool a0_3, .slice A0_4 l0_4.length c0_4, .int .i64 a0_5] 68 (0, 0)) (by (with_reducible repeat (first | refine blk_drewN ?_ _ | refine blk_drew ?_ | refine blk_alloc ?_ _)); exact BKp.out) hb); clear BKp; have BKp := n_BKp; clear n_BKp; have n_BKr := Aside0.mk (blk_below (g := gr) (o := .cells #[.bool false, .slice none 0 0, .int .i64 0, .bool false, .slice none 0 0, .int .i64 0] 68 (0, 0)) (by (with_reducible repeat (first | refine blk_drewN ?_ _ | refine blk_drew ?_ | refine blk_alloc ?_ _)); exact BKr.out) hb); clear BKr; have BKr := n_BKr; clear n_BKr; have HB3 := Aside0.mk (show Below w3.heap.size w3 w4 from hb); have GF3 := Aside0.mk (show w3.heap.size ≤ gf from Nat.le_of_eq hg.symm); have NPF := Aside0.mk NPF0; have NRF := Aside0.mk NRF0; have GF := Aside0.mk (show w.heap.size ≤ gf by rw [hg]; exact below_size HB.out); have n0_ := Aside0.mk (below_step (by repeat (first | (with_reducible first | exact HB.out | apply below_alloc | apply pw_below_drewN | apply below_drew1) | exact HB.out)) hb); clear HB; have HB := n0_; clear n0_; have BKf := Aside0.mk hbox; clear hbox hb hg; have hc0 : w4.cell? ⟨gf, 0, none⟩ = some (.bool false) := (blk_cell BKf.out 0).trans rfl; have hz0 := blk_frozen BKf.out 0; have hc1 : w4.cell? ⟨gf, 1, none⟩ = some (.slice none 0 0) := (blk_cell BKf.out 1).trans rfl; have hz1 := blk_frozen BKf.out 1; have hc2 : w4.cell? ⟨gf, 2, none⟩ = some (.int .i64 0) := (blk_cell BKf.out 2).trans rfl; have hz2 := blk_frozen BKf.out 2; have hc3 : w4.cell? ⟨gf, 3, none⟩ = some (.bool false) := (blk_cell BKf.out 3).trans rfl; have hz3 := blk_frozen BKf.out 3; have hc4 : w4.cell? ⟨gf, 4, none⟩ = some (.slice none 0 0) := (blk_cell BKf.out 4).trans rfl; have hz4 := blk_frozen BKf.out 4; have hc5 : w4.cell? ⟨gf, 5, none⟩ = some (.int .i64 0) := (blk_cell BKf.out 5).trans rfl; have hz5 := blk_frozen BKf.out 5))
 rename_i K HK
 have HB5 := Aside0.mk (show Below w.heap.size w ((((((w4.setCell ⟨gf, 0, none⟩ (.bool f1)).setCell ⟨gf, 1, none⟩ (.slice Af1 f2.length cf1)).setCell ⟨gf, 2, none⟩ (.int .i64 f3)).setCell ⟨gf, 3, none⟩ (.bool f4)).setCell ⟨gf, 4, none⟩ (.slice Af4 f5.length cf4)).setCell ⟨gf, 5, none⟩ (.int .i64 f6)) from (by refine below_set ?_ GF.out; refine below_set ?_ GF.out; refine below_set ?_ GF.out; refine below_set ?_ GF.out; refine below_set ?_ GF.out; refine below_set ?_ GF.out; exact HB.out))
 have HB35 := Aside0.mk (show Below w3.heap.size w3 ((((((w4.setCell ⟨gf, 0, none⟩ (.bool f1)).setCell ⟨gf, 1, none⟩ (.slice Af1 f2.length cf1)).setCell ⟨gf, 2, none⟩ (.int .i64 f3)).setCell ⟨gf, 3, none⟩ (.bool f4)).setCell ⟨gf, 4, none⟩ (.slice Af4 f5.length cf4)).setCell ⟨gf, 5, none⟩ (.int .i64 f6)) from by refine below_set ?_ GF3.out; refine below_set ?_ GF3.out; refine below_set ?_ GF3.out; refine below_set ?_ GF3.out; refine below_set ?_ GF3.out; refine below_set ?_ GF3.out; exact HB3.out)
 have BKp5 := Aside0.mk (show ((((((w4.setCell ⟨gf, 0, none⟩ (.bool f1)).setCell ⟨gf, 1, none⟩ (.slice Af1 f2.length cf1)).setCell ⟨gf, 2, none⟩ (.int .i64 f3)).setCell ⟨gf, 3, none⟩ (.bool f4)).setCell ⟨gf, 4, none⟩ (.slice Af4 f5.length cf4)).setCell ⟨gf, 5, none⟩ (.int .i64 f6)).heap[gp]? = some (.cells #[.bool a0_0, .slice A0_1 l0_1.length c0_1, .int .i64 a0_2, .bool a0_3, .slice A0_4 l0_4.length c0_4, .int .i64 a0_5] 68 (0, 0)) from by refine blk_far ?_ NPF.out _; refine blk_far ?_ NPF.out _; refine blk_far ?_ NPF.out _; refine blk_far ?_ NPF.out _; refine blk_far ?_ NPF.out _; refine blk_far ?_ NPF.out _; exact BKp.out)
 have BKr5 := Aside0.mk (show ((((((w4.setCell ⟨gf, 0, none⟩ (.bool f1)).setCell ⟨gf, 1, none⟩ (.slice Af1 f2.length cf1)).setCell ⟨gf, 2, none⟩ (.int .i64 f3)).setCell ⟨gf, 3, none⟩ (.bool f4)).setCell ⟨gf, 4, none⟩ (.slice Af4 f5.length cf4)).setCell ⟨gf, 5, none⟩ (.int .i64 f6)).heap[gr]? = some (.cells #[.bool false, .slice none 0 0, .int .i64 0, .bool false, .slice none 0 0, .int .i64 0] 68 (0, 0)) from by refine blk_far ?_ NRF.out _; refine blk_far ?_ NRF.out _; refine blk_far ?_ NRF.out _; refine blk_far ?_ NRF.out _; refine blk_far ?_ NRF.out _; refine blk_far ?_ NRF.out _; exact BKr.out)
 have BKf5 := Aside0.mk (show ((((((w4.setCell ⟨gf, 0, none⟩ (.bool f1)).setCell ⟨gf, 1, none⟩ (.slice Af1 f2.length cf1)).setCell ⟨gf, 2, none⟩ (.int .i64 f3)).setCell ⟨gf, 3, none⟩ (.bool f4)).setCell ⟨gf, 4, none⟩ (.slice Af4 f5.length cf4)).setCell ⟨gf, 5, none⟩ (.int .i64 f6)).heap[gf]? = some (.cells #[.bool f1, .slice Af1 f2.length cf1, .int .i64 f3, .bool f4, .slice Af4 f5.length cf4, .int .i64 f6] 68 (0, 0)) from by refine blk_put (cs := #[.bool f1, .slice Af1 f2.length cf1, .int .i64 f3, .bool f4, .slice Af4 f5.length cf4, .int .i64 0]) ?_ 5 _ rfl; refine blk_put (cs := #[.bool f1, .slice Af1 f2.length cf1, .int .i64 f3, .bool f4, .slice none 0 0, .int .i64 0]) ?_ 4 _ rfl; refine blk_put (cs := #[.bool f1, .slice Af1 f2.length cf1, .int .i64 f3, .bool false, .slice none 0 0, .int .i64 0]) ?_ 3 _ rfl; refine blk_put (cs := #[.bool f1, .slice Af1 f2.length cf1, .int .i64 0, .bool false, .slice none 0 0, .int .i64 0]) ?_ 2 _ rfl; refine blk_put (cs := #[.bool f1, .slice none 0 0, .int .i64 0, .bool false, .slice none 0 0, .int .i64 0]) ?_ 1 _ rfl; refine blk_put (cs := #[.bool false, .slice none 0 0, .int .i64 0, .bool false, .slice none 0 0, .int .i64 0]) ?_ 0 _ rfl; exact BKf.out)
 obtain ⟨W5, hW5⟩ : ∃ x, x = ((((((w4.setCell ⟨gf, 0, none⟩ (.bool f1)).setCell ⟨gf, 1, none⟩ (.slice Af1 f2.length cf1)).setCell ⟨gf, 2, none⟩ (.int .i64 f3)).setCell ⟨gf, 3, none⟩ (.bool f4)).setCell ⟨gf, 4, none⟩ (.slice Af4 f5.length cf4)).setCell ⟨gf, 5, none⟩ (.int .i64 f6)) := ⟨_, rfl⟩
 rw [← hW5]
 rw [← hW5] at HB5 HB35 BKp5 BKr5 BKf5
 clear hW5
 clear BKp BKr BKf HB HB3 hc0 hc1 hc2 hc3 hc4 hc5 hz0 hz1 hz2 hz3 hz4 hz5
 refine region_facts (w0 := W5) (last := 28) (n0 := 35) (by kernel_rfl) more_deps more_D (fun j => decide (j < 7)) (fun i => i + 7) (by kernel_rfl) (more_G gp gf w.heap.size a0_0 A0_1 c0_1 l0_1 a0_2 a0_3 A0_4 c0_4 l0_4 a0_5 a1 f1 Af1 cf1 f2 f3 f4 Af4 cf4 f5 f6 j1 j2 j3 o1 o2 o3 x1 x2 x3 s1 s2 s3 y1 y2 y3 t1 t2 t3) rfl ?hb (fun i hi T W j v W' h1 h2 h3 => more_stab gp gf w.heap.size a0_0 A0_1 c0_1 l0_1 a0_2 a0_3 A0_4 c0_4 l0_4 a0_5 a1 f1 Af1 cf1 f2 f3 f4 Af4 cf4 f5 f6 j1 j2 j3 o1 o2 o3 x1 x2 x3 s1 s2 s3 y1 y2 y3 t1 t2 t3 i hi T W j v W' h1 h2 h3) ?hop ?hlast
 case hb => exact below_drew1 (Below.refl _ _)
 case hop =>
  intro i o hi ho T W hT hk hb hd
  have hBW : Below w.heap.size w W := below_step HB5.out hb
  have TZ : Tz W := tz_ HT (Aside0.mk hBW)
  have P1 := HP1.out.below hBW
  have P4 := HP4.out.below hBW
  have F1 := HF1.out.below (below_step HB35.out hb)
  have F4 := HF4.out.below (below_step HB35.out hb)
  have BP := blk_below BKp5.out hb
  have BF := blk_below BKf5.out hb
  obtain ⟨x0_, x1_, x2_, x3_, x4_, x5_, x6_, x7_, x8_, x9_, x10_, x11_, x12_, x13_, x14_, x15_, x16_, x17_, x18_, x19_, x20_, x21_, x22_, x23_, x24_, x25_, x26_, x27_, x28_, x29_, x30_, x31_, x32_, x33_, x34_, rfl⟩ := size35 T hT
  have e1_ : x1_ = .int .i64 a1 := Option.some.inj (hk 1 rfl)
  have e2_ : x2_ = .pointer (some ⟨gp, 0, none⟩) := Option.some.inj (hk 2 rfl)
  have e4_ : x4_ = .pointer (some ⟨gr, 0, none⟩) := Option.some.inj (hk 4 rfl)
  have e5_ : x5_ = .pointer (some ⟨gf, 0, none⟩) := Option.some.inj (hk 5 rfl)
  subst e1_ e2_ e4_ e5_
  clear ho hk hT
  have hcgp0 : W.cell? ⟨gp, 0, none⟩ = some (.bool a0_0) := (blk_cell BP 0).trans rfl
  have hzgp0 := blk_frozen BP 0
  have hcgp1 : W.cell? ⟨gp, 1, none⟩ = some (.slice A0_1 l0_1.length c0_1) := (blk_cell BP 1).trans rfl
  have hzgp1 := blk_frozen BP 1
  have hcgp2 : W.cell? ⟨gp, 2, none⟩ = some (.int .i64 a0_2) := (blk_cell BP 2).trans rfl
  have hzgp2 := blk_frozen BP 2
  have hcgp3 : W.cell? ⟨gp, 3, none⟩ = some (.bool a0_3) := (blk_cell BP 3).trans rfl
  have hzgp3 := blk_frozen BP 3
  have hcgp4 : W.cell? ⟨gp, 4, none⟩ = some (.slice A0_4 l0_4.length c0_4) := (blk_cell BP 4).trans rfl
  have hzgp4 := blk_frozen BP 4
  have hcgp5 : W.cell? ⟨gp, 5, none⟩ = some (.int .i64 a0_5) := (blk_cell BP 5).trans rfl
  have hzgp5 := blk_frozen BP 5
  have hcgf0 : W.cell? ⟨gf, 0, none⟩ = some (.bool f1) := (blk_cell BF 0).trans rfl
  have hzgf0 := blk_frozen BF 0
  have hcgf1 : W.cell? ⟨gf, 1, none⟩ = some (.slice Af1 f2.length cf1) := (blk_cell BF 1).trans rfl
  have hzgf1 := blk_frozen BF 1
  have hcgf2 : W.cell? ⟨gf, 2, none⟩ = some (.int .i64 f3) := (blk_cell BF 2).trans rfl
  have hzgf2 := blk_frozen BF 2
  have hcgf3 : W.cell? ⟨gf, 3, none⟩ = some (.bool f4) := (blk_cell BF 3).trans rfl
  have hzgf3 := blk_frozen BF 3
  have hcgf4 : W.cell? ⟨gf, 4, none⟩ = some (.slice Af4 f5.length cf4) := (blk_cell BF 4).trans rfl
  have hzgf4 := blk_frozen BF 4
  have hcgf5 : W.cell? ⟨gf, 5, none⟩ = some (.int .i64 f6) := (blk_cell BF 5).trans rfl
  have hzgf5 := blk_frozen BF 5
  obtain rfl | rfl | rfl | rfl | rfl | rfl | rfl | rfl | rfl | rfl | rfl | rfl | rfl | rfl | rfl | rfl | rfl | rfl | rfl | rfl | rfl | rfl | rfl | rfl | rfl | rfl | rfl | rfl : i = 0 ∨ i = 1 ∨ i = 2 ∨ i = 3 ∨ i = 4 ∨ i = 5 ∨ i = 6 ∨ i = 7 ∨ i = 8 ∨ i = 9 ∨ i = 10 ∨ i = 11 ∨ i = 12 ∨ i = 13 ∨ i = 14 ∨ i = 15 ∨ i = 16 ∨ i = 17 ∨ i = 18 ∨ i = 19 ∨ i = 20 ∨ i = 21 ∨ i = 22 ∨ i = 23 ∨ i = 24 ∨ i = 25 ∨ i = 26 ∨ i = 27 := by omega
  ·
   refine wpOp_step rfl (fun K' hK => ?_)
   go_simp
   exact hK _ _ ⟨(.pointer (some ⟨gp, 0, none⟩)), rfl, Below.refl _ _, rfl⟩
  ·
   have d0 := hd 0 (by decide)
   unfold more_G at d0
   have e0_ : x7_ = (.pointer (some ⟨gp, 0, none⟩)) := Option.some.inj d0
   subst e0_
   clear d0
   refine wpOp_step rfl (fun K' hK => ?_)
   go_simp
   exact hK _ _ ⟨(.agg #[.bool a0_0, .slice A0_1 l0_1.length c0_1, .int .i64 a0_2]), rfl, Below.refl _ _, rfl⟩
  ·
   refine wpOp_step rfl (fun K' hK => ?_)
   go_simp
   exact hK _ _ ⟨(.pointer (some ⟨gf, 0, none⟩)), rfl, Below.refl _ _, rfl⟩
  ·
   have d2 := hd 2 (by decide)
   unfold more_G at d2
   have e2_ : x9_ = (.pointer (some ⟨gf, 0, none⟩)) := Option.some.inj d2
   subst e2_
   clear d2
   refine wpOp_step rfl (fun K' hK => ?_)
   go_simp
   exact hK _ _ ⟨(.agg #[.bool f1, .slice Af1 f2.length cf1, .int .i64 f3]), rfl, Below.refl _ _, rfl⟩
  ·
   refine wpOp_step rfl (fun K' hK => ?_)
   go_simp
   exact hK _ _ ⟨(.int .i64 a1), rfl, Below.refl _ _, rfl⟩
  ·
   have d4 := hd 4 (by decide)
   unfold more_G at d4
   have e4_ : x11_ = (.int .i64 a1) := Option.some.inj d4
   subst e4_
   clear d4
   refine wpOp_step rfl (fun K' hK => ?_)
   refine goes_ Tryd.func42 (by kernel_rfl) rfl #[.int .i64 a1, .int .i64 0] (by rfl) rfl rfl (by (try simp only [List.map_toArray, List.map_cons, List.map_nil]); first | done | rfl) ?_
   refine (bound_of.calls k a1 0 j1 j2 j3 W TZ HJ.out).mono ?_
   rintro e w' ⟨v, rfl, hv, hb'⟩
   obtain ⟨A, c, rfl⟩ := Kd.R_slice hv
   refine ⟨_, rfl, ?_⟩
   exact hK _ _ ⟨_, rfl, hb', A, c, rfl, SV.of_R hv⟩
  ·
   refine wpOp_step rfl (fun K' hK => ?_)
   go_simp
   exact hK _ _ ⟨(.pointer (some ⟨gp, 0, none⟩)), rfl, Below.refl _ _, rfl⟩
  ·
   have d6 := hd 6 (by decide)
   unfold more_G at d6
   have e6_ : x13_ = (.pointer (some ⟨gp, 0, none⟩)) := Option.some.inj d6
   subst e6_
   clear d6
   refine wpOp_step rfl (fun K' hK => ?_)
   go_simp
   exact hK _ _ ⟨(.agg #[.bool a0_0, .slice A0_1 l0_1.length c0_1, .int .i64 a0_2]), rfl, Below.refl _ _, rfl⟩
  ·
   refine wpOp_step rfl (fun K' hK => ?_)
   refine goes_ Tryd.func42 (by kernel_rfl) rfl #[.int .i64 1, .int .i64 0] (by rfl) rfl rfl (by (try simp only [List.map_toArray, List.map_cons, List.map_nil]); first | done | rfl) ?_
   refine (bound_of.calls k 1 0 o1 o2 o3 W TZ HO.out).mono ?_
   rintro e w' ⟨v, rfl, hv, hb'⟩
   obtain ⟨A, c, rfl⟩ := Kd.R_slice hv
   refine ⟨_, rfl, ?_⟩
   exact hK _ _ ⟨_, rfl, hb', A, c, rfl, SV.of_R hv⟩
  ·
   refine wpOp_step rfl (fun K' hK => ?_)
   go_simp
   exact hK _ _ ⟨(.pointer (some ⟨gf, 0, none⟩)), rfl, Below.refl _ _, rfl⟩
  ·
   have d9 := hd 9 (by decide)
   unfold more_G at d9
   have e9_ : x16_ = (.pointer (some ⟨gf, 0, none⟩)) := Option.some.inj d9
   subst e9_
   clear d9
   refine wpOp_step rfl (fun K' hK => ?_)
   go_simp
   exact hK _ _ ⟨(.agg #[.bool f1, .slice Af1 f2.length cf1, .int .i64 f3]), rfl, Below.refl _ _, rfl⟩
  ·
   have d7 := hd 7 (by decide)
   unfold more_G at d7
   have e7_ : x14_ = (.agg #[.bool a0_0, .slice A0_1 l0_1.length c0_1, .int .i64 a0_2]) := Option.some.inj d7
   subst e7_
   clear d7
   have d8 := hd 8 (by decide)
   unfold more_G at d8
   obtain ⟨A8, c8, d8, D8⟩ := d8
   have e8_ : x15_ = _ := Option.some.inj d8
   subst e8_
   have d10 := hd 10 (by decide)
   unfold more_G at d10
   have e10_ : x17_ = (.agg #[.bool f1, .slice Af1 f2.length cf1, .int .i64 f3]) := Option.some.inj d10
   subst e10_
   clear d10
   refine wpOp_step rfl (fun K' hK => ?_)
   refine Kd.N_lit_step k66 (w0 := W) W.heap.size 66 (by rfl) rfl (xs := ([(⟨(⟨a0_0, l0_1, a0_2⟩ : S32)⟩ : S66), (⟨(⟨o1, o2, o3⟩ : S32)⟩ : S66), (⟨(⟨f1, f2, f3⟩ : S32)⟩ : S66)] : List (S66))) (inner := [.bool a0_0, .slice A0_1 l0_1.length c0_1, .int .i64 a0_2, .bool o1, .slice A8 o2.length c8, .int .i64 o3, .bool f1, .slice Af1 f2.length cf1, .int .i64 f3]) (ok := fun _ => True) (okp := fun k => k < W.heap.size) (by first | (go_simp; done) | (go_simp; rfl)) (Reps.c3 (P1.foot a0_0 a0_2) (Reps.c3 (D8.foot o1 o3) (Reps.c3 (F1.foot f1 f3) (Reps.none _ _)))) (fun _ _ => trivial) trivial (Below.refl _ _) (Nat.le_refl _) (by simp) ?_
   intro v1 w1 hN hb' hg hat
   obtain ⟨A, c, rfl, hl, hC⟩ := Kd.N_reads hN
   exact hK _ _ ⟨_, rfl, hb', A, c, rfl, hl, hC⟩
  ·
   have d5 := hd 5 (by decide)
   unfold more_G at d5
   obtain ⟨A5, c5, d5, D5⟩ := d5
   have e5_ : x12_ = _ := Option.some.inj d5
   subst e5_
   have d11 := hd 11 (by decide)
   unfold more_G at d11
   obtain ⟨A11, c11, d11, L11, D11⟩ := d11
   have e11_ : x18_ = _ := Option.some.inj d11
   subst e11_
   refine wpOp_step rfl (fun K' hK => ?_)
   refine goes_ Tryd.func77 (by kernel_rfl) rfl #[.agg #[.bool j1, .slice A5 j2.length c5, .int .i64 j3], .slice A11 ([(⟨(⟨a0_0, l0_1, a0_2⟩ : S32)⟩ : S66), (⟨(⟨o1, o2, o3⟩ : S32)⟩ : S66), (⟨(⟨f1, f2, f3⟩ : S32)⟩ : S66)] : List (S66)).length c11] (by rfl) rfl rfl (by (try simp only [List.map_toArray, List.map_cons, List.map_nil]); first | done | rfl) ?_
   refine (bound_off.calls k j1 A5 c5 j2 j3 A11 c11 ([(⟨(⟨a0_0, l0_1, a0_2⟩ : S32)⟩ : S66), (⟨(⟨o1, o2, o3⟩ : S32)⟩ : S66), (⟨(⟨f1, f2, f3⟩ : S32)⟩ : S66)] : List (S66)) x1 x2 x3 W D5.now.2 D5.now.1 D11 L11 TZ HX.out).mono ?_
   rintro e w' ⟨v, rfl, hv, hb'⟩
   obtain ⟨A, c, rfl⟩ := Kd.R_slice hv
   refine ⟨_, rfl, ?_⟩
   exact hK _ _ ⟨_, rfl, hb', A, c, rfl, SV.of_R hv⟩
  ·
   have d3 := hd 3 (by decide)
   unfold more_G at d3
   have e3_ : x10_ = (.agg #[.bool f1, .slice Af1 f2.length cf1, .int .i64 f3]) := Option.some.inj d3
   subst e3_
   clear d3
   have d12 := hd 12 (by decide)
   unfold more_G at d12
   obtain ⟨A12, c12, d12, D12⟩ := d12
   have e12_ : x19_ = _ := Option.some.inj d12
   subst e12_
   refine wpOp_step rfl (fun K' hK => ?_)
   refine Kd.N_lit_step k66 (w0 := W) W.heap.size 66 (by rfl) rfl (xs := ([(⟨(⟨f1, f2, f3⟩ : S32)⟩ : S66), (⟨(⟨x1, x2, x3⟩ : S32)⟩ : S66)] : List (S66))) (inner := [.bool f1, .slice Af1 f2.length cf1, .int .i64 f3, .bool x1, .slice A12 x2.length c12, .int .i64 x3]) (ok := fun _ => True) (okp := fun k => k < W.heap.size) (by first | (go_simp; done) | (go_simp; rfl)) (Reps.c3 (F1.foot f1 f3) (Reps.c3 (D12.foot x1 x3) (Reps.none _ _))) (fun _ _ => trivial) trivial (Below.refl _ _) (Nat.le_refl _) (by simp) ?_
   intro v1 w1 hN hb' hg hat
   obtain ⟨A, c, rfl, hl, hC⟩ := Kd.N_reads hN
   exact hK _ _ ⟨_, rfl, hb', A, c, rfl, hl, hC⟩
  ·
   have d1 := hd 1 (by decide)
   unfold more_G at d1
   have e1_ : x8_ = (.agg #[.bool a0_0, .slice A0_1 l0_1.length c0_1, .int .i64 a0_2]) := Option.some.inj d1
   subst e1_
   clear d1
   have d13 := hd 13 (by decide)
   unfold more_G at d13
   obtain ⟨A13, c13, d13, L13, D13⟩ := d13
   have e13_ : x20_ = _ := Option.some.inj d13
   subst e13_
   refine wpOp_step rfl (fun K' hK => ?_)
   refine goes_ Tryd.func43 (by kernel_rfl) rfl #[.agg #[.bool a0_0, .slice A0_1 l0_1.length c0_1, .int .i64 a0_2], .slice A13 ([(⟨(⟨f1, f2, f3⟩ : S32)⟩ : S66), (⟨(⟨x1, x2, x3⟩ : S32)⟩ : S66)] : List (S66)).length c13] (by rfl) rfl rfl (by (try simp only [List.map_toArray, List.map_cons, List.map_nil]); first | done | rfl) ?_
   refine (bound_num_plus.calls k a0_0 A0_1 c0_1 l0_1 a0_2 A13 c13 ([(⟨(⟨f1, f2, f3⟩ : S32)⟩ : S66), (⟨(⟨x1, x2, x3⟩ : S32)⟩ : S66)] : List (S66)) s1 s2 s3 W P1.now.2 P1.now.1 D13 L13 TZ HS.out).mono ?_
   rintro e w' ⟨v, rfl, hv, hb'⟩
   obtain ⟨A, c, rfl⟩ := Kd.R_slice hv
   refine ⟨_, rfl, ?_⟩
   exact hK _ _ ⟨_, rfl, hb', _, rfl, Kd.R_lower (Kd.R_mono hv (fun _ _ => trivial)) (below_size hBW)⟩
  ·
   refine wpOp_step rfl (fun K' hK => ?_)
   go_simp
   exact hK _ _ ⟨(.pointer (some ⟨gp, 3, none⟩)), rfl, Below.refl _ _, rfl⟩
  ·
   have d15 := hd 15 (by decide)
   unfold more_G at d15
   have e15_ : x22_ = (.pointer (some ⟨gp, 3, none⟩)) := Option.some.inj d15
   subst e15_
   clear d15
   refine wpOp_step rfl (fun K' hK => ?_)
   go_simp
   exact hK _ _ ⟨(.agg #[.bool a0_3, .slice A0_4 l0_4.length c0_4, .int .i64 a0_5]), rfl, Below.refl _ _, rfl⟩
  ·
   refine wpOp_step rfl (fun K' hK => ?_)
   go_simp
   exact hK _ _ ⟨(.pointer (some ⟨gf, 3, none⟩)), rfl, Below.refl _ _, rfl⟩
  ·
   have d17 := hd 17 (by decide)
   unfold more_G at d17
   have e17_ : x24_ = (.pointer (some ⟨gf, 3, none⟩)) := Option.some.inj d17
   subst e17_
   clear d17
   refine wpOp_step rfl (fun K' hK => ?_)
   go_simp
   exact hK _ _ ⟨(.agg #[.bool f4, .slice Af4 f5.length cf4, .int .i64 f6]), rfl, Below.refl _ _, rfl⟩
  ·
   refine wpOp_step rfl (fun K' hK => ?_)
   go_simp
   exact hK _ _ ⟨(.pointer (some ⟨gp, 3, none⟩)), rfl, Below.refl _ _, rfl⟩
  ·
   have d19 := hd 19 (by decide)
   unfold more_G at d19
   have e19_ : x26_ = (.pointer (some ⟨gp, 3, none⟩)) := Option.some.inj d19
   subst e19_
   clear d19
   refine wpOp_step rfl (fun K' hK => ?_)
   go_simp
   exact hK _ _ ⟨(.agg #[.bool a0_3, .slice A0_4 l0_4.length c0_4, .int .i64 a0_5]), rfl, Below.refl _ _, rfl⟩
  ·
   refine wpOp_step rfl (fun K' hK => ?_)
   go_simp
   exact hK _ _ ⟨(.pointer (some ⟨gf, 3, none⟩)), rfl, Below.refl _ _, rfl⟩
  ·
   have d21 := hd 21 (by decide)
   unfold more_G at d21
   have e21_ : x28_ = (.pointer (some ⟨gf, 3, none⟩)) := Option.some.inj d21
   subst e21_
   clear d21
   refine wpOp_step rfl (fun K' hK => ?_)
   go_simp
   exact hK _ _ ⟨(.agg #[.bool f4, .slice Af4 f5.length cf4, .int .i64 f6]), rfl, Below.refl _ _, rfl⟩
  ·
   have d22 := hd 22 (by decide)
   unfold more_G at d22
   have e22_ : x29_ = (.agg #[.bool f4, .slice Af4 f5.length cf4, .int .i64 f6]) := Option.some.inj d22
   subst e22_
   clear d22
   refine wpOp_step rfl (fun K' hK => ?_)
   refine Kd.N_lit_step k66 (w0 := W) W.heap.size 66 (by rfl) rfl (xs := ([(⟨(⟨f4, f5, f6⟩ : S32)⟩ : S66)] : List (S66))) (inner := [.bool f4, .slice Af4 f5.length cf4, .int .i64 f6]) (ok := fun _ => True) (okp := fun k => k < W.heap.size) (by first | (go_simp; done) | (go_simp; rfl)) (Reps.c3 (F4.foot f4 f6) (Reps.none _ _)) (fun _ _ => trivial) trivial (Below.refl _ _) (Nat.le_refl _) (by simp) ?_
   intro v1 w1 hN hb' hg hat
   obtain ⟨A, c, rfl, hl, hC⟩ := Kd.N_reads hN
   exact hK _ _ ⟨_, rfl, hb', A, c, rfl, hl, hC⟩
  ·
   have d20 := hd 20 (by decide)
   unfold more_G at d20
   have e20_ : x27_ = (.agg #[.bool a0_3, .slice A0_4 l0_4.length c0_4, .int .i64 a0_5]) := Option.some.inj d20
   subst e20_
   clear d20
   have d23 := hd 23 (by decide)
   unfold more_G at d23
   obtain ⟨A23, c23, d23, L23, D23⟩ := d23
   have e23_ : x30_ = _ := Option.some.inj d23
   subst e23_
   have d14 := hd 14 (by decide)
   unfold more_G at d14
   obtain ⟨s, d14, D14⟩ := d14
   have e14_ : x21_ = _ := Option.some.inj d14
   subst e14_
   refine wpOp_step rfl (fun K' hK => ?_)
   refine goes_ Tryd.func77 (by kernel_rfl) rfl #[.agg #[.bool a0_3, .slice A0_4 l0_4.length c0_4, .int .i64 a0_5], .slice A23 ([(⟨(⟨f4, f5, f6⟩ : S32)⟩ : S66)] : List (S66)).length c23] (by rfl) rfl rfl (by (try simp only [List.map_toArray, List.map_cons, List.map_nil]); first | done | rfl) ?_
   refine (bound_off.calls k a0_3 A0_4 c0_4 l0_4 a0_5 A23 c23 ([(⟨(⟨f4, f5, f6⟩ : S32)⟩ : S66)] : List (S66)) y1 y2 y3 W P4.now.2 P4.now.1 D23 L23 TZ HY.out).mono ?_
   rintro e w' ⟨v, rfl, hv, hb'⟩
   obtain ⟨A, c, rfl⟩ := Kd.R_slice hv
   refine ⟨_, rfl, ?_⟩
   exact hK _ _ ⟨_, rfl, hb', ⟨A, c, rfl, SV.of_R hv⟩, s, rfl, Kd.R_below D14 hb'⟩
  ·
   have d18 := hd 18 (by decide)
   unfold more_G at d18
   have e18_ : x25_ = (.agg #[.bool f4, .slice Af4 f5.length cf4, .int .i64 f6]) := Option.some.inj d18
   subst e18_
   clear d18
   have d24 := hd 24 (by decide)
   unfold more_G at d24
   obtain ⟨⟨A24, c24, d24, D24⟩, s, d14, D14⟩ := d24
   have e24_ := Option.some.inj d24
   subst e24_
   have e14_ := Option.some.inj d14
   subst e14_
   refine wpOp_step rfl (fun K' hK => ?_)
   refine Kd.N_lit_step k66 (w0 := W) W.heap.size 66 (by rfl) rfl (xs := ([(⟨(⟨f4, f5, f6⟩ : S32)⟩ : S66), (⟨(⟨y1, y2, y3⟩ : S32)⟩ : S66)] : List (S66))) (inner := [.bool f4, .slice Af4 f5.length cf4, .int .i64 f6, .bool y1, .slice A24 y2.length c24, .int .i64 y3]) (ok := fun _ => True) (okp := fun k => k < W.heap.size) (by first | (go_simp; done) | (go_simp; rfl)) (Reps.c3 (F4.foot f4 f6) (Reps.c3 (D24.foot y1 y3) (Reps.none _ _))) (fun _ _ => trivial) trivial (Below.refl _ _) (Nat.le_refl _) (by simp) ?_
   intro v1 w1 hN hb' hg hat
   obtain ⟨A, c, rfl, hl, hC⟩ := Kd.N_reads hN
   exact hK _ _ ⟨_, rfl, hb', A, c, rfl, hl, hC⟩
  ·
   have d16 := hd 16 (by decide)
   unfold more_G at d16
   have e16_ : x23_ = (.agg #[.bool a0_3, .slice A0_4 l0_4.length c0_4, .int .i64 a0_5]) := Option.some.inj d16
   subst e16_
   clear d16
   have d25 := hd 25 (by decide)
   unfold more_G at d25
   obtain ⟨A25, c25, d25, L25, D25⟩ := d25
   have e25_ : x32_ = _ := Option.some.inj d25
   subst e25_
   have d24 := hd 24 (by decide)
   unfold more_G at d24
   obtain ⟨⟨A24, c24, d24, D24⟩, s, d14, D14⟩ := d24
   have e24_ := Option.some.inj d24
   subst e24_
   have e14_ := Option.some.inj d14
   subst e14_
   refine wpOp_step rfl (fun K' hK => ?_)
   refine goes_ Tryd.func43 (by kernel_rfl) rfl #[.agg #[.bool a0_3, .slice A0_4 l0_4.length c0_4, .int .i64 a0_5], .slice A25 ([(⟨(⟨f4, f5, f6⟩ : S32)⟩ : S66), (⟨(⟨y1, y2, y3⟩ : S32)⟩ : S66)] : List (S66)).length c25] (by rfl) rfl rfl (by (try simp only [List.map_toArray, List.map_cons, List.map_nil]); first | done | rfl) ?_
   refine (bound_num_plus.calls k a0_3 A0_4 c0_4 l0_4 a0_5 A25 c25 ([(⟨(⟨f4, f5, f6⟩ : S32)⟩ : S66), (⟨(⟨y1, y2, y3⟩ : S32)⟩ : S66)] : List (S66)) t1 t2 t3 W P4.now.2 P4.now.1 D25 L25 TZ HT2.out).mono ?_
   rintro e w' ⟨v, rfl, hv, hb'⟩
   obtain ⟨A, c, rfl⟩ := Kd.R_slice hv
   refine ⟨_, rfl, ?_⟩
   have q1 := Kd.R_elder D14 hv hb'
   have q2 := Kd.R_newR hv D14
   exact hK _ _ ⟨_, rfl, hb', s, _, rfl, rfl, Kd.R_mono q1 (fun _ h => h.2), Kd.R_lower (Kd.R_mono q2 (fun _ h => h.2)) (below_size hBW)⟩
  ·
   have d26 := hd 26 (by decide)
   unfold more_G at d26
   obtain ⟨s, t, d26, e26, D26, E26⟩ := d26
   have e1_ : x21_ = _ := Option.some.inj d26
   subst e1_
   have e2_ : x33_ = _ := Option.some.inj e26
   subst e2_
   refine wpOp_step rfl (fun K' hK => ?_)
   go_simp
   exact hK _ _ ⟨_, rfl, Below.refl _ _, s, t, rfl, D26, E26⟩
 case hlast =>
  intro o ho T W hT hk hb hd
  have hBW : Below w.heap.size w W := below_step HB5.out hb
  have BR := blk_below BKr5.out hb
  have d27 := hd 27 (by decide)
  unfold more_G at d27
  obtain ⟨s, t, d27, R1, R2⟩ := d27
  obtain ⟨As, cs, rfl⟩ := Kd.R_slice R1
  obtain ⟨At, ct, rfl⟩ := Kd.R_slice R2
  obtain ⟨x0_, x1_, x2_, x3_, x4_, x5_, x6_, x7_, x8_, x9_, x10_, x11_, x12_, x13_, x14_, x15_, x16_, x17_, x18_, x19_, x20_, x21_, x22_, x23_, x24_, x25_, x26_, x27_, x28_, x29_, x30_, x31_, x32_, x33_, x34_, rfl⟩ := size35 T hT
  have e4_ : x4_ = .pointer (some ⟨gr, 0, none⟩) := Option.some.inj (hk 4 rfl)
  have e34_ : x34_ = _ := Option.some.inj d27
  subst e4_ e34_
  clear ho hk hT hd
  have hcgr0 : W.cell? ⟨gr, 0, none⟩ = some (.bool false) := (blk_cell BR 0).trans rfl
  have hzgr0 := blk_frozen BR 0
  have hcgr1 : W.cell? ⟨gr, 1, none⟩ = some (.slice none 0 0) := (blk_cell BR 1).trans rfl
  have hzgr1 := blk_frozen BR 1
  have hcgr2 : W.cell? ⟨gr, 2, none⟩ = some (.int .i64 0) := (blk_cell BR 2).trans rfl
  have hzgr2 := blk_frozen BR 2
  have hcgr3 : W.cell? ⟨gr, 3, none⟩ = some (.bool false) := (blk_cell BR 3).trans rfl
  have hzgr3 := blk_frozen BR 3
  have hcgr4 : W.cell? ⟨gr, 4, none⟩ = some (.slice none 0 0) := (blk_cell BR 4).trans rfl
  have hzgr4 := blk_frozen BR 4
  have hcgr5 : W.cell? ⟨gr, 5, none⟩ = some (.int .i64 0) := (blk_cell BR 5).trans rfl
  have hzgr5 := blk_frozen BR 5
  refine wpOp_step rfl (fun K' hK => ?_)
  go_simp
  refine hK _ _ ?_
  show K _ _
  refine HK _ _ ?_
  go_wp2
  refine bodyPost_ret (results_cell_row rfl _ _ gr 68 #[.bool s1, .slice As s2.length cs, .int .i64 s3, .bool t1, .slice At t2.length ct, .int .i64 t3] (0, 0) _ rfl (by refine blk_put (cs := #[.bool s1, .slice As s2.length cs, .int .i64 s3, .bool t1, .slice At t2.length ct, .int .i64 0]) ?_ 5 _ rfl; refine blk_put (cs := #[.bool s1, .slice As s2.length cs, .int .i64 s3, .bool t1, .slice none 0 0, .int .i64 0]) ?_ 4 _ rfl; refine blk_put (cs := #[.bool s1, .slice As s2.length cs, .int .i64 s3, .bool false, .slice none 0 0, .int .i64 0]) ?_ 3 _ rfl; refine blk_put (cs := #[.bool s1, .slice As s2.length cs, .int .i64 0, .bool false, .slice none 0 0, .int .i64 0]) ?_ 2 _ rfl; refine blk_put (cs := #[.bool s1, .slice none 0 0, .int .i64 0, .bool false, .slice none 0 0, .int .i64 0]) ?_ 1 _ rfl; refine blk_put (cs := #[.bool false, .slice none 0 0, .int .i64 0, .bool false, .slice none 0 0, .int .i64 0]) ?_ 0 _ rfl; exact BR) Tryd.underlying68 rfl (by kernel_rfl)) rfl ?_
  exact ⟨_, _, rfl, Kd.R_mono (Kd.R_far (p := ⟨gr, 5, none⟩) (Kd.R_far (p := ⟨gr, 4, none⟩) (Kd.R_far (p := ⟨gr, 3, none⟩) (Kd.R_far (p := ⟨gr, 2, none⟩) (Kd.R_far (p := ⟨gr, 1, none⟩) (Kd.R_far (p := ⟨gr, 0, none⟩) (Kd.R_mono (Kd.R_types R1 BR (by decide)) (fun k_ hk => (⟨hk.1, hk.2⟩ : _ ∧ k_ ≠ gr))) (fun _ hk => hk.2) (.bool s1)) (fun _ hk => hk.2) (.slice As s2.length cs)) (fun _ hk => hk.2) (.int .i64 s3)) (fun _ hk => hk.2) (.bool t1)) (fun _ hk => hk.2) (.slice At t2.length ct)) (fun _ hk => hk.2) (.int .i64 t3)) (fun _ hk => hk.1), Kd.R_mono (Kd.R_far (p := ⟨gr, 5, none⟩) (Kd.R_far (p := ⟨gr, 4, none⟩) (Kd.R_far (p := ⟨gr, 3, none⟩) (Kd.R_far (p := ⟨gr, 2, none⟩) (Kd.R_far (p := ⟨gr, 1, none⟩) (Kd.R_far (p := ⟨gr, 0, none⟩) (Kd.R_mono (Kd.R_types R2 BR (by decide)) (fun k_ hk => (⟨hk.1, hk.2⟩ : _ ∧ k_ ≠ gr))) (fun _ hk => hk.2) (.bool s1)) (fun _ hk => hk.2) (.slice As s2.length cs)) (fun _ hk => hk.2) (.int .i64 s3)) (fun _ hk => hk.2) (.bool t1)) (fun _ hk => hk.2) (.slice At t2.length ct)) (fun _ hk => hk.2) (.int .i64 t3)) (fun _ hk => hk.1), (by refine below_set ?_ GR.out; refine below_set ?_ GR.out; refine below_set ?_ GR.out; refine below_set ?_ GR.out; refine below_set ?_ GR.out; refine below_set ?_ GR.out; exact hBW)⟩
end Go.Proofs.YtpdjahhimmaonaaDoor.PD
