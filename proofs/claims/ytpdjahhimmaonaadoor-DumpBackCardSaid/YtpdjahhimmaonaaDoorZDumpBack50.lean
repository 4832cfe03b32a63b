/- A matrix's text is its rows' texts, a newline behind each; read, it is the matrix; and what is read of any text is told as that text. -/
import Derived.Test.YtpdjahhimmaonaaDoorZDumpBack49
namespace Go.Proofs.YtpdjahhimmaonaaDoor.PE
open Go.RowKit Go.Proofs.YtpdjahhimmaonaaDoorW.PrintWords Go.Proofs.YtpdjahhimmaonaaDoorW.PrintLast Go.Proofs.YtpdjahhimmaonaaDoorW.PrintMore Go.Proofs.YtpdjahhimmaonaaDoor.Num Go.Proofs.YtpdjahhimmaonaaDoor.Flt
set_option linter.unusedVariables false
set_option linter.unusedSimpArgs false
theorem cat_shift (c : Nat) : ∀ (ts : List (List UInt8)) (i j : Nat), i % c = j % c → cat c i ts = cat c j ts
  | [], _, _, _ => rfl
  | t :: ts, i, j, h => by
    unfold cat
    rw [h, cat_shift c ts (i + 1) (j + 1) (by rw [Nat.add_mod, h, ← Nat.add_mod])]
theorem cat_row (c : Nat) : ∀ (r rest : List (List UInt8)) (i : Nat), r ≠ [] → i + r.length = c → cat c i (r ++ rest) = jn 32 r ++ 10 :: cat c 0 rest
  | [], _, _, h, _ => absurd rfl h
  | [t], rest, i, _, h => by
    have hl : i + 1 = c := h
    show cat c i (t :: rest) = t ++ 10 :: cat c 0 rest
    unfold cat
    rw [if_pos (by rw [Nat.mod_eq_of_lt (by omega)]; omega), cat_shift c rest (i + 1) 0 (by rw [hl, Nat.mod_self, Nat.zero_mod])]
    cases rest <;> rfl
  | t :: u :: r, rest, i, _, h => by
    have hl : i + 1 + (u :: r).length = c := by rw [← h]; simp only [List.length_cons]; omega
    have hl2 : i + 1 < c := by rw [← hl]; simp only [List.length_cons]; omega
    have ih := cat_row c (u :: r) rest (i + 1) (by simp) hl
    show cat c i (t :: ((u :: r) ++ rest)) = _
    rw [show cat c i (t :: ((u :: r) ++ rest)) = t ++ (if i % c = c - 1 then 10 else 32) :: cat c (i + 1) ((u :: r) ++ rest) from rfl, if_neg (by rw [Nat.mod_eq_of_lt (by omega)]; omega), ih, jn_cons2]
    simp
def rt : List (List (List UInt8)) → List UInt8
  | [] => []
  | r :: rs => jn 32 r ++ 10 :: rt rs
theorem cat_rows {c : Nat} (hc : 0 < c) : ∀ rs : List (List (List UInt8)), (∀ r ∈ rs, r.length = c) → cat c 0 rs.flatten = rt rs
  | [], _ => rfl
  | r :: rs, h => by
    have hr := h r (List.mem_cons_self ..)
    rw [List.flatten_cons, cat_row c r _ 0 (by intro e; rw [e] at hr; simp at hr; omega) (by omega), cat_rows hc rs (fun x hx => h x (List.mem_cons_of_mem _ hx))]
    rfl
theorem rt_jn : ∀ rs : List (List (List UInt8)), rs ≠ [] → rt rs = jn 10 (rs.map (jn 32)) ++ [10]
  | [], h => absurd rfl h
  | [r], _ => rfl
  | r :: u :: rs, _ => by
    have ih := rt_jn (u :: rs) (by simp)
    rw [show rt (r :: u :: rs) = jn 32 r ++ 10 :: rt (u :: rs) from rfl, ih]
    show _ = (jn 32 r ++ 10 :: jn 10 ((u :: rs).map (jn 32))) ++ [10]
    simp
def RT (c : Nat) : List (List Int) → List (List (List UInt8)) → Prop
  | [], [] => True
  | d :: ds, t :: ts => (Txs d t ∧ t.length = c) ∧ RT c ds ts
  | _, _ => False
theorem txs_take : ∀ (n : Nat) (l : List Int) (ts : List (List UInt8)), Txs l ts → Txs (l.take n) (ts.take n) ∧ Txs (l.drop n) (ts.drop n)
  | 0, l, ts, h => ⟨by rw [List.take_zero, List.take_zero]; trivial, h⟩
  | n + 1, [], [], h => ⟨trivial, trivial⟩
  | n + 1, a :: l, t :: ts, h => by
    have := txs_take n l ts h.2
    exact ⟨⟨h.1, this.1⟩, this.2⟩
theorem rt_ex (c : Nat) : ∀ (R : Nat) (l : List Int) (ts : List (List UInt8)), Txs l ts → ts.length = R * c → ∃ ds tss, ds.flatten = l ∧ tss.flatten = ts ∧ ds.length = R ∧ RT c ds tss
  | 0, l, ts, h, hl => by
    have h1 : ts = [] := List.eq_nil_of_length_eq_zero (by rw [hl, Nat.zero_mul])
    have h2 : l = [] := List.eq_nil_of_length_eq_zero (by rw [txs_len l ts h, h1]; rfl)
    exact ⟨[], [], by rw [h2]; rfl, by rw [h1]; rfl, rfl, trivial⟩
  | R + 1, l, ts, h, hl => by
    rw [Nat.succ_mul] at hl
    obtain ⟨h1, h2⟩ := txs_take c l ts h
    obtain ⟨ds, tss, e1, e2, e3, e4⟩ := rt_ex c R _ _ h2 (by rw [List.length_drop]; omega)
    refine ⟨l.take c :: ds, ts.take c :: tss, ?_, ?_, ?_, ⟨h1, ?_⟩, e4⟩
    · rw [List.flatten_cons, e1, List.take_append_drop]
    · rw [List.flatten_cons, e2, List.take_append_drop]
    · rw [List.length_cons, e3]
    · rw [List.length_take]; omega
theorem RT.len {c : Nat} : ∀ {ds : List (List Int)} {ts : List (List (List UInt8))}, RT c ds ts → (∀ t ∈ ts, t.length = c) ∧ (∀ d ∈ ds, d.length = c) ∧ ds.length = ts.length
  | [], [], _ => ⟨by simp, by simp, rfl⟩
  | d :: ds, t :: ts, h => by
    obtain ⟨h1, h2, h3⟩ := RT.len h.2
    refine ⟨fun x hx => ?_, fun x hx => ?_, congrArg (· + 1) h3⟩
    · rcases List.mem_cons.1 hx with rfl | hx
      · exact h.1.2
      · exact h1 x hx
    · rcases List.mem_cons.1 hx with rfl | hx
      · exact (txs_len _ _ h.1.1).trans h.1.2
      · exact h2 x hx
theorem jn_hi : ∀ (ts : List (List UInt8)), (∀ t ∈ ts, Hi t) → (10 : UInt8) ∉ jn 32 ts
  | [], _ => by intro h; simp [jn] at h
  | [t], h => (h t (List.mem_singleton.2 rfl)).no (by decide)
  | t :: u :: ts, h => by
    have ih := jn_hi (u :: ts) (fun x hx => h x (List.mem_cons_of_mem _ hx))
    rw [jn_cons2]
    intro hm
    rcases List.mem_append.1 hm with hm | hm
    · exact (h t (List.mem_cons_self ..)).no (by decide) hm
    · rcases List.mem_cons.1 hm with hm | hm
      · revert hm; decide
      · exact ih hm
theorem jn_mem_len (c : UInt8) : ∀ (ls : List (List UInt8)), ∀ l ∈ ls, l.length ≤ (jn c ls).length
  | [], _, h => by simp at h
  | [a], l, h => by rw [List.mem_singleton] at h; subst h; exact Nat.le_refl _
  | a :: b :: t, l, h => by
    rw [jn_cons2, List.length_append, List.length_cons]
    rcases List.mem_cons.1 h with rfl | h
    · omega
    · have := jn_mem_len c (b :: t) l h
      omega
theorem rt_rows {c : Nat} (hc : 0 < c) (M : Nat) (hM : M ≤ 70000) : ∀ (ds : List (List Int)) (ts : List (List (List UInt8))), RT c ds ts → (∀ l ∈ ts.map (jn 32), l.length ≤ M) → c ≤ 70001 →
    F2 (fun l r => Ev (fun k => dump_row.f k (bs l)) r ∧ r.1.length ≤ 70001) (ts.map (jn 32)) (ds.map fun d => (d.map cn, true))
  | [], [], _, _, _ => trivial
  | d :: ds, t :: ts, h, hl, hcc => by
    refine ⟨⟨row_fwd h.1.1 ?_ ?_, ?_⟩, rt_rows hc M hM ds ts h.2 (fun l hl' => hl l (List.mem_cons_of_mem _ hl')) hcc⟩
    · intro e
      have := h.1.2
      rw [e] at this
      simp at this
      omega
    · exact Nat.le_trans (hl _ (List.mem_cons_self ..)) hM
    · rw [List.length_map, txs_len _ _ h.1.1, h.1.2]
      exact hcc
theorem rds_ok (c : Nat) : ∀ (ds : List (List Int)) (R : Nat) (D : List Int), (∀ d ∈ ds, d.length = c) → (rds (ds.map fun d => (d.map cn, true)) R c D) = (if Sh ((R + ds.length : Nat) : Int) c (D ++ ds.flatten.map cn) then (((R + ds.length : Nat) : Int), (c : Int), D ++ ds.flatten.map cn, 0) else (0, 0, [], 33))
  | [], R, D, _ => by
    show rds [] R c D = _
    rw [List.flatten_nil, List.map_nil, List.append_nil]
    rfl
  | d :: ds, R, D, h => by
    have hd := h d (List.mem_cons_self ..)
    rw [List.map_cons, rds, if_pos ⟨rfl, .inr (by rw [List.length_map]; exact hd)⟩]
    show rds _ (R + 1) (d.map cn).length (D ++ d.map cn) = _
    rw [List.length_map, hd, rds_ok c ds (R + 1) (D ++ d.map cn) (fun x hx => h x (List.mem_cons_of_mem _ hx))]
    rw [List.flatten_cons, List.map_append, List.append_assoc, List.length_cons, show R + 1 + ds.length = R + (ds.length + 1) by omega]
theorem rds_ok0 (c : Nat) (ds : List (List Int)) (D : List Int) (hne : ds ≠ []) (h : ∀ d ∈ ds, d.length = c) : rds (ds.map fun d => (d.map cn, true)) 0 0 [] = rds (ds.map fun d => (d.map cn, true)) 0 c [] := by
  cases ds with
  | nil => exact absurd rfl hne
  | cons d ds =>
    rw [List.map_cons, rds, rds, if_pos ⟨rfl, .inl rfl⟩, if_pos ⟨rfl, .inl rfl⟩]
theorem read_back {R C : Int} {D : List Int} {ts : List (List UInt8)} (hS : Sh R C D) (h : Txs D ts) (hl : (cat C.toNat 0 ts).length ≤ 65536) : Ev (fun k => dump_Read.f k (bs (cat C.toNat 0 ts))) (R, C, D.map cn, 0) := by
  obtain ⟨⟨r0, r1⟩, ⟨c0, c1⟩, hD⟩ := hS
  obtain ⟨R, rfl⟩ : ∃ n : Nat, R = n := ⟨R.toNat, by omega⟩
  obtain ⟨C, rfl⟩ : ∃ n : Nat, C = n := ⟨C.toNat, by omega⟩
  rw [Int.toNat_natCast] at *
  have hlen : ts.length = R * C := by
    rw [← txs_len D ts h]
    exact_mod_cast hD
  obtain ⟨ds, tss, rfl, rfl, e3, e4⟩ := rt_ex C R D ts h hlen
  obtain ⟨k1, k2, k3⟩ := e4.len
  have hne : tss ≠ [] := by
    intro e
    have h0 := congrArg List.length e
    rw [List.length_nil] at h0
    omega
  have hne2 : ds ≠ [] := by
    intro e
    have h0 := congrArg List.length e
    rw [List.length_nil] at h0
    omega
  have hC0 : 0 < C := by omega
  rw [cat_rows hC0 tss k1, rt_jn tss hne] at hl ⊢
  rw [List.length_append, List.length_singleton] at hl
  have hs : sp 10 (jn 10 (tss.map (jn 32))) = tss.map (jn 32) := by
    refine sp_jn 10 _ (by simpa using hne) (fun l hl' => ?_)
    rw [List.mem_map] at hl'
    obtain ⟨t, ht, rfl⟩ := hl'
    refine jn_hi t (fun x hx => txs_hi _ _ h x ?_)
    exact List.mem_flatten.2 ⟨t, ht, hx⟩
  have hb := rt_rows (by omega) 65536 (by omega) ds tss e4 (fun l hl' => by have := jn_mem_len 10 _ l hl'; omega) (by omega)
  rw [← hs] at hb
  have hr := read_ends _ (by omega) _ hb
  rw [rds_ok0 C ds [] hne2 k2, rds_ok C ds 0 [] k2, Nat.zero_add, List.nil_append, e3, if_pos ⟨⟨r0, r1⟩, ⟨c0, c1⟩, by rw [List.length_map]; exact hD⟩] at hr
  exact hr
theorem rds_any (c : Nat) : ∀ (rs : List (List Int × Bool)) (R C : Nat) (D : List Int), (rds rs R C D).2.2.2 ≠ 0 ∧ rds rs R C D = (0, 0, [], 33) ∨
    ∃ C' : Nat, (∀ r ∈ rs, r.2 = true ∧ r.1.length = C') ∧ (0 < R ∨ rs = [] → C' = C) ∧ rds rs R C D = (((R + rs.length : Nat) : Int), (C' : Int), D ++ (rs.map (·.1)).flatten, 0) ∧ Sh ((R + rs.length : Nat) : Int) (C' : Int) (D ++ (rs.map (·.1)).flatten)
  | [], R, C, D => by
    unfold rds
    by_cases c : Sh R C D
    · rw [if_pos c]
      refine .inr ⟨C, by simp, fun _ => rfl, by simp, ?_⟩
      simpa using c
    · rw [if_neg c]
      exact .inl ⟨by decide, rfl⟩
  | x :: rs, R, C, D => by
    unfold rds
    by_cases h : x.2 = true ∧ (R = 0 ∨ x.1.length = C)
    · rw [if_pos h]
      rcases rds_any c rs (R + 1) x.1.length (D ++ x.1) with ih | ⟨C', i1, i2, i3, i4⟩
      · exact .inl ih
      · have hC := i2 (.inl (by omega))
        subst hC
        refine .inr ⟨x.1.length, fun r hr => ?_, fun hR => ?_, ?_, ?_⟩
        · rcases List.mem_cons.1 hr with rfl | hr
          · exact ⟨h.1, rfl⟩
          · exact i1 r hr
        · rcases hR with hR | hR
          · rcases h.2 with h2 | h2
            · omega
            · exact h2
          · cases hR
        · rw [i3, List.map_cons, List.flatten_cons, List.append_assoc, List.length_cons, show R + 1 + rs.length = R + (rs.length + 1) by omega]
        · rw [List.map_cons, List.flatten_cons, List.length_cons, ← List.append_assoc, show R + (rs.length + 1) = R + 1 + rs.length by omega]
          exact i4
    · rw [if_neg h]
      exact .inl ⟨by decide, rfl⟩
theorem any_rt (c : Nat) : ∀ (ls : List (List UInt8)) (rs : List (List Int × Bool)), F2 (fun l r => (Ev (fun k => dump_row.f k (bs l)) r ∧ r.1.length ≤ 70001) ∧ (r.2 = true → Txs r.1 (sp 32 l))) ls rs → (∀ r ∈ rs, r.2 = true ∧ r.1.length = c) →
    Txs (rs.map (·.1)).flatten (ls.map (sp 32)).flatten ∧ (∀ t ∈ ls.map (sp 32), t.length = c) ∧ ls.length = rs.length
  | [], [], _, _ => ⟨trivial, by simp, rfl⟩
  | l :: ls, r :: rs, h, hr => by
    have ih := any_rt c ls rs h.2 (fun x hx => hr x (List.mem_cons_of_mem _ hx))
    obtain ⟨h1, h2⟩ := hr r (List.mem_cons_self ..)
    have ht := h.1.2 h1
    refine ⟨?_, fun t hx => ?_, congrArg (· + 1) ih.2.2⟩
    · rw [List.map_cons, List.map_cons, List.flatten_cons, List.flatten_cons]
      exact txs_app ht ih.1
    · rw [List.map_cons] at hx
      rcases List.mem_cons.1 hx with rfl | hx
      · rw [← txs_len _ _ ht]; exact h2
      · exact ih.2.1 t hx
  where txs_app : ∀ {l : List Int} {ts : List (List UInt8)} {m : List Int} {us : List (List UInt8)}, Txs l ts → Txs m us → Txs (l ++ m) (ts ++ us)
  | [], [], _, _, _, k => k
  | _ :: _, _ :: _, _, _, h, k => ⟨h.1, txs_app h.2 k⟩
theorem read_any (s : List UInt8) : ∃ (R C : Int) (D : List Int) (e : Int), Ev (fun k => dump_Read.f k (bs s)) (R, C, D, e) ∧ (e = 0 → Sh R C D ∧ ∃ ts, Txs D ts ∧ s = cat C.toNat 0 ts ∧ s.length ≤ 65536) ∧ (e ≠ 0 → (e = 33 ∨ e = 5) ∧ D = []) := by
  by_cases hl : 65536 < s.length
  · exact ⟨0, 0, [], 5, read_long s hl, fun h => by omega, fun _ => ⟨.inr rfl, rfl⟩⟩
  by_cases hs : ∃ b, s = b ++ [10]
  case neg => exact ⟨0, 0, [], 33, read_open s (by omega) (fun b hb => hs ⟨b, hb⟩), fun h => by omega, fun _ => ⟨.inl rfl, rfl⟩⟩
  obtain ⟨b, rfl⟩ := hs
  rw [List.length_append, List.length_singleton] at hl
  obtain ⟨rs, hrs⟩ := f2_ex (P := fun l (r : List Int × Bool) => (Ev (fun k => dump_row.f k (bs l)) r ∧ r.1.length ≤ 70001) ∧ (r.2 = true → Txs r.1 (sp 32 l))) (sp 10 b) (fun l hm => by
    obtain ⟨r, h1, h2, h3⟩ := row_any l (by have := sp_mem_len 10 b l hm; omega)
    exact ⟨r, ⟨h1, h3⟩, h2⟩)
  have hev := read_ends b (by omega) rs (hrs.imp fun _ _ h => h.1)
  rcases rds_any 0 rs 0 0 [] with ⟨_, h⟩ | ⟨C, h1, _, h3, h4⟩
  · rw [h] at hev
    exact ⟨0, 0, [], 33, hev, fun h => by omega, fun _ => ⟨.inl rfl, rfl⟩⟩
  · rw [h3] at hev
    obtain ⟨k1, k2, k3⟩ := any_rt C (sp 10 b) rs hrs h1
    rw [List.nil_append] at hev h4
    refine ⟨_, _, _, 0, hev, fun _ => ⟨h4, _, k1, ?_, by rw [List.length_append, List.length_singleton]; omega⟩, fun h => absurd rfl h⟩
    have hc := h4.2.1.1
    rw [Int.toNat_natCast, cat_rows (by omega) _ k2, rt_jn, List.map_map]
    · have : (sp 10 b).map (jn 32 ∘ sp 32) = sp 10 b := by
        refine (List.map_congr_left (fun x _ => jn_sp 32 x)).trans (List.map_id' _)
      rw [this, jn_sp]
    · intro e
      obtain ⟨u, t, e2⟩ := sp_ne 10 b
      rw [e2] at e
      simp at e
theorem matrix_ev {R C : Int} {D : List Int} {ts : List (List UInt8)} (hS : Sh R C D) (h : Txs D ts) :
    Ev (fun k => dump_Matrix.f k R C D) (if ((cat C.toNat 0 ts).length : Int) > 65536 then (bs [], 5) else (bs (cat C.toNat 0 ts), 0)) := by
  have hm := mul_small hS.1.1 hS.1.2 hS.2.1.1 hS.2.1.2
  obtain ⟨⟨r0, r1⟩, ⟨c0, c1⟩, hD⟩ := hS
  obtain ⟨C, rfl⟩ : ∃ n : Nat, C = n := ⟨C.toNat, by omega⟩
  rw [Int.toNat_natCast]
  have hmx := matrix_loop (c := C) (by omega) (by omega) D ts [] [] h (by rw [List.nil_append]; omega) (Nat.le_refl _)
  rw [List.nil_append] at hmx
  unfold dump_Matrix.f
  refine Ev.congr (fun k => by rw [shape_ev, if_pos ⟨⟨r0, r1⟩, ⟨c0, c1⟩, hD⟩, Option.bind_some, if_pos rfl]) ?_
  refine Ev.bind hmx ?_
  rw [List.nil_append]
  by_cases c : ((cat C 0 ts).length : Int) > 65536
  · rw [if_pos c]
    exact Ev.congr (fun k => if_pos c) (Ev.now _)
  · rw [if_neg c]
    exact Ev.congr (fun k => if_neg c) (Ev.now _)
theorem matrix_none {R C : Int} {D : List Int} (hS : ¬ Sh R C D) : Ev (fun k => dump_Matrix.f k R C D) (bs [], 11) := by
  unfold dump_Matrix.f
  refine Ev.congr (fun k => ?_) (Ev.now _)
  rw [shape_ev, if_neg hS, Option.bind_some]
  exact if_neg (by decide)
end Go.Proofs.YtpdjahhimmaonaaDoor.PE
