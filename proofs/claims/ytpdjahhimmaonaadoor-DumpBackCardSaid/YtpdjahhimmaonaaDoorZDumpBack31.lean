/- Parts of a proof. -/
import Derived.Lib.Split
import Derived.Lib.SplitLaws
import Derived.Lib.IndexLaws
import Derived.Lib.IndexBytes
import Derived.Test.YtpdjahhimmaonaaDoorZDumpBack12
import Derived.Test.YtpdjahhimmaonaaDoorZDumpBack29
import Derived.Test.YtpdjahhimmaonaaDoorZDumpBack13
section
namespace Go.Proofs.YtpdjahhimmaonaaDoor.PE
open Go
set_option linter.unusedVariables false
def sp (c : UInt8) : List UInt8 → List (List UInt8)
  | [] => [[]]
  | x :: l => if x = c then [] :: sp c l else (x :: (sp c l).headD []) :: (sp c l).tail
def jn (c : UInt8) : List (List UInt8) → List UInt8
  | [] => []
  | [a] => a
  | a :: b :: t => a ++ c :: jn c (b :: t)
theorem sp_ne (c : UInt8) : ∀ l, ∃ h t, sp c l = h :: t
  | [] => ⟨[], [], rfl⟩
  | x :: l => by
    unfold sp
    split
    · exact ⟨_, _, rfl⟩
    · exact ⟨_, _, rfl⟩
theorem sp_len (c : UInt8) : ∀ l, (sp c l).length ≤ l.length + 1
  | [] => Nat.le_refl _
  | x :: l => by
    have := sp_len c l
    obtain ⟨h, t, e⟩ := sp_ne c l
    unfold sp
    split
    · simp only [List.length_cons]; omega
    · rw [e] at this ⊢
      simp only [List.length_cons, List.tail_cons] at this ⊢
      omega
theorem jn_cons2 (c : UInt8) (a h : List UInt8) (t : List (List UInt8)) : jn c (a :: h :: t) = a ++ c :: jn c (h :: t) := rfl
theorem jn_push (c x : UInt8) (h : List UInt8) (t : List (List UInt8)) : jn c ((x :: h) :: t) = x :: jn c (h :: t) := by
  cases t <;> rfl
theorem jn_sp (c : UInt8) : ∀ l, jn c (sp c l) = l
  | [] => rfl
  | x :: l => by
    have ih := jn_sp c l
    obtain ⟨h, t, e⟩ := sp_ne c l
    unfold sp
    split
    · rename_i hx
      subst hx
      rw [e] at ih ⊢
      rw [jn_cons2, ih]
      rfl
    · rw [e] at ih ⊢
      show jn c ((x :: h) :: t) = _
      rw [jn_push, ih]
theorem sp_no (c : UInt8) : ∀ l, c ∉ l → sp c l = [l]
  | [], _ => rfl
  | x :: l, h => by
    have ih := sp_no c l (fun hm => h (List.mem_cons_of_mem _ hm))
    have hx : x ≠ c := fun e => h (e ▸ List.mem_cons_self ..)
    unfold sp
    rw [if_neg hx, ih]
    rfl
theorem sp_at (c : UInt8) : ∀ l r, c ∉ l → sp c (l ++ c :: r) = l :: sp c r
  | [], r, _ => by
    show sp c (c :: r) = _
    rw [sp, if_pos rfl]
  | x :: l, r, h => by
    have ih := sp_at c l r (fun hm => h (List.mem_cons_of_mem _ hm))
    have hx : x ≠ c := fun e => h (e ▸ List.mem_cons_self ..)
    show sp c (x :: (l ++ c :: r)) = _
    rw [sp, if_neg hx, ih]
    rfl
theorem sp_jn (c : UInt8) : ∀ ls : List (List UInt8), ls ≠ [] → (∀ l ∈ ls, c ∉ l) → sp c (jn c ls) = ls
  | [], h, _ => absurd rfl h
  | [a], _, h => sp_no c a (h a (List.mem_cons_self ..))
  | a :: b :: t, _, h => by
    rw [jn_cons2, sp_at c a _ (h a (List.mem_cons_self ..)), sp_jn c (b :: t) (by simp) (fun l hl => h l (List.mem_cons_of_mem _ hl))]
theorem split_sp (c : UInt8) : ∀ (n : Nat) (s : List UInt8), s.length ≤ n → Lib.splitK [c] 0 (Lib.count s [c]) s = sp c s := by
  intro n
  induction n with
  | zero =>
    intro s h
    have : s = [] := List.length_eq_zero_iff.1 (by omega)
    subst this
    rw [Lib.count_miss (by rw [Lib.index_one]; rfl)]
    rfl
  | succ n ih =>
    intro s hn
    have ge := Lib.indexByte_ge s c
    by_cases h : Lib.indexByte s c = -1
    · rw [Lib.count_miss (by rw [Lib.index_one]; exact h), sp_no c s]
      · rfl
      · intro hm
        obtain ⟨k, hk, e⟩ := List.mem_iff_getElem.1 hm
        exact Lib.indexByte_none h k (by rw [List.getElem?_eq_getElem hk, e])
    · obtain ⟨i, hi⟩ := Int.eq_ofNat_of_zero_le (show 0 ≤ Lib.indexByte s c by omega)
      obtain ⟨h1, h2⟩ := Lib.indexByte_some hi
      have hil : i < s.length := by
        rcases Nat.lt_or_ge i s.length with h | h
        · exact h
        · rw [List.getElem?_eq_none h] at h1; cases h1
      have hx : Lib.index s [c] = (i : Int) := by rw [Lib.index_one]; exact hi
      have e : s = s.take i ++ c :: s.drop (i + 1) := by
        conv => lhs; rw [← List.take_append_drop i s]
        rw [List.getElem?_eq_getElem hil] at h1
        rw [List.drop_eq_getElem_cons hil, Option.some.inj h1]
      have hfree : c ∉ s.take i := by
        intro hm
        obtain ⟨k, hk, e⟩ := List.mem_iff_getElem.1 hm
        rw [List.length_take] at hk
        refine h2 k (by omega) ?_
        rw [List.getElem_take] at e
        rw [List.getElem?_eq_getElem (by omega), e]
      have hr := ih (s.drop (i + 1)) (by rw [List.length_drop]; omega)
      have hcnt := Lib.count_hit (s := s) (sub := [c]) (i := i) (by simp) hx
      rw [show i + ([c] : List UInt8).length = i + 1 from rfl] at hcnt
      have hm : ¬ (Lib.index s [c] == -1) = true := fun e => by have := beq_iff_eq.1 e; omega
      conv => rhs; rw [e]
      rw [sp_at c _ _ hfree, ← hr, hcnt, Nat.add_comm, Lib.splitK, if_neg hm, hx, Int.toNat_natCast]
      rfl
theorem splitB_sp (c : UInt8) (s : ByteArray) : (Lib.splitB ⟨#[c]⟩ 0 (Lib.countB s ⟨#[c]⟩) s).map (fun b => b.data.toList) = sp c s.data.toList := by
  rw [Lib.splitB_data]
  exact split_sp c _ _ (Nat.le_refl _)
end Go.Proofs.YtpdjahhimmaonaaDoor.PE
end
section
namespace Go.Proofs.YtpdjahhimmaonaaDoor.PE
open Go.RowKit Go.Proofs.YtpdjahhimmaonaaDoorW.PrintWords Go.Proofs.YtpdjahhimmaonaaDoorW.PrintLast Go.Proofs.YtpdjahhimmaonaaDoorW.PrintMore
set_option linter.unusedVariables false
set_option linter.unusedSimpArgs false
def tb (l : List UInt8) : ByteArray := ⟨l.toArray⟩
theorem tb_data (s : ByteArray) : tb s.data.toList = s := by unfold tb; rfl
theorem split_calls (s : ByteArray) (c : UInt8) (w : World) (hs : s.size < 4294967281) (hm : Mx w) :
    Calls Tryd.prog 52 #[.string s, .string ⟨#[c]⟩] w fun e w' => ∃ ad : Addr, e = .returned (.slice (some ad) (sp c s.data.toList).length (sp c s.data.toList).length) ∧ (∀ i : Nat, i < (sp c s.data.toList).length → w'.cell? (ad.add i) = some (.string (tb ((sp c s.data.toList).getD i [])))) ∧ Below w.heap.size w w' := by
  obtain ⟨m, hm⟩ := hm
  refine (sh_strings_Split s ⟨#[c]⟩ m w hs hm (Nat.le_refl 1)).mono ?_
  rintro e w' ⟨rfl, rfl⟩
  have hM := splitB_sp c s
  have hL := Lib.splitB_all ⟨#[c]⟩ (Nat.le_refl 1) 0 _ s rfl
  generalize Lib.splitB ⟨#[c]⟩ 0 (Lib.countB s ⟨#[c]⟩) s = L at *
  rw [← hM, List.length_map, hL]
  refine ⟨⟨w.heap.size, 0, none⟩, rfl, ?_, below_alloc (Below.refl _ _) _⟩
  intro i hi
  rw [← hL] at hi
  have hc := blk_cell (blk_new w (.cells (L.map Value.string).toArray 9)) (0 + i)
  have ea : (⟨w.heap.size, 0, none⟩ : Addr).add i = ⟨w.heap.size, 0 + i, none⟩ := by
    simp [Addr.add]
    intro h
    exact h.symm
  rw [ea]
  refine (hc.trans ?_)
  rw [Nat.zero_add, List.getElem?_toArray, List.getElem?_map, List.getElem?_eq_getElem hi, List.getD_eq_getElem?_getD, List.getElem?_map, List.getElem?_eq_getElem hi]
  show some (Value.string L[i]) = some (.string (tb L[i].data.toList))
  rw [tb_data]
def strings_Split.f (s sep : ByteArray) : Option (List ByteArray) :=
  match sep.data.toList with
  | [c] => if s.size < 4294967281 then some ((sp c s.data.toList).map tb) else none
  | _ => none
theorem strings_Split.calls (a0 a1 : ByteArray) (r : List ByteArray) (w : World) (ht_ : Tz w) (h : strings_Split.f a0 a1 = some r) :
    Calls Tryd.prog 52 #[.string a0, .string a1] w fun e w' => ∃ v0_ : Value, e = .returned (v0_) ∧ Kd.R (Kd.string) 9 w' w.heap.size (fun _ => True) v0_ r ∧ Below w.heap.size w w' := by
  unfold strings_Split.f at h
  split at h
  next c hc =>
    split at h
    next hs =>
      obtain rfl := Option.some.inj h
      have e1 : a1 = ⟨#[c]⟩ := by
        have := tb_data a1
        rw [hc] at this
        exact this.symm
      subst e1
      obtain ⟨m, hm⟩ := ht_.2
      refine (sh_strings_Split a0 ⟨#[c]⟩ m w hs hm (Nat.le_refl 1)).mono ?_
      rintro e w' ⟨rfl, rfl⟩
      have hM := splitB_sp c a0
      have hL := Lib.splitB_all ⟨#[c]⟩ (Nat.le_refl 1) 0 _ a0 rfl
      have hN := sp_len c a0.data.toList
      have hz : a0.size = a0.data.toList.length := Lib.size_eq a0
      rw [← hM] at hN ⊢
      generalize Lib.splitB ⟨#[c]⟩ 0 (Lib.countB a0 ⟨#[c]⟩) a0 = L at *
      rw [List.length_map] at hN
      have eL : (L.map (fun b => b.data.toList)).map tb = L := by
        rw [List.map_map]
        exact (List.map_congr_left (fun x _ => tb_data x)).trans (List.map_id' L)
      refine ⟨_, rfl, ?_, below_alloc (Below.refl _ _) _⟩
      rw [eL, ← hL]
      refine Kd.R_of_own ?_ (fun _ _ => trivial)
      have h2 := World.ownsRow_lit (base := w.heap.size) (e := 9) (size := 1) w (L.map Value.string).toArray L.length (Nat.le_refl _) (by simp [maxLen]; omega) (by simp)
      have e2 : (L.map Value.string).toArray.toList = encs Value.string L := by
        simp [encs]
      rw [e2] at h2
      exact h2
    next => cases h
  next => cases h
end Go.Proofs.YtpdjahhimmaonaaDoor.PE
end
