/- A region that draws its order, whose operations only read or make, but for the last one, which waits for all: what each operation leaves is told once, in whatever order they come. -/
import Derived.Test.YtpdjahhimmaonaaDoorZBoundOwn13
import Derived.Orders
namespace Go.Proofs.YtpdjahhimmaonaaDoor.PD
open Go.RowKit Go.Proofs.YtpdjahhimmaonaaDoorW.PrintWords Go.Proofs.YtpdjahhimmaonaaDoorW.PrintLast Go.Proofs.YtpdjahhimmaonaaDoorW.PrintMore
set_option linter.unusedVariables false
set_option linter.unusedSimpArgs false
theorem count_set : ∀ (L : List Bool) (i : Nat), L[i]? = some false → (L.set i true).countP (· == false) + 1 = L.countP (· == false)
 | [], i, h => by simp at h
 | b :: L, 0, h => by
  simp at h
  subst h
  simp [List.countP_cons]
 | b :: L, i + 1, h => by
  have ih := count_set L i (by simpa using h)
  simp only [List.set_cons_succ, List.countP_cons]
  omega
section
variable {P : Program} {ops : Array Oper} {Q : Exit → Act → World → Prop}
theorem unlisted {l : Array Bool} {i : Nat} (h : i ∈ Region.ready .any ops l) : l.toList[i]? = some false := by
 have h1 := (mem_ready.1 h).1
 rw [Array.getD_eq_getD_getElem?] at h1
 rw [Array.getElem?_toList]
 match hx : l[i]? with
 | none => rw [hx] at h1; cases h1
 | some b => rw [hx] at h1; exact congrArg some h1
theorem wpAny_inv (I : Array Bool → Act → World → Prop) (hend : ∀ l a w, l.size = ops.size → I l a w → Region.ready .any ops l = [] → Q .normal a w)
  (hstep : ∀ l a w i, l.size = ops.size → I l a w → i ∈ Region.ready .any ops l → wpOp P ops Q i (fun a' w' => I (l.setIfInBounds i true) a' w') a w) :
  ∀ (fuel : Nat) (l : Array Bool) (a : Act) (w : World), l.size = ops.size → l.toList.countP (· == false) ≤ fuel → I l a w → wpAny P .any ops Q fuel l a w
 | 0, l, a, w, hs, hc, hI => by
  have hr : Region.ready .any ops l = [] := by
   refine List.eq_nil_iff_forall_not_mem.2 (fun i hi => ?_)
   have := count_set l.toList i (unlisted hi)
   omega
  exact ⟨hr, hend l a w hs hI hr⟩
 | fuel + 1, l, a, w, hs, hc, hI => by
  refine ⟨fun hr => hend l a w hs hI hr, fun i hi => wpOp_mono (fun a' w' h' => wpAny_inv I hend hstep fuel _ a' w' (by simpa using hs) ?_ h') (hstep l a w i hs hI hi)⟩
  have := count_set l.toList i (unlisted hi)
  rw [Array.toList_setIfInBounds]
  omega
theorem region_inv {id : Nat} {a : Act} {w : World} (hm : P.follows .mixedOrders = true) (I : Array Bool → Act → World → Prop) (h0 : I (Array.replicate ops.size false) a w.drew)
  (hend : ∀ l a w, l.size = ops.size → I l a w → Region.ready .any ops l = [] → Q .normal a w)
  (hstep : ∀ l a w i, l.size = ops.size → I l a w → i ∈ Region.ready .any ops l → wpOp P ops Q i (fun a' w' => I (l.setIfInBounds i true) a' w') a w) : (Code.region id ops true).wp P Q a w := by
 refine wp_region_any hm (wpAny_inv I hend hstep ops.size _ a w.drew (by simp) ?_ h0)
 exact Nat.le_trans List.countP_le_length (by simp)
def factsB (ops : Array Oper) (last : Nat) (deps : Nat → List Nat) (D : Nat → List Nat) (keep : Nat → Bool) (dst : Nat → Nat) : Bool :=
 ops.size == last + 1 &&
 (List.range (last + 1)).all (fun i => match ops[i]? with
  | some o => o.after.all (fun e => decide (e.on < i)) && (deps i).all (fun k => o.after.any (fun e => Region.binds .any e && e.on == k)) && (D i).all (fun k => Region.reachB .any ops k ops.size i) &&
    (if i = last then (List.range last).all (fun k => o.after.any (fun e => Region.binds .any e && e.on == k)) else o.dst == some (dst i) && !keep (dst i))
  | none => false)
theorem region_facts {id last : Nat} {t0 : Array Value} {df : List Deferred} {w0 w : World} {n0 : Nat} (hm : P.follows .mixedOrders = true) (deps D : Nat → List Nat) (keep : Nat → Bool) (dst : Nat → Nat) (hB : factsB ops last deps D keep dst = true)
  (G : Nat → Array Value → World → Prop) (hn : t0.size = n0) (hb : Below w0.heap.size w0 w.drew)
  (hstab : ∀ i, i < last → ∀ T W j v W', (∀ k ∈ i :: D i, k ≠ j) → G i T W → Below W.heap.size W W' → G i (T.setIfInBounds (dst j) v) W')
  (hop : ∀ i o, i < last → ops[i]? = some o → ∀ (T : Array Value) (W : World), T.size = n0 → (∀ j, keep j = true → T[j]? = t0[j]?) → Below w0.heap.size w0 W → (∀ k ∈ deps i, G k T W) →
   wpOp P ops Q i (fun a' w' => ∃ v, a' = ⟨T.setIfInBounds (dst i) v, df⟩ ∧ Below W.heap.size W w' ∧ G i (T.setIfInBounds (dst i) v) w') ⟨T, df⟩ W)
  (hlast : ∀ o, ops[last]? = some o → ∀ (T : Array Value) (W : World), T.size = n0 → (∀ j, keep j = true → T[j]? = t0[j]?) → Below w0.heap.size w0 W → (∀ k, k < last → G k T W) → wpOp P ops Q last (fun a' w' => Q .normal a' w') ⟨T, df⟩ W) :
  (Code.region id ops true).wp P Q ⟨t0, df⟩ w := by
 unfold factsB at hB
 rw [Bool.and_eq_true, beq_iff_eq, List.all_eq_true] at hB
 obtain ⟨hsz, hall⟩ := hB
 have hof : ∀ i, i ≤ last → ∃ o, ops[i]? = some o ∧ (∀ e ∈ o.after.toList, e.on < i) ∧ (∀ k ∈ deps i, ∃ e ∈ o.after.toList, Region.binds .any e = true ∧ e.on = k) ∧ (∀ k ∈ D i, Region.reachB .any ops k ops.size i = true) ∧
   (i = last → ∀ k, k < last → ∃ e ∈ o.after.toList, Region.binds .any e = true ∧ e.on = k) ∧ (i ≠ last → o.dst = some (dst i) ∧ keep (dst i) = false) := by
  intro i hi
  have h := hall i (List.mem_range.2 (by omega))
  match ho : ops[i]? with
  | none => rw [ho] at h; cases h
  | some o =>
   rw [ho] at h
   simp only [Bool.and_eq_true, List.all_eq_true, Array.all_eq_true', Array.any_eq_true', decide_eq_true_eq, beq_iff_eq] at h
   obtain ⟨⟨⟨h1, h2⟩, h3⟩, h4⟩ := h
   refine ⟨o, rfl, fun e he => h1 e (by simpa using he), fun k hk => ?_, h3, fun hl k hk => ?_, fun hl => ?_⟩
   ·
    obtain ⟨e, he, hb1⟩ := h2 k hk
    exact ⟨e, by simpa using he, by simpa using hb1⟩
   ·
    rw [if_pos hl] at h4
    simp only [List.all_eq_true, Array.any_eq_true', Bool.and_eq_true, beq_iff_eq] at h4
    obtain ⟨e, he, hb1⟩ := h4 k (List.mem_range.2 hk)
    exact ⟨e, by simpa using he, hb1⟩
   ·
    rw [if_neg hl] at h4
    simpa using h4
 refine region_inv hm (fun l a W => ListedClosed .any ops l ∧ ((l.getD last false = false ∧ a.defers = df ∧ a.tmps.size = n0 ∧ (∀ j, keep j = true → a.tmps[j]? = t0[j]?) ∧ Below w0.heap.size w0 W ∧ ∀ i, i < last → l.getD i false = true → G i a.tmps W) ∨ (l.getD last false = true ∧ Q .normal a W))) ?_ ?_ ?_
 ·
  refine ⟨?_, .inl ⟨?_, rfl, hn, fun _ _ => rfl, hb, fun i _ h => ?_⟩⟩
  ·
   intro d o ho hl
   exfalso
   rw [Array.getD_eq_getD_getElem?, Array.getElem?_replicate] at hl
   split at hl <;> cases hl
  ·
   rw [Array.getD_eq_getD_getElem?, Array.getElem?_replicate]
   split <;> rfl
  ·
   exfalso
   rw [Array.getD_eq_getD_getElem?, Array.getElem?_replicate] at h
   split at h <;> cases h
 ·
  intro l a W hs hI hr
  obtain ⟨hc, hI⟩ := hI
  rcases hI with ⟨hl, _⟩ | ⟨_, hq⟩
  ·
   exfalso
   have key : ∀ i, i ≤ last → l.getD i false = true := by
    intro i
    induction i using Nat.strongRecOn with
    | _ i ih =>
     intro hi
     obtain ⟨o, ho, ha, _⟩ := hof i hi
     match hx : l[i]? with
     | none =>
      have := Array.getElem?_eq_none_iff.1 hx
      omega
     | some true => rw [Array.getD_eq_getD_getElem?, hx]; rfl
     | some false =>
      have : i ∈ Region.ready .any ops l := mem_ready.2 ⟨by rw [Array.getD_eq_getD_getElem?, hx]; rfl, o, ho, fun e he hbd => ih e.on (ha e (by simpa using he)) (by have := ha e (by simpa using he); omega)⟩
      rw [hr] at this
      cases this
   rw [key last (Nat.le_refl _)] at hl
   cases hl
  ·
   exact hq
 ·
  intro l a W i hs hI hi
  obtain ⟨hc, hI⟩ := hI
  have hc' := hc.set hi
  obtain ⟨hun, o, ho, haft⟩ := mem_ready.1 hi
  have hil : i ≤ last := by
   have := (Array.getElem?_eq_some_iff.1 ho).1
   omega
  have hli : i < l.size := by omega
  obtain ⟨o', ho', ha, hd, hD, hla, hdst⟩ := hof i hil
  have eo := Option.some.inj (ho'.symm.trans ho)
  subst eo
  rcases hI with ⟨hl, hdf, hsz0, hkeep, hbl, hG⟩ | ⟨hl, _⟩
  ·
   by_cases hil2 : i = last
   ·
    subst hil2
    obtain ⟨T, df'⟩ := a
    dsimp only at hdf hsz0 hkeep hG
    subst hdf
    refine wpOp_mono (fun a' w' hq => ⟨hc', .inr ⟨?_, hq⟩⟩) (hlast _ ho T W hsz0 hkeep hbl (fun k hk => hG k hk ?_))
    ·
     rw [Array.getD_eq_getD_getElem?, Array.getElem?_setIfInBounds_self_of_lt hli]; rfl
    ·
     obtain ⟨e, he, hb1, rfl⟩ := hla rfl k hk
     exact haft e (by simpa using he) hb1
   ·
    obtain ⟨T, df'⟩ := a
    dsimp only at hdf hsz0 hkeep hG
    subst hdf
    obtain ⟨hd1, hd2⟩ := hdst hil2
    refine wpOp_mono (fun a' w' hq => ?_) (hop i _ (by omega) ho T W hsz0 hkeep hbl (fun k hk => ?_))
    ·
     obtain ⟨v, rfl, hbw, hGi⟩ := hq
     refine ⟨hc', .inl ⟨?_, rfl, by simpa using hsz0, fun j hj => ?_, below_step hbl hbw, fun k hk hkl => ?_⟩⟩
     ·
      rw [Array.getD_eq_getD_getElem?, Array.getElem?_setIfInBounds_ne hil2, ← Array.getD_eq_getD_getElem?]
      exact hl
     ·
      have : dst i ≠ j := fun e => by rw [e, hj] at hd2; cases hd2
      rw [Array.getElem?_setIfInBounds_ne this]
      exact hkeep j hj
     ·
      by_cases hki : k = i
      ·
       subst hki; exact hGi
      ·
       have hkl' : l.getD k false = true := by
        rw [Array.getD_eq_getD_getElem?, Array.getElem?_setIfInBounds_ne (Ne.symm hki), ← Array.getD_eq_getD_getElem?] at hkl
        exact hkl
       refine hstab k hk T W i v w' (fun z hz => ?_) (hG k hk hkl') hbw
       rcases List.mem_cons.1 hz with rfl | hz
       ·
        exact hki
       ·
        intro e
        subst e
        obtain ⟨_, _, _, _, hDk, _⟩ := hof k (by omega)
        have := Region.reach_listed hc ops.size k (hDk z hz) hkl'
        rw [Array.getD_eq_getD_getElem?] at this hun
        match hx : l[z]? with
        | none => rw [hx] at this; cases this
        | some b => rw [hx] at this hun; simp at this hun; rw [this] at hun; cases hun
    ·
     obtain ⟨e, he, hb1, rfl⟩ := hd k hk
     have := ha e he
     exact hG e.on (by omega) (haft e (by simpa using he) hb1)
  ·
   exfalso
   obtain ⟨ol, hol, _, _, _, hall2, _⟩ := hof last (Nat.le_refl _)
   rw [Array.getD_eq_getD_getElem?] at hun
   have hz : l.getD i false = true := by
    by_cases hil2 : i = last
    ·
     rw [hil2]; exact hl
    ·
     obtain ⟨e, he, hb1, rfl⟩ := hall2 rfl i (by omega)
     exact hc last ol hol hl e (by simpa using he) hb1
   rw [Array.getD_eq_getD_getElem?] at hz
   match hx : l[i]? with
   | none => rw [hx] at hz; cases hz
   | some b => rw [hx] at hz hun; simp at hz hun; rw [hz] at hun; cases hun
end
end Go.Proofs.YtpdjahhimmaonaaDoor.PD
