/- Parts of a proof. -/
import Derived.Test.YtpdjahhimmaonaaDoorZBoundOwn41
import Derived.Orders
section
namespace Go.Proofs.YtpdjahhimmaonaaDoor.PD
open Go.RowKit Go.Proofs.YtpdjahhimmaonaaDoorW.PrintWords Go.Proofs.YtpdjahhimmaonaaDoorW.PrintLast Go.Proofs.YtpdjahhimmaonaaDoorW.PrintMore
set_option linter.unusedVariables false
set_option linter.unusedSimpArgs false
def fill (g : Nat) : Nat → List Value → World → World
 | _, [], W => W
 | i, v :: vs, W => fill g (i + 1) vs (W.setCell ⟨g, i, none⟩ v)
theorem fill_far {g k : Nat} (hne : k ≠ g) : ∀ (vs : List Value) (i : Nat) (W : World), (fill g i vs W).heap[k]? = W.heap[k]?
 | [], _, _ => rfl
 | v :: vs, i, W => (fill_far hne vs (i + 1) _).trans (Below.heap_setCell W ⟨g, i, none⟩ v k hne)
theorem fill_below {g : Nat} {w : World} (hg : w.heap.size ≤ g) : ∀ (vs : List Value) (i : Nat) (W : World), Below w.heap.size w W → Below w.heap.size w (fill g i vs W)
 | [], _, _, h => h
 | v :: vs, i, W, h => fill_below hg vs (i + 1) _ (below_set h hg)
def sets : Nat → List Value → Array Value → Array Value
 | _, [], cs => cs
 | i, v :: vs, cs => sets (i + 1) vs (cs.setIfInBounds i v)
theorem fill_put {g : Nat} {t : TypeId} : ∀ (vs : List Value) (i : Nat) (cs : Array Value) (W : World), W.heap[g]? = some (.cells cs t (0, 0)) → (fill g i vs W).heap[g]? = some (.cells (sets i vs cs) t (0, 0))
 | [], _, _, _, h => h
 | v :: vs, i, cs, W, h => fill_put vs (i + 1) _ _ (blk_put h i v rfl)
theorem sets_size : ∀ (vs : List Value) (i : Nat) (cs : Array Value), (sets i vs cs).size = cs.size
 | [], _, _ => rfl
 | v :: vs, i, cs => (sets_size vs (i + 1) _).trans (by simp)
theorem Kd.R_fill {e base : Nat} {l : List Int} {v : Value} {g : Nat} {ok : Nat → Prop} (hok : ∀ k, ok k → k ≠ g) : ∀ (vs : List Value) (i : Nat) (W : World), Kd.R (Kd.int .u64) e W base ok v l → Kd.R (Kd.int .u64) e (fill g i vs W) base ok v l
 | [], _, _, h => h
 | u :: vs, i, W, h => Kd.R_fill hok vs (i + 1) _ (Kd.R_far (p := ⟨g, i, none⟩) h hok u)
inductive RK where
 | val (d : Nat)
 | box (d : Nat)
 | put (s : Nat)
def RK.dst? : RK → Option Nat
 | .val d | .box d => some d
 | .put _ => none
variable {P : Program} {ops : Array Oper} {Q : Exit → Act → World → Prop}
def boxesB (ops : Array Oper) (last : Nat) (kind : Nat → RK) (deps D : Nat → List Nat) (keep early : Nat → Bool) (n0 : Nat) : Bool :=
 ops.size == last + 1 &&
 (List.range (last + 1)).all (fun i => match ops[i]? with
  | some o => o.after.all (fun e => !Region.binds .any e || decide (e.on < i)) && (deps i).all (fun k => decide (k ≤ last) && o.after.any (fun e => Region.binds .any e && e.on == k)) && (D i).all (fun k => Region.reachB .any ops k ops.size i) &&
    o.dst == (kind i).dst? && (match (kind i).dst? with | some d => !keep d && decide (d < n0) | none => true) &&
    (!early i || (List.range (last + 1)).all (fun p => match kind p with | .put _ => Region.reachB .any ops i ops.size p | _ => true)) &&
    (match kind i with
     | .put s => (List.range (last + 1)).all (fun j => match kind j with | .put s' => j == i || (s' != s) | .box d => d != s || (D i).contains j | .val d => d != s)
     | k => (List.range (last + 1)).all (fun j => j == i || (D i).contains j || (kind j).dst? != k.dst?))
  | none => false)
def Boxes (b0 tb nb : Nat) (isBox : Nat → Bool) (T : Array Value) (W : World) : Prop :=
 (∀ s, isBox s = true → ∀ g, T[s]? = some (.pointer (some ⟨g, 0, none⟩)) → b0 ≤ g ∧ ∃ cs, W.heap[g]? = some (.cells cs tb (0, 0)) ∧ cs.size = nb) ∧
 ∀ s s', isBox s = true → isBox s' = true → s ≠ s' → ∀ g g', T[s]? = some (.pointer (some ⟨g, 0, none⟩)) → T[s']? = some (.pointer (some ⟨g', 0, none⟩)) → g ≠ g'
structure Inv (w0 : World) (n0 tb nb : Nat) (t0 : Array Value) (keep isBox : Nat → Bool) (T : Array Value) (W : World) : Prop where
 size : T.size = n0
 kept : ∀ j, keep j = true → T[j]? = t0[j]?
 below : Below w0.heap.size w0 W
 boxes : Boxes w0.heap.size tb nb isBox T W
def Held (kind : Nat → RK) (F : Nat → Value → World → Prop) (H : Nat → Array Value → World → Prop) (i : Nat) (T : Array Value) (W : World) (tb : Nat) : Prop :=
 match kind i with
 | .val d => ∃ v, T[d]? = some v ∧ F i v W
 | .box d => ∃ g, T[d]? = some (.pointer (some ⟨g, 0, none⟩))
 | .put s => ∃ g cs, T[s]? = some (.pointer (some ⟨g, 0, none⟩)) ∧ W.heap[g]? = some (.cells cs tb (0, 0)) ∧ H i cs W
def Turns (kind : Nat → RK) (j : Nat) (T : Array Value) (W : World) (T' : Array Value) (W' : World) : Prop :=
 match kind j with
 | .val d => (∃ v, T' = T.setIfInBounds d v) ∧ Below W.heap.size W W'
 | .box d => T' = T.setIfInBounds d (.pointer (some ⟨W.heap.size, 0, none⟩)) ∧ Below W.heap.size W W'
 | .put s => T' = T ∧ ∃ g vs, T[s]? = some (.pointer (some ⟨g, 0, none⟩)) ∧ W' = fill g 0 vs W
theorem Boxes.none {b0 tb nb : Nat} {isBox : Nat → Bool} {T : Array Value} {W : World} (h0 : ∀ s, isBox s = true → T[s]? = some undef) : Boxes b0 tb nb isBox T W :=
 ⟨fun s hs g hg => by rw [h0 s hs] at hg; exact absurd (Option.some.inj hg) (by simp [undef]), fun s s' hs hs' hne g g' hg => by rw [h0 s hs] at hg; exact absurd (Option.some.inj hg) (by simp [undef])⟩
theorem sets_open {T' : Array Value} : ∀ (is : List Nat) (S : Array Value), T'.size = S.size → (∀ j, j ∉ is → T'[j]? = S[j]?) → T' = is.foldl (fun T i => T.setIfInBounds i (T'.getD i undef)) S
 | [], S, hs, h => by
  refine Array.ext_getElem? (fun j => h j (by simp))
 | i :: is, S, hs, h => by
  refine sets_open is (S.setIfInBounds i (T'.getD i undef)) (by simpa using hs) (fun j hj => ?_)
  by_cases e : i = j
  ·
   subst e
   by_cases hl : i < S.size
   ·
    rw [Array.getElem?_setIfInBounds_self_of_lt hl, Array.getD_eq_getD_getElem?, Array.getElem?_eq_getElem (by omega)]
    rfl
   ·
    rw [Array.getElem?_eq_none (by omega), Array.getElem?_eq_none (by simp; omega)]
  ·
   rw [Array.getElem?_setIfInBounds_ne e]
   exact h j (by simp [hj, Ne.symm e])
theorem region_boxes {id last : Nat} {t0 : Array Value} {df : List Deferred} {w0 w : World} {n0 tb nb : Nat} (hm : P.follows .mixedOrders = true) (kind : Nat → RK) (deps D : Nat → List Nat) (keep isBox early : Nat → Bool) (hB : boxesB ops last kind deps D keep early n0 = true) (Z : World → Prop)
  (F : Nat → Value → World → Prop) (H : Nat → Array Value → World → Prop) (hn : t0.size = n0)
  (hbx : ∀ i, i ≤ last → match kind i with | .val d => isBox d = false | .box d => isBox d = true | .put s => isBox s = true)
  (h0 : Boxes w0.heap.size tb nb isBox t0 w.drew) (hb : Below w0.heap.size w0 w.drew) (hz0 : Z w.drew) (hz : ∀ W W', Z W → Below W.heap.size W W' → Z W')
  (hF1 : ∀ i, i ≤ last → ∀ v W W', F i v W → Below W.heap.size W W' → F i v W') (hF2 : ∀ i, i ≤ last → ∀ v W g cs vs, F i v W → W.heap[g]? = some (.cells cs tb (0, 0)) → F i v (fill g 0 vs W))
  (hH1 : ∀ i, i ≤ last → ∀ v W W', H i v W → Below W.heap.size W W' → H i v W') (hH2 : ∀ i, i ≤ last → ∀ v W g cs vs, H i v W → W.heap[g]? = some (.cells cs tb (0, 0)) → H i v (fill g 0 vs W))
  (hop : ∀ i o, i ≤ last → ops[i]? = some o → ∀ (T : Array Value) (W : World), Inv w0 n0 tb nb t0 keep isBox T W → (early i = true → Z W) → (∀ k ∈ deps i, Held kind F H k T W tb) →
   wpOp P ops Q i (fun a' w' => match kind i with
    | .val d => ∃ v, a' = ⟨T.setIfInBounds d v, df⟩ ∧ Below W.heap.size W w' ∧ F i v w'
    | .box d => ∃ cs, a' = ⟨T.setIfInBounds d (.pointer (some ⟨W.heap.size, 0, none⟩)), df⟩ ∧ Below W.heap.size W w' ∧ w'.heap[W.heap.size]? = some (.cells cs tb (0, 0)) ∧ cs.size = nb
    | .put s => ∃ g vs, a' = ⟨T, df⟩ ∧ T[s]? = some (.pointer (some ⟨g, 0, none⟩)) ∧ w' = fill g 0 vs W ∧ ∀ cs, W.heap[g]? = some (.cells cs tb (0, 0)) → H i (sets 0 vs cs) w') ⟨T, df⟩ W)
  (hend : ∀ (T : Array Value) (W : World), Inv w0 n0 tb nb t0 keep isBox T W → (∀ k, k ≤ last → Held kind F H k T W tb) → Q .normal ⟨T, df⟩ W) :
  (Code.region id ops true).wp P Q ⟨t0, df⟩ w := by
 unfold boxesB at hB
 rw [Bool.and_eq_true, beq_iff_eq, List.all_eq_true] at hB
 obtain ⟨hsz, hall⟩ := hB
 have hof : ∀ i, i ≤ last → ∃ o, ops[i]? = some o ∧ (∀ e ∈ o.after.toList, Region.binds .any e = true → e.on < i) ∧ (∀ k ∈ deps i, k ≤ last ∧ ∃ e ∈ o.after.toList, Region.binds .any e = true ∧ e.on = k) ∧ (∀ k ∈ D i, Region.reachB .any ops k ops.size i = true) ∧
   (early i = true → ∀ p, p ≤ last → (match kind p with | .put _ => Region.reachB .any ops i ops.size p = true | _ => True)) ∧ o.dst = (kind i).dst? ∧ (match (kind i).dst? with | some d => keep d = false ∧ d < n0 | none => True) ∧
   (match kind i with
     | .put s => ∀ j, j ≤ last → (match kind j with | .put s' => j = i ∨ s' ≠ s | .box d => d ≠ s ∨ j ∈ D i | .val d => d ≠ s)
     | k => ∀ j, j ≤ last → (j = i ∨ j ∈ D i) ∨ (kind j).dst? ≠ k.dst?) := by
  intro i hi
  have h := hall i (List.mem_range.2 (by omega))
  match ho : ops[i]? with
  | none => rw [ho] at h; cases h
  | some o =>
   rw [ho] at h
   simp only [Bool.and_eq_true, List.all_eq_true, Array.all_eq_true', Array.any_eq_true', decide_eq_true_eq, beq_iff_eq, Bool.or_eq_true, Bool.not_eq_true'] at h
   obtain ⟨⟨⟨⟨⟨⟨h1, h2⟩, h3⟩, h4⟩, h5⟩, h7⟩, h6⟩ := h
   refine ⟨o, rfl, fun e he hbd => (h1 e (by simpa using he)).resolve_left (by rw [hbd]; simp), fun k hk => ?_, h3, fun he p hp => ?_, h4, ?_, ?_⟩
   ·
    obtain ⟨hl, e, he, hb1⟩ := h2 k hk
    exact ⟨hl, e, by simpa using he, by simpa using hb1⟩
   ·
    replace h7 := h7.resolve_left (by rw [he]; simp)
    have := h7 p (List.mem_range.2 (by omega))
    match hkp : kind p with
    | .put s => rw [hkp] at this; exact this
    | .val d => trivial
    | .box d => trivial
   ·
    revert h5
    cases (kind i).dst? <;> simp
   ·
    match hk : kind i with
    | .put s =>
     rw [hk] at h6
     intro j hj
     have := List.all_eq_true.1 h6 j (List.mem_range.2 (by omega))
     match hkj : kind j with
     | .put s' => rw [hkj] at this; simpa using this
     | .box d => rw [hkj] at this; simpa using this
     | .val d => rw [hkj] at this; simpa using this
    | .val d =>
     rw [hk] at h6
     intro j hj
     have := List.all_eq_true.1 h6 j (List.mem_range.2 (by omega))
     simpa [or_assoc] using this
    | .box d =>
     rw [hk] at h6
     intro j hj
     have := List.all_eq_true.1 h6 j (List.mem_range.2 (by omega))
     simpa [or_assoc] using this
 have lis : ∀ l : Array Bool, ListedClosed .any ops l → ∀ i, i ≤ last → l.getD i false = true → ∀ z ∈ D i, l.getD z false = true := fun l hc i hi hl z hz => by
  obtain ⟨_, _, _, _, hDk, _⟩ := hof i hi
  exact Region.reach_listed hc ops.size i (hDk z hz) hl
 refine region_inv hm (fun l a W => ListedClosed .any ops l ∧ a.defers = df ∧ Inv w0 n0 tb nb t0 keep isBox a.tmps W ∧ ((∀ p s, p ≤ last → kind p = .put s → l.getD p false = false) → Z W) ∧ ∀ i, i ≤ last → l.getD i false = true → Held kind F H i a.tmps W tb) ?_ ?_ ?_
 ·
  have hno : ∀ i, (Array.replicate ops.size false).getD i false = false := by
   intro i
   rw [Array.getD_eq_getD_getElem?, Array.getElem?_replicate]
   split <;> rfl
  refine ⟨?_, rfl, ⟨hn, fun _ _ => rfl, hb, h0⟩, fun _ => hz0, fun i _ h => ?_⟩
  ·
   intro d o ho hl
   rw [hno] at hl
   cases hl
  ·
   rw [hno] at h
   cases h
 ·
  intro l a W hs hI hr
  obtain ⟨hc, hdf, hI, hZ, hG⟩ := hI
  have key : ∀ i, i ≤ last → l.getD i false = true := by
   intro i
   induction i using Nat.strongRecOn with
   | _ i ih =>
    intro hi
    obtain ⟨o, ho, ha, _⟩ := hof i hi
    match hx : l[i]? with
    | none =>
     have := Array.getElem?_eq_none_iff.1 hx
     omega
    | some true => rw [Array.getD_eq_getD_getElem?, hx]; rfl
    | some false =>
     have : i ∈ Region.ready .any ops l := mem_ready.2 ⟨by rw [Array.getD_eq_getD_getElem?, hx]; rfl, o, ho, fun e he hbd => ih e.on (ha e (by simpa using he) hbd) (by have := ha e (by simpa using he) hbd; omega)⟩
     rw [hr] at this
     cases this
  obtain ⟨T, df'⟩ := a
  dsimp only at hdf hI hG
  subst hdf
  exact hend T W hI (fun k hk => hG k hk (key k hk))
 ·
  intro l a W i hs hI hi
  obtain ⟨hc, hdf, hI, hZ, hG⟩ := hI
  have hc' := hc.set hi
  obtain ⟨hun, o, ho, haft⟩ := mem_ready.1 hi
  have hil : i ≤ last := by
   have := (Array.getElem?_eq_some_iff.1 ho).1
   omega
  have hli : i < l.size := by omega
  obtain ⟨o', ho', ha, hd, hD, hea, hdst, hkp, hot⟩ := hof i hil
  have eo := Option.some.inj (ho'.symm.trans ho)
  subst eo
  obtain ⟨T, df'⟩ := a
  dsimp only at hdf hI hG
  subst hdf
  have stay : ∀ T' W', Turns kind i T W T' W' → ∀ k, k ≤ last → k ≠ i → l.getD k false = true → Held kind F H k T' W' tb := by
   intro T' W' ht k hk hki hkl
   have hnD : i ∉ D k := fun hz => by
    have := lis l hc k hk hkl i hz
    rw [Array.getD_eq_getD_getElem?] at this hun
    match hx : l[i]? with
    | none => rw [hx] at this; cases this
    | some b => rw [hx] at this hun; simp at this hun; rw [this] at hun; cases hun
   have hold := hG k hk hkl
   obtain ⟨_, _, _, _, _, _, _, _, hot2⟩ := hof k hk
   have hbk := hbx k hk
   have hbi := hbx i hil
   unfold Held at hold ⊢
   unfold Turns at ht
   match hkk : kind k with
   | .val d =>
    rw [hkk] at hold hot2
    dsimp only at hold hot2 ⊢
    obtain ⟨v, hv, hf⟩ := hold
    have hne := (hot2 i hil).resolve_left (fun h => h.elim (fun h => hki h.symm) hnD)
    match hkj : kind i with
    | .val d' =>
     rw [hkj] at ht hne
     obtain ⟨⟨u, rfl⟩, hbl⟩ := ht
     refine ⟨v, ?_, hF1 k hk _ _ _ hf hbl⟩
     rw [Array.getElem?_setIfInBounds_ne (fun e => hne (congrArg some e))]
     exact hv
    | .box d' =>
     rw [hkj] at ht hne
     obtain ⟨rfl, hbl⟩ := ht
     refine ⟨v, ?_, hF1 k hk _ _ _ hf hbl⟩
     rw [Array.getElem?_setIfInBounds_ne (fun e => hne (congrArg some e))]
     exact hv
    | .put s =>
     rw [hkj] at ht hbi
     obtain ⟨rfl, g, vs, hg, rfl⟩ := ht
     obtain ⟨_, cs, hcs, _⟩ := hI.boxes.1 s hbi g hg
     exact ⟨v, hv, hF2 k hk _ _ _ _ _ hf hcs⟩
   | .box d =>
    rw [hkk] at hold hot2
    dsimp only at hold hot2 ⊢
    obtain ⟨v, hv⟩ := hold
    have hne := (hot2 i hil).resolve_left (fun h => h.elim (fun h => hki h.symm) hnD)
    match hkj : kind i with
    | .val d' =>
     rw [hkj] at ht hne
     obtain ⟨⟨u, rfl⟩, hbl⟩ := ht
     refine ⟨v, ?_⟩
     rw [Array.getElem?_setIfInBounds_ne (fun e => hne (congrArg some e))]
     exact hv
    | .box d' =>
     rw [hkj] at ht hne
     obtain ⟨rfl, hbl⟩ := ht
     refine ⟨v, ?_⟩
     rw [Array.getElem?_setIfInBounds_ne (fun e => hne (congrArg some e))]
     exact hv
    | .put s =>
     rw [hkj] at ht
     obtain ⟨rfl, g, vs, hg, rfl⟩ := ht
     exact ⟨v, hv⟩
   | .put s =>
    rw [hkk] at hold hot2 hbk
    dsimp only at hold hot2 hbk ⊢
    obtain ⟨g, cs, hv, hcs, hf⟩ := hold
    have hne := hot2 i hil
    match hkj : kind i with
    | .val d' =>
     rw [hkj] at ht hne
     obtain ⟨⟨u, rfl⟩, hbl⟩ := ht
     refine ⟨g, cs, ?_, blk_below hcs hbl, hH1 k hk _ _ _ hf hbl⟩
     rw [Array.getElem?_setIfInBounds_ne (fun e => hne e)]
     exact hv
    | .box d' =>
     rw [hkj] at ht hne
     obtain ⟨rfl, hbl⟩ := ht
     refine ⟨g, cs, ?_, blk_below hcs hbl, hH1 k hk _ _ _ hf hbl⟩
     rw [Array.getElem?_setIfInBounds_ne (fun e => (hne.resolve_right hnD) e)]
     exact hv
    | .put s' =>
     rw [hkj] at ht hne hbi
     obtain ⟨rfl, g', vs, hg', rfl⟩ := ht
     have hss : s ≠ s' := fun e => (hne.resolve_left (fun h => hki h.symm)) e.symm
     have hgg := hI.boxes.2 s s' hbk hbi hss g g' hv hg'
     obtain ⟨_, cs', hcs', _⟩ := hI.boxes.1 s' hbi g' hg'
     exact ⟨g, cs, hv, (fill_far hgg vs 0 W).trans hcs, hH2 k hk _ _ _ _ _ hf hcs'⟩
  have next : ∀ T' W', Turns kind i T W T' W' → Held kind F H i T' W' tb → ∀ k, k ≤ last → (l.setIfInBounds i true).getD k false = true → Held kind F H k T' W' tb := by
   intro T' W' ht hh k hk hkl
   by_cases hki : k = i
   ·
    subst hki; exact hh
   ·
    refine stay T' W' ht k hk hki ?_
    rw [Array.getD_eq_getD_getElem?, Array.getElem?_setIfInBounds_ne (Ne.symm hki), ← Array.getD_eq_getD_getElem?] at hkl
    exact hkl
  have old : ∀ p s, p ≤ last → kind p = .put s → (∀ p s, p ≤ last → kind p = .put s → (l.setIfInBounds i true).getD p false = false) → i ≠ p → l.getD p false = false := by
   intro p s hp hks hno hip
   have := hno p s hp hks
   rw [Array.getD_eq_getD_getElem?, Array.getElem?_setIfInBounds_ne hip, ← Array.getD_eq_getD_getElem?] at this
   exact this
  refine wpOp_mono (fun a' w' hq => ?_) (hop i _ hil ho T W hI (fun he => hZ (fun p s hp hks => ?_)) (fun k hk => ?_))
  ·
   have hbi := hbx i hil
   match hkj : kind i with
   | .val d =>
    rw [hkj] at hq hkp hbi
    dsimp only [RK.dst?] at hq hkp hbi
    obtain ⟨v, rfl, hbl, hf⟩ := hq
    obtain ⟨hkp, hlt⟩ := hkp
    rw [← hI.size] at hlt
    refine ⟨hc', rfl, ⟨by simpa using hI.size, fun j hj => ?_, below_step hI.below hbl, ⟨fun s hs g hg => ?_, fun s s' hs hs' hne g g' hg hg' => ?_⟩⟩, fun hno => hz _ _ (hZ (fun p s hp hks => old p s hp hks hno (fun e => by rw [e, hks] at hkj; cases hkj))) hbl, ?_⟩
    ·
     have : d ≠ j := fun e => by rw [e, hj] at hkp; cases hkp
     rw [Array.getElem?_setIfInBounds_ne this]
     exact hI.kept j hj
    ·
     have : d ≠ s := fun e => by rw [e, hs] at hbi; cases hbi
     dsimp only at hg
     rw [Array.getElem?_setIfInBounds_ne this] at hg
     obtain ⟨h1, cs, h2, h3⟩ := hI.boxes.1 s hs g hg
     exact ⟨h1, cs, blk_below h2 hbl, h3⟩
    ·
     have e1 : d ≠ s := fun e => by rw [e, hs] at hbi; cases hbi
     have e2 : d ≠ s' := fun e => by rw [e, hs'] at hbi; cases hbi
     dsimp only at hg hg'
     rw [Array.getElem?_setIfInBounds_ne e1] at hg
     rw [Array.getElem?_setIfInBounds_ne e2] at hg'
     exact hI.boxes.2 s s' hs hs' hne g g' hg hg'
    ·
     refine next _ _ ?_ ?_
     ·
      unfold Turns
      rw [hkj]
      exact ⟨⟨v, rfl⟩, hbl⟩
     ·
      unfold Held
      rw [hkj]
      refine ⟨v, ?_, hf⟩
      exact Array.getElem?_setIfInBounds_self_of_lt hlt
   | .box d =>
    rw [hkj] at hq hkp hbi
    dsimp only [RK.dst?] at hq hkp hbi
    obtain ⟨cs, rfl, hbl, hcs, hnb⟩ := hq
    obtain ⟨hkp, hlt⟩ := hkp
    rw [← hI.size] at hlt
    refine ⟨hc', rfl, ⟨by simpa using hI.size, fun j hj => ?_, below_step hI.below hbl, ⟨fun s hs g hg => ?_, fun s s' hs hs' hne g g' hg hg' => ?_⟩⟩, fun hno => hz _ _ (hZ (fun p s hp hks => old p s hp hks hno (fun e => by rw [e, hks] at hkj; cases hkj))) hbl, ?_⟩
    ·
     have : d ≠ j := fun e => by rw [e, hj] at hkp; cases hkp
     rw [Array.getElem?_setIfInBounds_ne this]
     exact hI.kept j hj
    ·
     dsimp only at hg
     by_cases e : d = s
     ·
      subst e
      rw [Array.getElem?_setIfInBounds_self_of_lt hlt] at hg
      have eg : W.heap.size = g := congrArg Addr.block (Option.some.inj (Value.pointer.inj (Option.some.inj hg)))
      subst eg
      exact ⟨below_size hI.below, cs, hcs, hnb⟩
     ·
      rw [Array.getElem?_setIfInBounds_ne e] at hg
      obtain ⟨h1, cs, h2, h3⟩ := hI.boxes.1 s hs g hg
      exact ⟨h1, cs, blk_below h2 hbl, h3⟩
    ·
     dsimp only at hg hg'
     by_cases e1 : d = s
     ·
      subst e1
      rw [Array.getElem?_setIfInBounds_self_of_lt hlt] at hg
      rw [Array.getElem?_setIfInBounds_ne hne] at hg'
      have eg : W.heap.size = g := congrArg Addr.block (Option.some.inj (Value.pointer.inj (Option.some.inj hg)))
      subst eg
      obtain ⟨_, cs, h2, _⟩ := hI.boxes.1 s' hs' g' hg'
      exact Nat.ne_of_gt (blk_lt h2)
     ·
      by_cases e2 : d = s'
      ·
       subst e2
       rw [Array.getElem?_setIfInBounds_self_of_lt hlt] at hg'
       rw [Array.getElem?_setIfInBounds_ne e1] at hg
       have eg : W.heap.size = g' := congrArg Addr.block (Option.some.inj (Value.pointer.inj (Option.some.inj hg')))
       subst eg
       obtain ⟨_, cs, h2, _⟩ := hI.boxes.1 s hs g hg
       exact Nat.ne_of_lt (blk_lt h2)
      ·
       rw [Array.getElem?_setIfInBounds_ne e1] at hg
       rw [Array.getElem?_setIfInBounds_ne e2] at hg'
       exact hI.boxes.2 s s' hs hs' hne g g' hg hg'
    ·
     refine next _ _ ?_ ?_
     ·
      unfold Turns
      rw [hkj]
      exact ⟨rfl, hbl⟩
     ·
      unfold Held
      rw [hkj]
      exact ⟨_, Array.getElem?_setIfInBounds_self_of_lt hlt⟩
   | .put s =>
    rw [hkj] at hq hbi
    dsimp only [RK.dst?] at hq hbi
    obtain ⟨g, vs, rfl, hg, rfl, hh⟩ := hq
    obtain ⟨h1, cs, hcs, h3⟩ := hI.boxes.1 s hbi g hg
    refine ⟨hc', rfl, ⟨hI.size, hI.kept, fill_below h1 vs 0 W hI.below, ⟨fun s2 hs2 g2 hg2 => ?_, hI.boxes.2⟩⟩, fun hno => ?_, ?_⟩
    ·
     obtain ⟨h1', cs', h2', h3'⟩ := hI.boxes.1 s2 hs2 g2 hg2
     by_cases e : g2 = g
     ·
      subst e
      have ec := Obj.cells.inj (Option.some.inj (h2'.symm.trans hcs))
      refine ⟨h1', _, fill_put vs 0 cs W hcs, ?_⟩
      rw [sets_size]
      exact h3
     ·
      exact ⟨h1', cs', (fill_far e vs 0 W).trans h2', h3'⟩
    ·
     have := hno i s hil hkj
     rw [Array.getD_eq_getD_getElem?, Array.getElem?_setIfInBounds_self_of_lt hli] at this
     cases this
    ·
     refine next _ _ ?_ ?_
     ·
      unfold Turns
      rw [hkj]
      exact ⟨rfl, g, vs, hg, rfl⟩
     ·
      unfold Held
      rw [hkj]
      exact ⟨g, _, hg, fill_put vs 0 cs W hcs, hh cs hcs⟩
  ·
   have hrb := hea he p hp
   rw [hks] at hrb
   have hrb : Region.reachB .any ops i ops.size p = true := hrb
   match hlp : l.getD p false with
   | false => rfl
   | true =>
    exfalso
    have := Region.reach_listed hc ops.size p hrb hlp
    rw [Array.getD_eq_getD_getElem?] at this hun
    match hx : l[i]? with
    | none => rw [hx] at this; cases this
    | some b => rw [hx] at this hun; simp at this hun; rw [this] at hun; cases hun
  ·
   obtain ⟨hl, e, he, hb1, rfl⟩ := hd k hk
   exact hG e.on hl (haft e (by simpa using he) hb1)
end Go.Proofs.YtpdjahhimmaonaaDoor.PD
end
section
namespace Go.Proofs.YtpdjahhimmaonaaDoor.PD
open Go.RowKit Go.Proofs.YtpdjahhimmaonaaDoorW.PrintWords Go.Proofs.YtpdjahhimmaonaaDoorW.PrintLast Go.Proofs.YtpdjahhimmaonaaDoorW.PrintMore
set_option linter.unusedVariables false
set_option linter.unusedSimpArgs false
inductive Fc where
 | sv (A : Option Addr) (c : Nat) (l : List Int)
 | bk (g : Nat) (cs : Array Value) (t : TypeId)
 | bel (w0 : World)
def Fc.at : Fc → World → Prop
 | .sv A c l, W => l.length ≤ c ∧ Kd.C (Kd.int .u64) W A l.length l
 | .bk g cs t, W => W.heap[g]? = some (.cells cs t (0, 0))
 | .bel w0, W => Below w0.heap.size w0 W
theorem Fc.below {W W' : World} (hb : Below W.heap.size W W') : ∀ (f : Fc), f.at W → f.at W'
 | .sv _ _ _, h => ⟨h.1, Kd.C_below h.2 hb⟩
 | .bk _ _ _, h => blk_below h hb
 | .bel _, h => below_step h hb
def FS (L : List Fc) (W : World) : Prop := ∀ f ∈ L, f.at W
theorem FS.below {L : List Fc} {W W' : World} (h : FS L W) (hb : Below W.heap.size W W') : FS L W' := fun f hf => f.below hb (h f hf)
theorem FS.get {L : List Fc} {W : World} (h : FS L W) (i : Nat) {f : Fc} (hi : L[i]? = some f) : f.at W := h f (List.mem_of_getElem? hi)
theorem FS.snoc {L : List Fc} {W : World} {f : Fc} (h : FS L W) (hf : f.at W) : FS (f :: L) W := fun g hg => by
 rcases List.mem_cons.1 hg with hg | hg
 ·
  rw [hg]; exact hf
 ·
  exact h g hg
theorem FS.nil {W : World} : FS [] W := fun _ h => by cases h
theorem FS.sv {L : List Fc} {W : World} (h : FS L W) (i : Nat) {A : Option Addr} {c : Nat} {l : List Int} (hi : L[i]? = some (.sv A c l) := by rfl) : l.length ≤ c ∧ Kd.C (Kd.int .u64) W A l.length l := h.get i hi
theorem FS.bel {L : List Fc} {W w0 : World} (h : FS L W) (i : Nat) (hi : L[i]? = some (.bel w0) := by rfl) : Below w0.heap.size w0 W := h.get i hi
theorem FS.bk {L : List Fc} {W : World} (h : FS L W) (i : Nat) {g : Nat} {cs : Array Value} {t : TypeId} (hi : L[i]? = some (.bk g cs t) := by rfl) : W.heap[g]? = some (.cells cs t (0, 0)) := h.get i hi
theorem FS.c3 {L : List Fc} {W : World} (h : FS L W) (i : Nat) {g : Nat} {x y z : Value} {t : TypeId} (hi : L[i]? = some (.bk g #[x, y, z] t) := by rfl) :
  W.cell? ⟨g, 0, none⟩ = some x ∧ W.cell? ⟨g, 1, none⟩ = some y ∧ W.cell? ⟨g, 2, none⟩ = some z :=
 ⟨(blk_cell (h.bk i hi) 0).trans rfl, (blk_cell (h.bk i hi) 1).trans rfl, (blk_cell (h.bk i hi) 2).trans rfl⟩
theorem FS.c2 {L : List Fc} {W : World} (h : FS L W) (i : Nat) {g : Nat} {x y : Value} {t : TypeId} (hi : L[i]? = some (.bk g #[x, y] t) := by rfl) :
  W.cell? ⟨g, 0, none⟩ = some x ∧ W.cell? ⟨g, 1, none⟩ = some y :=
 ⟨(blk_cell (h.bk i hi) 0).trans rfl, (blk_cell (h.bk i hi) 1).trans rfl⟩
theorem fs_ {L : List Fc} {W W1 : World} (h : Aside0 (FS L W)) (s : Below W.heap.size W W → Below W.heap.size W W1 := by intro h_; repeat (first | (with_reducible first | exact h_ | apply below_alloc | apply pw_below_drewN | apply below_drew1) | exact h_)) : FS L W1 := h.out.below (s (Below.refl _ _))
theorem fsb_ {L : List Fc} {W W1 W2 : World} (h : Aside0 (FS L W)) (hb : Below W1.heap.size W1 W2) (s : Below W.heap.size W W → Below W.heap.size W W1 := by intro h_; repeat (first | (with_reducible first | exact h_ | apply below_alloc | apply pw_below_drewN | apply below_drew1) | exact h_)) : Aside0 (FS L W2) := ⟨(h.out.below (s (Below.refl _ _))).below hb⟩
theorem svR {e base : Nat} {ok : Nat → Prop} {W : World} {A : Option Addr} {c : Nat} {l : List Int} (h : Kd.R (Kd.int .u64) e W base ok (.slice A l.length c) l) : (Fc.sv A c l).at W := ⟨(Kd.R_reads' h).2.1, (Kd.R_reads' h).2.2⟩
theorem svC {W : World} {A : Option Addr} {c : Nat} {l : List Int} (h : Kd.C (Kd.int .u64) W A l.length l) (hc : l.length ≤ c) : (Fc.sv A c l).at W := ⟨hc, h⟩
theorem fs_store3 {L : List Fc} {Wp W w2 : World} {g : Nat} {t : TypeId} {c0 c1 c2 x y z : Value} (hp : Aside0 (FS L Wp)) (hb : Aside0 (Below Wp.heap.size Wp W)) (ge : Aside0 (Wp.heap.size ≤ g)) (bk : Aside0 (W.heap[g]? = some (.cells #[c0, c1, c2] t (0, 0))))
  (hw : w2 = ((W.setCell ⟨g, 0, none⟩ x).setCell ⟨g, 1, none⟩ y).setCell ⟨g, 2, none⟩ z) : Aside0 (FS (.bk g #[x, y, z] t :: L) w2) := ⟨by
 subst hw
 refine FS.snoc (hp.out.below (below_set (below_set (below_set hb.out ge.out) ge.out) ge.out)) ?_
 exact blk_put (blk_put (blk_put bk.out 0 x rfl) 1 y rfl) 2 z rfl⟩
theorem bx_ {α β : Type} {x : Option α} {f : α → Option β} {b : β} (h : x.bind f = some b) : ∃ a, Aside0 (x = some a) ∧ f a = some b :=
 let ⟨a, h1, h2⟩ := Option.bind_eq_some_iff.mp h; ⟨a, ⟨h1⟩, h2⟩
end Go.Proofs.YtpdjahhimmaonaaDoor.PD
end
