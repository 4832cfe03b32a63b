/- A region that draws its order and only reads, or reads ahead of one last operation, is walked once in the text's order, in a round of a range over a function too. -/
import Derived.Test.YtpdjahhimmaonaaDoorZBoundOwn13
import Derived.Sort.QuietThIn
import Derived.Sort.QuietTacIn
import Derived.Sort.BigQuietIn
import Derived.OrdersIn
namespace Go.Proofs.YtpdjahhimmaonaaDoor.PD
set_option linter.unusedVariables false
set_option linter.unusedSimpArgs false
section
variable {F : Fence} {n : Nat} {P : Program} {ops : Array Oper} {C : World → Prop} {md : Region.Mode}
theorem rq_op {l0 : Nat} {o : Oper} {a : Act} {K : Act → Prop} {K' : Act → World → Prop} {Q' : Exit → Act → World → Prop} {w : World} (hro : F.round = some l0) (hnd : ∀ c, o.op ≠ .defer c) (hw : C w) (h : ∀ a w', C w' → K a → K' a w')
  (ha : o.askedIn F P a C) (hh : o.quietIn F n P a C K) : o.wpIn F n P a w K' Q' := by
 obtain ⟨v, h1, h2⟩ := hh
 have h3 := h1 w hw
 unfold Oper.quietAtIn at h3
 unfold Oper.wpIn
 refine ⟨ha w hw, ?_⟩
 rw [hro, Oper.semAt_some _ _ _ hnd]
 generalize (execOp a.eval o).run P w = r at *
 cases r with
 | ok x w' =>
  cases x <;> simp only [Oper.quietUponIn] at h3 <;> simp only [Oper.uponIn]
  case value u =>
   obtain ⟨e1, e2⟩ := h3
   rw [e1, e2]
   exact h _ _ hw h2
  case skip =>
   obtain ⟨e1, e2⟩ := h3
   rw [e1, ← e2]
   exact h _ _ hw h2
  case enter f args =>
   obtain ⟨e1, hd, hc⟩ := h3
   rw [e1]
   exact ⟨hd, hc.mono fun e w'' ⟨he, hw''⟩ => by subst he; exact h _ _ hw'' h2⟩
 | halt x w' => simp only [Oper.quietUponIn] at h3
theorem rq_opOf {l0 : Nat} {i : Nat} {a : Act} {K : Act → Prop} {K' : Act → World → Prop} {Q' : Exit → Act → World → Prop} {w : World} (hro : F.round = some l0) (hnd : ∀ (j : Nat) (o : Oper) c, ops[j]? = some o → o.op ≠ .defer c) (hC : C w) (h : ∀ a w', C w' → K a → K' a w')
  (hh : qOpIn F n P ops C i K a) : wpOpIn F n P ops Q' i K' a w := by
 unfold qOpIn at hh
 unfold wpOpIn
 split
 ·
  rename_i ho; simp only [ho] at hh; exact h _ _ hC hh
 ·
  rename_i o ho
  simp only [ho] at hh
  obtain ⟨ha, hh⟩ := hh
  split
  ·
   rename_i hw; simp only [hw, if_true] at hh; exact rq_op hro (fun c => hnd i o c ho) hC h ha hh
  ·
   rename_i hw; simp only [hw] at hh; exact ⟨ha w hC, h _ _ hC hh⟩
theorem rq_any {l0 : Nat} {Q : Act → Prop} {Q' : Exit → Act → World → Prop} (hro : F.round = some l0) (hnd : ∀ (j : Nat) (o : Oper) c, ops[j]? = some o → o.op ≠ .defer c) (hQ : ∀ a w, C w → Q a → Q' .normal a w) : ∀ (fuel : Nat) (listed : Array Bool) (a : Act) (w : World), C w →
  wpAnyQIn F n P md ops C Q fuel listed a → wpAnyIn F n P md ops Q' fuel listed a w
 | 0, _, _, _, hw, h => ⟨h.1, hQ _ _ hw h.2⟩
 | fuel + 1, _, _, _, hw, h => ⟨fun h0 => hQ _ _ hw (h.1 h0), fun i hi => rq_opOf hro hnd hw (fun a' w' hw' => rq_any hro hnd hQ fuel _ a' w' hw') (h.2 i hi)⟩
def noDefer (l : List Oper) : Bool := l.all fun o => match o.op with | .defer _ => false | _ => true
theorem noDefer_spec {l : List Oper} (h : noDefer l = true) (j : Nat) (o : Oper) (c : Call) (ho : l.toArray[j]? = some o) : o.op ≠ .defer c := by
 intro e
 have hm : o ∈ l := by
  have : l[j]? = some o := by simpa using ho
  exact List.mem_of_getElem? this
 have := List.all_eq_true.1 h o hm
 rw [e] at this
 cases this
theorem rq_region {l0 : Nat} {id : Nat} {Q : Exit → Act → World → Prop} {a : Act} {w : World} {l : List Oper} (hro : F.round = some l0) (hm : P.follows .mixedOrders = true) (hB : Region.lexB .any l.toArray = true) (hnd : noDefer l = true)
  (h : wpQuietIn F n P l.toArray (fun w' => ∃ n, w' = w.drewN n) (fun a' => ∀ w', (∃ n, w' = w.drewN n) → Q .normal a' w') l a) : (Code.region id l.toArray true).wpIn F n P Q a w := by
 simp only [Region.lexB, Bool.and_eq_true] at hB
 refine wpIn_region_any hm (rq_any (C := fun w' => ∃ n, w' = w.drewN n) (Q := fun a' => ∀ w', (∃ n, w' = w.drewN n) → Q .normal a' w') hro (noDefer_spec hnd) (fun _ w' hw' h => h w' hw') _ _ _ _ ⟨1, rfl⟩ ?_)
 have := wpAnyQIn_lex (F := F) (n := n) (C := fun w' => ∃ n, w' = w.drewN n) (md := .any) hB.1 l.toArray.toList 0 (Array.replicate l.toArray.size false) a (by simp) (by simpa using hB.2) (by simpa using h)
 simpa using this
def wpAnyT (F : Fence) (n : Nat) (P : Program) (md : Region.Mode) (ops : Array Oper) (C : World → Prop) (m : Nat) (Q : Act → Prop) : Nat → Array Bool → Act → Prop
 | 0, listed, a => Region.ready md ops listed = [m] ∧ Region.ready md ops (listed.setIfInBounds m true) = [] ∧ Q a
 | fuel + 1, listed, a => Region.ready md ops listed ≠ [] ∧ m ∉ Region.ready md ops listed ∧ ∀ i ∈ Region.ready md ops listed, qOpIn F n P ops C i (wpAnyT F n P md ops C m Q fuel (listed.setIfInBounds i true)) a
theorem rq_notReady {m i : Nat} {om : Oper} {listed : Array Bool} (hom : ops[m]? = some om) (hwait : ∃ e ∈ om.after, Region.binds md e = true ∧ e.on = i) (hun : listed.getD i true = false) : m ∉ Region.ready md ops listed := by
 intro h
 obtain ⟨_, oj, hoj, hall⟩ := mem_ready.1 h
 rw [hom] at hoj
 cases hoj
 obtain ⟨e, he, hb, rfl⟩ := hwait
 have := hall e he hb
 rcases Nat.lt_or_ge e.on listed.size with h' | h'
 ·
  simp [h'] at this hun; rw [hun] at this; cases this
 ·
  simp [Array.getElem?_eq_none h'] at hun
theorem wpAnyT_first {Q : Act → Prop} {m i : Nat} {oi om : Oper} {v : Value} (hi : ops[i]? = some oi) (hom : ops[m]? = some om) (hwait : ∃ e ∈ om.after, Region.binds md e = true ∧ e.on = i) (hsel : ∀ (j : Nat) (o : Oper) cs b, ops[j]? = some o → o.op ≠ .select cs b) :
  ∀ (fuel : Nat) (listed : Array Bool) (a : Act),
   (∀ j oj, ops[j]? = some oj → j ≠ i → listed.getD j true = false → (∀ e ∈ oj.after, Region.binds md e = true → e.on ≠ i) → oi.apart ops oj = true) →
   i ∈ Region.ready md ops listed → YieldsQuiet F n P ops C oi v a →
   wpAnyT F n P md ops C m Q fuel (listed.setIfInBounds i true) (a.put oi.dst v) → wpAnyT F n P md ops C m Q (fuel + 1) listed a := by
 intro fuel
 induction fuel with
 | zero =>
  intro listed a _ hr hy H
  have hnr := rq_notReady hom hwait (mem_ready.1 hr).1
  refine ⟨(fun h0 => by rw [h0] at hr; cases hr), hnr, fun j hj => ?_⟩
  by_cases hji : j = i
  ·
   subst hji; exact hy.qOpIn hi H
  ·
   have := ready_mono hj hji
   rw [H.1] at this
   obtain rfl : j = m := by simpa using this
   exact absurd hj hnr
 | succ fuel ih =>
  intro listed a hfree hr hy H
  have hnr := rq_notReady hom hwait (mem_ready.1 hr).1
  refine ⟨(fun h0 => by rw [h0] at hr; cases hr), hnr, fun j hj => ?_⟩
  by_cases hji : j = i
  ·
   subst hji; exact hy.qOpIn hi H
  ·
   have h1 := H.2.2 j (ready_mono hj hji)
   obtain ⟨hjun, oj, hoj, hall⟩ := mem_ready.1 hj
   have hnot : ∀ e ∈ oj.after, Region.binds md e = true → e.on ≠ i := fun e he hb heq => by
    have h1 := hall e he hb
    have h0 := (mem_ready.1 hr).1
    rw [heq] at h1
    rcases Nat.lt_or_ge i listed.size with h' | h'
    ·
     simp [h'] at h0 h1; rw [h0] at h1; cases h1
    ·
     simp [Array.getElem?_eq_none h'] at h1
   have h2 := qOpIn_put hoj (hfree j oj hoj hji hjun hnot) (fun cs b => hsel i oi cs b hi) (fun cs b => hsel j oj cs b hoj) hy h1
   have hfree' : ∀ k ok, ops[k]? = some ok → k ≠ i → (listed.setIfInBounds j true).getD k true = false →
     (∀ e ∈ ok.after, Region.binds md e = true → e.on ≠ i) → oi.apart ops ok = true := fun k ok hk hki hun hno => by
    refine hfree k ok hk hki ?_ hno
    by_cases hjk : j = k
    ·
     subst hjk; exact hjun
    ·
     rw [getD_set_ne true hjk] at hun; exact hun
   refine qOpIn_mono (fun a' h3 => ih (listed.setIfInBounds j true) a' hfree' (ready_mono hr (Ne.symm hji)) h3.1 ?_) h2
   rw [Array.setIfInBounds_comm _ _ hji]
   exact h3.2
def lexFromT (md : Region.Mode) (ops : Array Oper) (m : Nat) : Nat → Nat → Array Bool → Bool
 | 0, _, listed => (Region.ready md ops listed == [m]) && (Region.ready md ops (listed.setIfInBounds m true)).isEmpty
 | fuel + 1, k, listed => (Region.ready md ops listed).contains k && Region.free md ops listed k && lexFromT md ops m fuel (k + 1) (listed.setIfInBounds k true)
theorem wpAnyT_lex {Q : Act → Prop} {m : Nat} {om : Oper} (hs : Region.noSelect ops = true) (hom : ops[m]? = some om) (hwait : ∀ i, i < m → ∃ e ∈ om.after, Region.binds md e = true ∧ e.on = i) : ∀ (l : List Oper) (k : Nat) (listed : Array Bool) (a : Act), k + l.length = m → (∀ j, j < l.length → l[j]? = ops[k + j]?) →
  lexFromT md ops m l.length k listed = true → wpQuietIn F n P ops C Q l a → wpAnyT F n P md ops C m Q l.length listed a
 | [], _, _, _, _, _, hB, h => by
  simp only [List.length_nil, lexFromT, Bool.and_eq_true, beq_iff_eq, List.isEmpty_iff] at hB
  exact ⟨hB.1, hB.2, h⟩
 | o :: l, k, listed, a, hkm, hl, hB, h => by
  have h0 : ops[k]? = some o := by simpa using (hl 0 (by simp)).symm
  simp only [List.length_cons, lexFromT, Bool.and_eq_true] at hB
  obtain ⟨⟨hr, hf⟩, hB'⟩ := hB
  have hst : qOpIn F n P ops C k (wpQuietIn F n P ops C Q l) a := by unfold qOpIn; simp only [h0]; exact h
  obtain ⟨v, hy, hK⟩ := yieldsQuiet_of_qOpIn h0 hst
  exact wpAnyT_first h0 hom (hwait k (by simp at hkm; omega)) (Region.noSelect_spec hs) l.length listed a (Region.free_spec h0 hf) (by simpa using hr) hy
   (wpAnyT_lex hs hom hwait l (k + 1) _ _ (by simp at hkm; omega) (fun j hj => by have := hl (j + 1) (by simp; omega); simpa [Nat.add_assoc, Nat.add_comm 1 j] using this) hB' hK)
theorem rq_anyT {l0 m : Nat} {om : Oper} {Q : Act → Prop} {Q' : Exit → Act → World → Prop} (hro : F.round = some l0) (hnd : ∀ (j : Nat) (o : Oper) c, ops[j]? = some o → o.op ≠ .defer c) (hom : ops[m]? = some om) (hg : om.guard = none)
  (hQ : ∀ a w, C w → Q a → om.wpIn F n P a w (fun a w => Q' .normal a w) Q') : ∀ (fuel : Nat) (listed : Array Bool) (a : Act) (w : World), C w →
  wpAnyT F n P md ops C m Q fuel listed a → wpAnyIn F n P md ops Q' (fuel + 1) listed a w
 | 0, listed, a, w, hw, h => by
  obtain ⟨h1, h2, h3⟩ := h
  refine ⟨(fun h0 => by rw [h1] at h0; cases h0), fun i hi => ?_⟩
  rw [h1] at hi
  obtain rfl : i = m := by simpa using hi
  unfold wpOpIn
  simp only [hom]
  rw [if_pos (by simp [Region.wanted, hg])]
  exact Oper.wpIn_mono (fun a' w' h' => ⟨h2, h'⟩) (hQ a w hw h3)
 | fuel + 1, _, _, _, hw, h => ⟨fun h0 => absurd h0 h.1, fun i hi => rq_opOf hro hnd hw (fun a' w' hw' => rq_anyT hro hnd hom hg hQ fuel _ a' w' hw') (h.2.2 i hi)⟩
def waitsAll (md : Region.Mode) (om : Oper) (m : Nat) : Bool := (List.range m).all fun i => om.after.any fun e => Region.binds md e && e.on == i
theorem rq_tail {l0 m : Nat} {om : Oper} {id : Nat} {Q : Exit → Act → World → Prop} {a : Act} {w : World} {l : List Oper} (hro : F.round = some l0) (hm : P.follows .mixedOrders = true) (hom : l[m]? = some om) (hlen : l.length = m + 1) (hg : om.guard = none)
  (hB : (Region.noSelect l.toArray && waitsAll .any om m && lexFromT .any l.toArray m m 0 (Array.replicate l.toArray.size false)) = true) (hnd : noDefer l = true)
  (h : wpQuietIn F n P l.toArray (fun w' => ∃ n, w' = w.drewN n) (fun a' => ∀ w', (∃ n, w' = w.drewN n) → om.wpIn F n P a' w' (fun a w => Q .normal a w) Q) (l.take m) a) : (Code.region id l.toArray true).wpIn F n P Q a w := by
 simp only [Bool.and_eq_true] at hB
 obtain ⟨⟨hs, hwa⟩, hlex⟩ := hB
 have hom' : l.toArray[m]? = some om := by simpa using hom
 have hwait : ∀ i, i < m → ∃ e ∈ om.after, Region.binds .any e = true ∧ e.on = i := by
  intro i hi
  have := List.all_eq_true.1 hwa i (List.mem_range.2 hi)
  obtain ⟨e, he, h2⟩ := Array.any_eq_true'.1 this
  simp only [Bool.and_eq_true, beq_iff_eq] at h2
  exact ⟨e, he, h2.1, h2.2⟩
 have htl : (l.take m).length = m := by simp; omega
 have hT := wpAnyT_lex (F := F) (n := n) (C := fun w' => ∃ n, w' = w.drewN n) (md := .any) hs hom' hwait (l.take m) 0 (Array.replicate l.toArray.size false) a (by omega)
  (fun j hj => by rw [htl] at hj; simp [List.getElem?_take, hj]) (by rw [htl]; exact hlex) h
 rw [htl] at hT
 refine wpIn_region_any hm ?_
 have hsz : l.toArray.size = m + 1 := by simpa using hlen
 rw [hsz] at hT ⊢
 exact rq_anyT (C := fun w' => ∃ n, w' = w.drewN n) (Q := fun a' => ∀ w', (∃ n, w' = w.drewN n) → om.wpIn F n P a' w' (fun a w => Q .normal a w) Q) hro (noDefer_spec hnd) hom' hg (fun a w hw h => h w hw) m _ a _ ⟨1, rfl⟩ hT
end
end Go.Proofs.YtpdjahhimmaonaaDoor.PD
