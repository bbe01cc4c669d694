/- A region that draws its order, proved by what its slots hold: each operation once, whatever the order. -/
import Derived.Test.YtkfekgmdjemkbaaMem
namespace Go.Proofs.Ytkfekgmdjemkbaa
set_option linter.unusedSimpArgs false
set_option linter.unusedVariables false
open Go.RowKit Go.ChangeShapes Go.WideShapes
/-- How many operations are still to come. -/
def unl : List Bool → Nat
  | [] => 0
  | true :: l => unl l
  | false :: l => unl l + 1
theorem unl_set : ∀ (l : List Bool) (i : Nat), l[i]? = some false → unl (l.set i true) + 1 = unl l
  | [], i, h => by simp at h
  | b :: l, 0, h => by
    simp at h; subst h; rfl
  | b :: l, i + 1, h => by
    have := unl_set l i (by simpa using h)
    cases b <;> simp [unl, List.set_cons_succ] <;> omega
theorem unl_zero : ∀ (l : List Bool), unl l = 0 → ∀ i : Nat, l[i]? ≠ some false
  | [], _, i => by simp
  | true :: l, h, 0 => by simp
  | true :: l, h, i + 1 => by simpa using unl_zero l h i
  | false :: l, h, i => by simp [unl] at h
theorem unl_rep (n : Nat) : unl (List.replicate n false) = n := by
  induction n with
  | zero => rfl
  | succ n ih => rw [List.replicate_succ]; simp [unl, ih]
/-- Each slot is written once; an operation waits for the writers of the slots that it looks at. -/
def slotsOk (ops : Array Oper) (n : Nat) : Bool :=
  ops.toList.zipIdx.all fun (o, i) =>
    o.after.toList.all (fun e => !Region.binds .any e || decide (e.on < i)) &&
    (match o.dst with | some d => decide (d < n) | none => true) &&
    ops.toList.zipIdx.all fun (p, k) =>
      match p.dst with
      | none => true
      | some d => (k == i || o.dst != some d) && (!(o.looksAt ops).contains d || o.after.toList.any fun e => Region.binds .any e && e.on == k)
/-- One operation: from what the slots hold that it looks at, in whatever world W has grown into. -/
def StepOk (P : Program) (ops : Array Oper) (W : World) (G : Tmp → World → Value → Prop) (o : Oper) : Prop :=
  ∀ a w, Below W.heap.size W w → (∀ t ∈ o.looksAt ops, G t w (a.tmps.getD t undef)) →
    if Region.wanted o (yielded ops a.tmps) = true then
      ∀ K Q, (∀ v w', Below w.heap.size w w' → (∀ d, o.dst = some d → G d w' v) → K (a.put o.dst v) w') → o.wp P a w K Q
    else ∀ d, o.dst = some d → G d w undef
theorem stepOk_plain {P : Program} {ops : Array Oper} {W : World} {G : Tmp → World → Value → Prop} {o : Oper} (hg : o.guard = none)
    (h : ∀ a w, Below W.heap.size W w → (∀ t ∈ o.looksAt ops, G t w (a.tmps.getD t undef)) → ∀ K Q, (∀ v w', Below w.heap.size w w' → (∀ d, o.dst = some d → G d w' v) → K (a.put o.dst v) w') → o.wp P a w K Q) : StepOk P ops W G o := by
  intro a w hb hl
  rw [if_pos (by simp [Region.wanted, hg])]
  exact h a w hb hl
theorem gd {a : Act} {t : Tmp} {v : Value} (h : a.tmps.getD t undef = v) : a.tmps[t]?.getD undef = v := by rw [← h, Array.getD_eq_getD_getElem?]
theorem put_defers (a : Act) (d : Option Tmp) (v : Value) : (a.put d v).defers = a.defers := by cases d <;> rfl
theorem put_size (a : Act) (d : Option Tmp) (v : Value) : (a.put d v).tmps.size = a.tmps.size := by cases d <;> simp [Act.put]
theorem put_same (a : Act) (d : Tmp) (v : Value) (h : d < a.tmps.size) : (a.put (some d) v).tmps.getD d undef = v := by simp [Act.put, h]
theorem put_other (a : Act) (d : Option Tmp) (v : Value) (t : Tmp) (h : d ≠ some t) : (a.put d v).tmps.getD t undef = a.tmps.getD t undef := by
  cases d with
  | none => rfl
  | some d =>
    have : d ≠ t := fun e => h (by rw [e])
    simp [Act.put, Array.getD_eq_getD_getElem?, Array.getElem?_setIfInBounds_ne this]
section
variable {P : Program} {ops : Array Oper} {W : World} {G : Tmp → World → Value → Prop} {a0 : Act} {Q : Exit → Act → World → Prop}
theorem wpAny_slots (hs : slotsOk ops a0.tmps.size = true) (hG : ∀ t w w' v, Below w.heap.size w w' → G t w v → G t w' v) (steps : ∀ o ∈ ops.toList, StepOk P ops W G o)
    (h : ∀ a w, Below W.heap.size W w → a.defers = a0.defers → a.tmps.size = a0.tmps.size → (∀ t, G t w (a.tmps.getD t undef)) → Q .normal a w) :
    ∀ (fuel : Nat) (listed : Array Bool) (a : Act) (w : World), Below W.heap.size W w → listed.size = ops.size → a.defers = a0.defers → a.tmps.size = a0.tmps.size →
      (∀ t, (∀ (k : Nat) (o : Oper), ops[k]? = some o → o.dst = some t → listed.getD k false = true) → G t w (a.tmps.getD t undef)) →
      unl listed.toList ≤ fuel → wpAny P .any ops Q fuel listed a w := by
  have hs' : ∀ (i : Nat) (o : Oper), ops[i]? = some o → (∀ e ∈ o.after, Region.binds .any e = true → e.on < i) ∧ (∀ d, o.dst = some d → d < a0.tmps.size) ∧
      ∀ (k : Nat) (p : Oper), ops[k]? = some p → ∀ d, p.dst = some d → (k = i ∨ o.dst ≠ some d) ∧ (d ∈ o.looksAt ops → ∃ e ∈ o.after, Region.binds .any e = true ∧ e.on = k) := by
    intro i o ho
    unfold slotsOk at hs
    rw [List.all_eq_true] at hs
    have h1 := hs (o, i) (by
      rw [List.mem_zipIdx_iff_getElem?]; simpa using ho)
    simp only [Bool.and_eq_true, List.all_eq_true] at h1
    obtain ⟨⟨h1, h2⟩, h3⟩ := h1
    refine ⟨fun e he hb => ?_, fun d hd => ?_, fun k p hp d hd => ?_⟩
    · have := h1 e (by simpa using he)
      simpa [hb] using this
    · rw [hd] at h2; simpa using h2
    · have := h3 (p, k) (by rw [List.mem_zipIdx_iff_getElem?]; simpa using hp)
      rw [hd] at this
      simp only [Bool.and_eq_true, Bool.or_eq_true, beq_iff_eq, bne_iff_ne, ne_eq, Bool.not_eq_true', List.any_eq_true] at this
      refine ⟨this.1, fun hl => ?_⟩
      rcases this.2 with h4 | ⟨e, he, h4⟩
      · have : (o.looksAt ops).contains d = true := by simpa using hl
        rw [this] at h4; cases h4
      · exact ⟨e, by simpa using he, h4.1, h4.2⟩
  have done : ∀ (listed : Array Bool) (a : Act) (w : World), Below W.heap.size W w → listed.size = ops.size → a.defers = a0.defers → a.tmps.size = a0.tmps.size →
      (∀ t, (∀ (k : Nat) (o : Oper), ops[k]? = some o → o.dst = some t → listed.getD k false = true) → G t w (a.tmps.getD t undef)) →
      Region.ready .any ops listed = [] → Q .normal a w := by
    intro listed a w hb hl hd hn hv hr
    have all : ∀ k, k < ops.size → listed.getD k false = true := by
      intro k
      induction k using Nat.strongRecOn with
      | _ k ih =>
        intro hk
        cases hlk : listed.getD k false with
        | true => rfl
        | false =>
          exfalso
          have : k ∈ Region.ready .any ops listed := mem_ready.2 ⟨by
            have hk' : k < listed.size := by omega
            simp [Array.getD, hk'] at hlk ⊢; exact hlk, ops[k], Array.getElem?_eq_getElem hk, fun e he hbe => by
              have hlt := (hs' k _ (Array.getElem?_eq_getElem hk)).1 e he hbe
              exact ih e.on hlt (by omega)⟩
          rw [hr] at this; cases this
    exact h a w hb hd hn fun t => hv t fun k o ho _ => all k (Array.getElem?_eq_some_iff.1 ho).1
  intro fuel
  induction fuel with
  | zero =>
    intro listed a w hb hl hd hn hv hu
    have hr : Region.ready .any ops listed = [] := by
      apply List.eq_nil_iff_forall_not_mem.2
      intro j hj
      obtain ⟨h1, o, ho, _⟩ := mem_ready.1 hj
      have hjl : j < listed.size := by have := (Array.getElem?_eq_some_iff.1 ho).1; omega
      refine unl_zero listed.toList (by omega) j ?_
      simp [Array.getD, hjl] at h1
      simp [hjl, h1]
    exact ⟨hr, done listed a w hb hl hd hn hv hr⟩
  | succ fuel ih =>
    intro listed a w hb hl hd hn hv hu
    refine ⟨done listed a w hb hl hd hn hv, fun i hi => ?_⟩
    obtain ⟨h1, o, ho, hdone⟩ := mem_ready.1 hi
    have hil : i < ops.size := (Array.getElem?_eq_some_iff.1 ho).1
    have hjl : i < listed.size := by omega
    obtain ⟨hlt, hdn, hother⟩ := hs' i o ho
    have hst := steps o (by simpa using Array.mem_of_getElem? ho) a w hb (fun t ht => hv t fun k p hp hdp => by
      obtain ⟨e, he, hbe, hek⟩ := (hother k p hp t hdp).2 ht
      have := hdone e he hbe
      rwa [hek] at this)
    have hli : listed.toList[i]? = some false := by
      simp [Array.getD, hjl] at h1
      simp [hjl, h1]
    have hun := unl_set listed.toList i hli
    have next : ∀ v w', Below w.heap.size w w' → (∀ d, o.dst = some d → G d w' v) → wpAny P .any ops Q fuel (listed.setIfInBounds i true) (a.put o.dst v) w' := by
      intro v w' hw' hv'
      refine ih _ _ _ (ext_step hb hb.size hw') (by simpa using hl) (by rw [put_defers, hd]) (by rw [put_size, hn]) (fun t ht => ?_) (by
        rw [Array.toList_setIfInBounds]; omega)
      by_cases hdt : o.dst = some t
      · rw [hdt, put_same _ _ _ (by rw [hn]; exact hdn t hdt)]
        exact hv' t hdt
      · rw [put_other _ _ _ _ hdt]
        refine hG t w w' _ hw' (hv t fun k p hp hdp => ?_)
        have hk := ht k p hp hdp
        by_cases hki : k = i
        · subst hki; rw [ho] at hp; injection hp with hp; subst hp; exact absurd hdp hdt
        · have : (listed.setIfInBounds i true).getD k false = listed.getD k false := by
            simp [Array.getD_eq_getD_getElem?, Array.getElem?_setIfInBounds_ne (Ne.symm hki)]
          rwa [this] at hk
    unfold wpOp
    rw [ho]
    dsimp only
    split
    · rename_i hw
      rw [if_pos hw] at hst
      exact .inl (hst _ _ fun v w' hw' hv' => next v w' hw' hv')
    · rename_i hw
      rw [if_neg hw] at hst
      exact next undef w (Below.refl _ _) hst
end
/-- What the slots hold: those that the region writes by the list, the others as before. -/
def Hold (a0 : Act) (L : List (Tmp × (World → Value → Prop))) (t : Tmp) (w : World) (v : Value) : Prop :=
  match L.find? (fun p => p.1 == t) with
  | some p => p.2 w v
  | none => v = a0.tmps.getD t undef
theorem wp_region_slots {P : Program} {id : Nat} {Q : Exit → Act → World → Prop} {a : Act} {W : World} {l : List Oper} (L : List (Tmp × (World → Value → Prop))) (hm : P.follows .mixedOrders = true)
    (hs : slotsOk l.toArray a.tmps.size = true) (hL : (l.all fun o => match o.dst with | some d => L.any fun p => p.1 == d | none => true) = true) (hL' : (L.all fun p => l.any fun o => o.dst == some p.1) = true)
    (hG : ∀ p ∈ L, ∀ w w' v, Below w.heap.size w w' → p.2 w v → p.2 w' v)
    (steps : ∀ o ∈ l, StepOk P l.toArray W (Hold a L) o)
    (h : ∀ a' w', Below W.heap.size W w' → a'.defers = a.defers → a'.tmps.size = a.tmps.size → (∀ t, Hold a L t w' (a'.tmps.getD t undef)) → Q .normal a' w') : (Code.region id l.toArray true).wp P Q a W := by
  refine wp_region_any hm (wpAny_slots (a0 := a) (G := Hold a L) hs ?_ (by simpa using steps) h _ _ _ _ (Below.refl _ _).drew (by simp) rfl rfl ?_ (by simp [unl_rep]))
  · intro t w w' v hb hv
    unfold Hold at *
    split at hv
    · rename_i p hp
      exact hG p (List.mem_of_find?_eq_some hp) w w' v hb hv
    · exact hv
  · intro t ht
    unfold Hold
    split
    · rename_i p hp
      exfalso
      have hmem := List.mem_of_find?_eq_some hp
      have hpt : p.1 = t := by simpa using List.find?_some hp
      rw [List.all_eq_true] at hL'
      have h2 := hL' p hmem
      rw [List.any_eq_true] at h2
      obtain ⟨o, ho, hd⟩ := h2
      obtain ⟨k, hk⟩ := List.getElem?_of_mem ho
      have := ht k o (by simpa using hk) (by rw [← hpt]; simpa using hd)
      simp [Array.getD] at this
    · rfl
end Go.Proofs.Ytkfekgmdjemkbaa
