/- A region that draws its order, proved by what its slots hold; some slots (OLD) are read before they are written (s = s + f()). -/
import Derived.Test.YtifbfmafogmemaaSlots3
namespace Go.Proofs.Ytifbfmafogmemaa
set_option linter.unusedSimpArgs false
set_option linter.unusedVariables false
open Go.RowKit Go.ChangeShapes Go.WideShapes
/-- Each slot is written once; an operation waits for the writers of the slots that it looks at; the writer of a slot of OLD waits for those that look at it. -/
def slotsOk2 (old : List Tmp) (ops : Array Oper) (n : Nat) : Bool :=
  ops.toList.zipIdx.all fun (o, i) =>
    o.after.toList.all (fun e => !Region.binds .any e || decide (e.on < i)) &&
    (match o.dst with | some d => decide (d < n) | none => true) &&
    ops.toList.zipIdx.all fun (p, k) =>
      match p.dst with
      | none => true
      | some d => (k == i || o.dst != some d) && (!(o.looksAt ops).contains d || (if old.contains d then p.after.toList.any fun e => Region.binds .any e && e.on == i else o.after.toList.any fun e => Region.binds .any e && e.on == k))
def StepOk2 (P : Program) (ops : Array Oper) (W : World) (old : List Tmp) (a0 : Act) (G : Tmp → World → Value → Prop) (o : Oper) : Prop :=
  ∀ a w, Below W.heap.size W w → (∀ t ∈ o.looksAt ops, if old.contains t = true then a.tmps.getD t undef = a0.tmps.getD t undef else G t w (a.tmps.getD t undef)) →
    if Region.wanted o (yielded ops a.tmps) = true then
      ∀ K Q, (∀ v w', Below w.heap.size w w' → (∀ d, o.dst = some d → G d w' v) → K (a.put o.dst v) w') → o.wp P a w K Q
    else ∀ d, o.dst = some d → G d w undef
theorem stepOk2_plain {P : Program} {ops : Array Oper} {W : World} {old : List Tmp} {a0 : Act} {G : Tmp → World → Value → Prop} {o : Oper} (hg : o.guard = none)
    (h : ∀ a w, Below W.heap.size W w → (∀ t ∈ o.looksAt ops, if old.contains t = true then a.tmps.getD t undef = a0.tmps.getD t undef else G t w (a.tmps.getD t undef)) → ∀ K Q, (∀ v w', Below w.heap.size w w' → (∀ d, o.dst = some d → G d w' v) → K (a.put o.dst v) w') → o.wp P a w K Q) : StepOk2 P ops W old a0 G o := by
  intro a w hb hl
  rw [if_pos (by simp [Region.wanted, hg])]
  exact h a w hb hl
section
variable {P : Program} {ops : Array Oper} {W : World} {old : List Tmp} {G : Tmp → World → Value → Prop} {a0 : Act} {Q : Exit → Act → World → Prop}
theorem wpAny_slots2 (hs : slotsOk2 old ops a0.tmps.size = true) (hG : ∀ t w w' v, Below w.heap.size w w' → G t w v → G t w' v) (steps : ∀ o ∈ ops.toList, StepOk2 P ops W old a0 G o)
    (h : ∀ a w, Below W.heap.size W w → a.defers = a0.defers → a.tmps.size = a0.tmps.size → (∀ t, G t w (a.tmps.getD t undef)) → Q .normal a w) :
    ∀ (fuel : Nat) (listed : Array Bool) (a : Act) (w : World), Below W.heap.size W w → listed.size = ops.size → a.defers = a0.defers → a.tmps.size = a0.tmps.size →
      (∀ t, (∀ (k : Nat) (o : Oper), ops[k]? = some o → o.dst = some t → listed.getD k false = true) → G t w (a.tmps.getD t undef)) →
      (∀ (k : Nat) (o : Oper), ops[k]? = some o → listed.getD k false = true → ∀ e ∈ o.after, Region.binds .any e = true → listed.getD e.on false = true) →
      (∀ t, (∀ (k : Nat) (o : Oper), ops[k]? = some o → o.dst = some t → listed.getD k false = false) → a.tmps.getD t undef = a0.tmps.getD t undef) →
      unl listed.toList ≤ fuel → wpAny P .any ops Q fuel listed a w := by
  have hs' : ∀ (i : Nat) (o : Oper), ops[i]? = some o → (∀ e ∈ o.after, Region.binds .any e = true → e.on < i) ∧ (∀ d, o.dst = some d → d < a0.tmps.size) ∧
      ∀ (k : Nat) (p : Oper), ops[k]? = some p → ∀ d, p.dst = some d → (k = i ∨ o.dst ≠ some d) ∧ (d ∈ o.looksAt ops → if old.contains d = true then ∃ e ∈ p.after, Region.binds .any e = true ∧ e.on = i else ∃ e ∈ o.after, Region.binds .any e = true ∧ e.on = k) := by
    intro i o ho
    unfold slotsOk2 at hs
    rw [List.all_eq_true] at hs
    have h1 := hs (o, i) (by
      rw [List.mem_zipIdx_iff_getElem?]; simpa using ho)
    simp only [Bool.and_eq_true, List.all_eq_true] at h1
    obtain ⟨⟨h1, h2⟩, h3⟩ := h1
    refine ⟨fun e he hb => ?_, fun d hd => ?_, fun k p hp d hd => ?_⟩
    · have := h1 e (by simpa using he)
      simpa [hb] using this
    · rw [hd] at h2; simpa using h2
    · have := h3 (p, k) (by rw [List.mem_zipIdx_iff_getElem?]; simpa using hp)
      rw [hd] at this
      simp only [Bool.and_eq_true, Bool.or_eq_true, beq_iff_eq, bne_iff_ne, ne_eq, Bool.not_eq_true'] at this
      refine ⟨this.1, fun hl => ?_⟩
      rcases this.2 with h4 | h4
      · have : (o.looksAt ops).contains d = true := by simpa using hl
        rw [this] at h4; cases h4
      · split at h4
        · rename_i ho'
          rw [if_pos ho']
          obtain ⟨e, he, h4⟩ := List.any_eq_true.1 h4
          simp only [Bool.and_eq_true, beq_iff_eq] at h4
          exact ⟨e, by simpa using he, h4.1, h4.2⟩
        · rename_i ho'
          rw [if_neg ho']
          obtain ⟨e, he, h4⟩ := List.any_eq_true.1 h4
          simp only [Bool.and_eq_true, beq_iff_eq] at h4
          exact ⟨e, by simpa using he, h4.1, h4.2⟩
  have done : ∀ (listed : Array Bool) (a : Act) (w : World), Below W.heap.size W w → listed.size = ops.size → a.defers = a0.defers → a.tmps.size = a0.tmps.size →
      (∀ t, (∀ (k : Nat) (o : Oper), ops[k]? = some o → o.dst = some t → listed.getD k false = true) → G t w (a.tmps.getD t undef)) →
      Region.ready .any ops listed = [] → Q .normal a w := by
    intro listed a w hb hl hd hn hv hr
    have all : ∀ k, k < ops.size → listed.getD k false = true := by
      intro k
      induction k using Nat.strongRecOn with
      | _ k ih =>
        intro hk
        cases hlk : listed.getD k false with
        | true => rfl
        | false =>
          exfalso
          have : k ∈ Region.ready .any ops listed := mem_ready.2 ⟨by
            have hk' : k < listed.size := by omega
            simp [Array.getD, hk'] at hlk ⊢; exact hlk, ops[k], Array.getElem?_eq_getElem hk, fun e he hbe => by
              have hlt := (hs' k _ (Array.getElem?_eq_getElem hk)).1 e he hbe
              exact ih e.on hlt (by omega)⟩
          rw [hr] at this; cases this
    exact h a w hb hd hn fun t => hv t fun k o ho _ => all k (Array.getElem?_eq_some_iff.1 ho).1
  intro fuel
  induction fuel with
  | zero =>
    intro listed a w hb hl hd hn hv hcl hol hu
    have hr : Region.ready .any ops listed = [] := by
      apply List.eq_nil_iff_forall_not_mem.2
      intro j hj
      obtain ⟨h1, o, ho, _⟩ := mem_ready.1 hj
      have hjl : j < listed.size := by have := (Array.getElem?_eq_some_iff.1 ho).1; omega
      refine unl_zero listed.toList (by omega) j ?_
      simp [Array.getD, hjl] at h1
      simp [hjl, h1]
    exact ⟨hr, done listed a w hb hl hd hn hv hr⟩
  | succ fuel ih =>
    intro listed a w hb hl hd hn hv hcl hol hu
    refine ⟨done listed a w hb hl hd hn hv, fun i hi => ?_⟩
    obtain ⟨h1, o, ho, hdone⟩ := mem_ready.1 hi
    have hil : i < ops.size := (Array.getElem?_eq_some_iff.1 ho).1
    have hjl : i < listed.size := by omega
    obtain ⟨hlt, hdn, hother⟩ := hs' i o ho
    have hst := steps o (by simpa using Array.mem_of_getElem? ho) a w hb (fun t ht => by
      by_cases hto : old.contains t = true
      · rw [if_pos hto]
        refine hol t fun k p hp hdp => ?_
        have h5 := (hother k p hp t hdp).2 ht
        rw [if_pos hto] at h5
        obtain ⟨e, he, hbe, hek⟩ := h5
        cases hk : listed.getD k false with
        | false => rfl
        | true =>
          have := hcl k p hp hk e he hbe
          have h1' : listed.getD i false = false := by
            simp [Array.getD, hjl] at h1 ⊢; exact h1
          rw [hek, h1'] at this; cases this
      · rw [if_neg hto]
        refine hv t fun k p hp hdp => ?_
        have h5 := (hother k p hp t hdp).2 ht
        rw [if_neg hto] at h5
        obtain ⟨e, he, hbe, hek⟩ := h5
        have := hdone e he hbe
        rwa [hek] at this)
    have hli : listed.toList[i]? = some false := by
      simp [Array.getD, hjl] at h1
      simp [hjl, h1]
    have hun := unl_set listed.toList i hli
    have next : ∀ v w', Below w.heap.size w w' → (∀ d, o.dst = some d → G d w' v) → wpAny P .any ops Q fuel (listed.setIfInBounds i true) (a.put o.dst v) w' := by
      intro v w' hw' hv'
      have hoth : ∀ k, k ≠ i → (listed.setIfInBounds i true).getD k false = listed.getD k false := fun k hki => by
        simp [Array.getD_eq_getD_getElem?, Array.getElem?_setIfInBounds_ne (Ne.symm hki)]
      have hsame : (listed.setIfInBounds i true).getD i false = true := by simp [Array.getD_eq_getD_getElem?, hjl]
      refine ih _ _ _ (ext_step hb hb.size hw') (by simpa using hl) (by rw [put_defers, hd]) (by rw [put_size, hn]) (fun t ht => ?_) (fun k p hp hk e he hbe => ?_) (fun t ht => ?_) (by
        rw [Array.toList_setIfInBounds]; omega)
      rotate_left
      · by_cases hei : e.on = i
        · rw [hei]; exact hsame
        · rw [hoth _ hei]
          by_cases hki : k = i
          · subst hki
            rw [ho] at hp; injection hp with hp; subst hp
            exact hdone e he hbe
          · rw [hoth _ hki] at hk
            exact hcl k p hp hk e he hbe
      · by_cases hdt : o.dst = some t
        · have := ht i o ho hdt
          rw [hsame] at this; cases this
        · rw [put_other _ _ _ _ hdt]
          refine hol t fun k p hp hdp => ?_
          have hki : k ≠ i := fun e => by
            subst e; rw [ho] at hp; injection hp with hp; subst hp; exact hdt hdp
          rw [← hoth k hki]; exact ht k p hp hdp
      by_cases hdt : o.dst = some t
      · rw [hdt, put_same _ _ _ (by rw [hn]; exact hdn t hdt)]
        exact hv' t hdt
      · rw [put_other _ _ _ _ hdt]
        refine hG t w w' _ hw' (hv t fun k p hp hdp => ?_)
        have hk := ht k p hp hdp
        by_cases hki : k = i
        · subst hki; rw [ho] at hp; injection hp with hp; subst hp; exact absurd hdp hdt
        · have : (listed.setIfInBounds i true).getD k false = listed.getD k false := by
            simp [Array.getD_eq_getD_getElem?, Array.getElem?_setIfInBounds_ne (Ne.symm hki)]
          rwa [this] at hk
    unfold wpOp
    rw [ho]
    dsimp only
    split
    · rename_i hw
      rw [if_pos hw] at hst
      exact .inl (hst _ _ fun v w' hw' hv' => next v w' hw' hv')
    · rename_i hw
      rw [if_neg hw] at hst
      exact next undef w (Below.refl _ _) hst
end
theorem wp_region_slots2 {P : Program} {id : Nat} {Q : Exit → Act → World → Prop} {a : Act} {W : World} {l : List Oper} (old : List Tmp) (L : List (Tmp × (World → Value → Prop))) (hm : P.follows .mixedOrders = true)
    (hs : slotsOk2 old l.toArray a.tmps.size = true) (hL : (l.all fun o => match o.dst with | some d => L.any fun p => p.1 == d | none => true) = true) (hL' : (L.all fun p => l.any fun o => o.dst == some p.1) = true)
    (hG : ∀ p ∈ L, ∀ w w' v, Below w.heap.size w w' → p.2 w v → p.2 w' v)
    (steps : ∀ o ∈ l, StepOk2 P l.toArray W old a (Hold a L) o)
    (h : ∀ a' w', Below W.heap.size W w' → a'.defers = a.defers → a'.tmps.size = a.tmps.size → (∀ t, Hold a L t w' (a'.tmps.getD t undef)) → Q .normal a' w') : (Code.region id l.toArray true).wp P Q a W := by
  refine wp_region_any hm (wpAny_slots2 (a0 := a) (G := Hold a L) hs ?_ (by simpa using steps) h _ _ _ _ (Below.refl _ _).drew (by simp) rfl rfl ?_ ?_ ?_ (by simp [unl_rep]))
  · intro t w w' v hb hv
    unfold Hold at *
    split at hv
    · rename_i p hp
      exact hG p (List.mem_of_find?_eq_some hp) w w' v hb hv
    · exact hv
  · intro t ht
    unfold Hold
    split
    · rename_i p hp
      exfalso
      have hmem := List.mem_of_find?_eq_some hp
      have hpt : p.1 = t := by simpa using List.find?_some hp
      rw [List.all_eq_true] at hL'
      have h2 := hL' p hmem
      rw [List.any_eq_true] at h2
      obtain ⟨o, ho, hd⟩ := h2
      obtain ⟨k, hk⟩ := List.getElem?_of_mem ho
      have := ht k o (by simpa using hk) (by rw [← hpt]; simpa using hd)
      simp [Array.getD] at this
    · rfl
  · intro k o ho hk
    simp [Array.getD] at hk
  · intro t _; rfl
theorem wp_region_slotsP {P : Program} {id : Nat} {Q : Exit → Act → World → Prop} {a : Act} {W : World} {l : List Oper} (old : List Tmp) (L : List (Tmp × (World → Value → Prop))) (hm : P.follows .mixedOrders = true)
    (hs : slotsOk2 old l.toArray a.tmps.size = true) (hL : (l.all fun o => match o.dst with | some d => L.any fun p => p.1 == d | none => true) = true) (hL' : (L.all fun p => l.any fun o => o.dst == some p.1) = true) (hnd : nodupB (L.map (·.1)) = true)
    (hG : ∀ p ∈ L, ∀ w w' v, Below w.heap.size w w' → p.2 w v → p.2 w' v)
    (steps : ∀ o ∈ l, StepOk2 P l.toArray W old a (Hold a L) o)
    (h : ∀ (x : Tmp → Value) w', Below W.heap.size W w' → (∀ p ∈ L, p.2 w' (x p.1)) → Q .normal (putAll a x (L.map (·.1))) w') : (Code.region id l.toArray true).wp P Q a W := by
  refine wp_region_slots2 old L hm hs hL hL' hG steps ?_
  intro a' w' hb hd hn hv
  have he := act_eq (a := a) (a' := a') (ts := L.map (·.1)) hd hn (fun t ht => hold_out ht (hv t))
  rw [he]
  exact h _ w' hb (fun p hp => hold_in (nodupB_t hnd) hp (hv p.1))
end Go.Proofs.Ytifbfmafogmemaa
