/- A region that draws its order, proved by what its slots hold and what its stores leave: each operation once, whatever the order. -/
import Derived.Test.YtkfekgmdjemkbaaSlots
import Derived.Test.YtkfekgmdjemkbaaRows2
import Derived.Deep.DrawnRows
namespace Go.Proofs.Ytkfekgmdjemkbaa
set_option linter.unusedSimpArgs false
set_option linter.unusedVariables false
open Go.RowKit Go.ChangeShapes Go.WideShapes
/-- A store of a region: its place i among the operations, a slot that it looks at, what holds ahead of it, what it leaves. -/
structure Sto where
  i : Nat
  p : Tmp
  pre : World → Prop
  post : World → Value → Prop
def waitsOn (ops : Array Oper) (j i : Nat) : Bool := match ops[j]? with
  | some o => o.after.any fun e => Region.binds .any e && e.on == i
  | none => false
def stosOk (ops : Array Oper) (SL : List (Nat × Tmp)) : Bool := SL.all fun s => match ops[s.1]? with
  | some o => (o.looksAt ops).contains s.2 && ops.any fun p => p.dst == some s.2
  | none => false
def StepS (P : Program) (ops : Array Oper) (B : Nat) (W : World) (G : Tmp → World → Value → Prop) (SL : List Sto) (J : World → Prop) (i : Nat) (o : Oper) : Prop :=
  ∀ a w, Below B W w → W.heap.size ≤ w.heap.size → J w → (∀ t, (o.looksAt ops).contains t = true → G t w (a.tmps.getD t undef)) → (∀ s ∈ SL, (waitsOn ops s.i i || s.i == i) = true → s.pre w) →
    if Region.wanted o (yielded ops a.tmps) = true then
      ∀ K Q, (∀ v w', Below B W w' → w.heap.size ≤ w'.heap.size → (∀ t u, G t w u → G t w' u) → (∀ s ∈ SL, s.i ≠ i → (s.pre w → s.pre w') ∧ ∀ u, s.post w u → s.post w' u) → (∀ d, o.dst = some d → G d w' v) → (∀ s ∈ SL, s.i = i → s.post w' (a.tmps.getD s.p undef)) → J w' → K (a.put o.dst v) w') → o.wp P a w K Q
    else (∀ d, o.dst = some d → G d w undef) ∧ ∀ s ∈ SL, s.i ≠ i
def allStep (P : Program) (ops : Array Oper) (B : Nat) (W : World) (G : Tmp → World → Value → Prop) (SL : List Sto) (J : World → Prop) : Nat → List Oper → Prop
  | _, [] => True
  | i, o :: l => StepS P ops B W G SL J i o ∧ allStep P ops B W G SL J (i + 1) l
section
variable {P : Program} {ops : Array Oper} {B : Nat} {W : World} {G : Tmp → World → Value → Prop} {SL : List Sto} {J : World → Prop} {a0 : Act} {Q : Exit → Act → World → Prop}
theorem allStep_at : ∀ (l : List Oper) (k : Nat), allStep P ops B W G SL J k l → ∀ (i : Nat) (o : Oper), l[i]? = some o → StepS P ops B W G SL J (k + i) o
  | [], _, _, i, o, h => by simp at h
  | o' :: l, k, h, 0, o, ho => by simp at ho; subst ho; exact h.1
  | o' :: l, k, h, i + 1, o, ho => by
    have := allStep_at l (k + 1) h.2 i o (by simpa using ho)
    rwa [show k + (i + 1) = k + 1 + i by omega]
theorem stepS_plain {i : Nat} {o : Oper} (hG : ∀ t w w' v, Below w.heap.size w w' → G t w v → G t w' v) (hS : ∀ s ∈ SL, ∀ w w', Below w.heap.size w w' → (s.pre w → s.pre w') ∧ ∀ u, s.post w u → s.post w' u) (hB : B ≤ W.heap.size) (hJ : ∀ w w', Below w.heap.size w w' → J w → J w')
    (hi : (SL.all fun s => s.i != i) = true) (hg : o.guard = none)
    (h : ∀ a w, Below B W w → W.heap.size ≤ w.heap.size → J w → (∀ t, (o.looksAt ops).contains t = true → G t w (a.tmps.getD t undef)) → (∀ s ∈ SL, (waitsOn ops s.i i || s.i == i) = true → s.pre w) →
      ∀ K Q, (∀ v w', Below w.heap.size w w' → (∀ d, o.dst = some d → G d w' v) → K (a.put o.dst v) w') → o.wp P a w K Q) : StepS P ops B W G SL J i o := by
  intro a w hb hz hj hl hp
  rw [if_pos (by simp [Region.wanted, hg])]
  intro K Q hK
  refine h a w hb hz hj hl hp K Q fun v w' hb' hd => hK v w' (ext_step hb (by omega) hb') hb'.size (fun t u => hG t w w' u hb') (fun s hs _ => hS s hs w w' hb') hd (fun s hs he => ?_) (hJ w w' hb' hj)
  rw [List.all_eq_true] at hi
  have := hi s hs
  simp [he] at this
theorem wpAny_slotsS (hB : B ≤ W.heap.size) (hs : slotsOk ops a0.tmps.size = true) (hso : stosOk ops (SL.map fun s => (s.i, s.p)) = true) (steps : allStep P ops B W G SL J 0 ops.toList)
    (h : ∀ a w, Below B W w → W.heap.size ≤ w.heap.size → J w → a.defers = a0.defers → a.tmps.size = a0.tmps.size → (∀ t, G t w (a.tmps.getD t undef)) → (∀ s ∈ SL, s.post w (a.tmps.getD s.p undef)) → Q .normal a w) :
    ∀ (fuel : Nat) (listed : Array Bool) (a : Act) (w : World), Below B W w → W.heap.size ≤ w.heap.size → J w → listed.size = ops.size → (∀ (i : Nat) (o : Oper), ops[i]? = some o → listed.getD i false = true → ∀ e ∈ o.after, Region.binds .any e = true → listed.getD e.on false = true) →
      a.defers = a0.defers → a.tmps.size = a0.tmps.size →
      (∀ t, (∀ (k : Nat) (o : Oper), ops[k]? = some o → o.dst = some t → listed.getD k false = true) → G t w (a.tmps.getD t undef)) →
      (∀ s ∈ SL, listed.getD s.i false = true → s.post w (a.tmps.getD s.p undef)) → (∀ s ∈ SL, listed.getD s.i false = false → s.pre w) →
      unl listed.toList ≤ fuel → wpAny P .any ops Q fuel listed a w := by
  have hs' : ∀ (i : Nat) (o : Oper), ops[i]? = some o → (∀ e ∈ o.after, Region.binds .any e = true → e.on < i) ∧ (∀ d, o.dst = some d → d < a0.tmps.size) ∧
      ∀ (k : Nat) (p : Oper), ops[k]? = some p → ∀ d, p.dst = some d → (k = i ∨ o.dst ≠ some d) ∧ (d ∈ o.looksAt ops → ∃ e ∈ o.after, Region.binds .any e = true ∧ e.on = k) := by
    intro i o ho
    unfold slotsOk at hs
    rw [List.all_eq_true] at hs
    have h1 := hs (o, i) (by
      rw [List.mem_zipIdx_iff_getElem?]; simpa using ho)
    simp only [Bool.and_eq_true, List.all_eq_true] at h1
    obtain ⟨⟨h1, h2⟩, h3⟩ := h1
    refine ⟨fun e he hb => ?_, fun d hd => ?_, fun k p hp d hd => ?_⟩
    · have := h1 e (by simpa using he)
      simpa [hb] using this
    · rw [hd] at h2; simpa using h2
    · have := h3 (p, k) (by rw [List.mem_zipIdx_iff_getElem?]; simpa using hp)
      rw [hd] at this
      simp only [Bool.and_eq_true, Bool.or_eq_true, beq_iff_eq, bne_iff_ne, ne_eq, Bool.not_eq_true', List.any_eq_true] at this
      refine ⟨this.1, fun hl => ?_⟩
      rcases this.2 with h4 | ⟨e, he, h4⟩
      · have : (o.looksAt ops).contains d = true := by simpa using hl
        rw [this] at h4; cases h4
      · exact ⟨e, by simpa using he, h4.1, h4.2⟩
  -- a store's slot is written by an operation that the store waits for
  have hso' : ∀ s ∈ SL, ∃ o, ops[s.i]? = some o ∧ ∃ (k : Nat) (p : Oper), ops[k]? = some p ∧ p.dst = some s.p ∧ ∃ e ∈ o.after, Region.binds .any e = true ∧ e.on = k := by
    intro s hsl
    unfold stosOk at hso
    rw [List.all_eq_true] at hso
    have h1 := hso (s.i, s.p) (List.mem_map.2 ⟨s, hsl, rfl⟩)
    dsimp only at h1
    split at h1
    · rename_i o ho
      rw [Bool.and_eq_true] at h1
      obtain ⟨h1, h2⟩ := h1
      obtain ⟨p, hpm, hpd⟩ := Array.any_eq_true'.1 h2
      obtain ⟨k, hk⟩ := Array.getElem?_of_mem hpm
      have hpd : p.dst = some s.p := by simpa using hpd
      refine ⟨o, ho, k, p, hk, hpd, ((hs' s.i o ho).2.2 k p hk s.p hpd).2 (by simpa using h1)⟩
    · cases h1
  have done : ∀ (listed : Array Bool) (a : Act) (w : World), Below B W w → W.heap.size ≤ w.heap.size → J w → listed.size = ops.size → a.defers = a0.defers → a.tmps.size = a0.tmps.size →
      (∀ t, (∀ (k : Nat) (o : Oper), ops[k]? = some o → o.dst = some t → listed.getD k false = true) → G t w (a.tmps.getD t undef)) →
      (∀ s ∈ SL, listed.getD s.i false = true → s.post w (a.tmps.getD s.p undef)) →
      Region.ready .any ops listed = [] → Q .normal a w := by
    intro listed a w hb hz hj hl hd hn hv hv2 hr
    have all : ∀ k, k < ops.size → listed.getD k false = true := by
      intro k
      induction k using Nat.strongRecOn with
      | _ k ih =>
        intro hk
        cases hlk : listed.getD k false with
        | true => rfl
        | false =>
          exfalso
          have : k ∈ Region.ready .any ops listed := mem_ready.2 ⟨by
            have hk' : k < listed.size := by omega
            simp [Array.getD, hk'] at hlk ⊢; exact hlk, ops[k], Array.getElem?_eq_getElem hk, fun e he hbe => by
              have hlt := (hs' k _ (Array.getElem?_eq_getElem hk)).1 e he hbe
              exact ih e.on hlt (by omega)⟩
          rw [hr] at this; cases this
    exact h a w hb hz hj hd hn (fun t => hv t fun k o ho _ => all k (Array.getElem?_eq_some_iff.1 ho).1) fun s hsl => by
      obtain ⟨o, ho, _⟩ := hso' s hsl
      exact hv2 s hsl (all _ (Array.getElem?_eq_some_iff.1 ho).1)
  intro fuel
  induction fuel with
  | zero =>
    intro listed a w hb hz hj hl hcl hd hn hv hv2 hv3 hu
    have hr : Region.ready .any ops listed = [] := by
      apply List.eq_nil_iff_forall_not_mem.2
      intro j hj
      obtain ⟨h1, o, ho, _⟩ := mem_ready.1 hj
      have hjl : j < listed.size := by have := (Array.getElem?_eq_some_iff.1 ho).1; omega
      refine unl_zero listed.toList (by omega) j ?_
      simp [Array.getD, hjl] at h1
      simp [hjl, h1]
    exact ⟨hr, done listed a w hb hz hj hl hd hn hv hv2 hr⟩
  | succ fuel ih =>
    intro listed a w hb hz hj hl hcl hd hn hv hv2 hv3 hu
    refine ⟨done listed a w hb hz hj hl hd hn hv hv2, fun i hi => ?_⟩
    obtain ⟨h1, o, ho, hdone⟩ := mem_ready.1 hi
    have hil : i < ops.size := (Array.getElem?_eq_some_iff.1 ho).1
    have hjl : i < listed.size := by omega
    obtain ⟨hlt, hdn, hother⟩ := hs' i o ho
    have hif : listed.getD i false = false := by
      simp [Array.getD, hjl] at h1 ⊢; exact h1
    have hst := allStep_at ops.toList 0 steps i o (by simpa using ho) a w hb hz hj (fun t ht => hv t fun k p hp hdp => by
      obtain ⟨e, he, hbe, hek⟩ := (hother k p hp t hdp).2 (by simpa using ht)
      have := hdone e he hbe
      rwa [hek] at this) (fun s hsl hw => hv3 s hsl (by
        rw [Nat.zero_add] at hw
        rw [Bool.or_eq_true] at hw
        rcases hw with hw | hw
        · cases hls : listed.getD s.i false with
          | false => rfl
          | true =>
            exfalso
            unfold waitsOn at hw
            split at hw
            · rename_i so hso2
              obtain ⟨e, he, h3⟩ := Array.any_eq_true'.1 hw
              simp only [Bool.and_eq_true, beq_iff_eq] at h3
              have := hcl s.i so hso2 hls e he h3.1
              rw [h3.2, hif] at this; cases this
            · cases hw
        · have : s.i = i := by simpa using hw
          rw [this]; exact hif))
    have hli : listed.toList[i]? = some false := by
      simp [Array.getD, hjl] at h1
      simp [hjl, h1]
    have hun := unl_set listed.toList i hli
    have hset : ∀ k, k ≠ i → (listed.setIfInBounds i true).getD k false = listed.getD k false := fun k hki => by
      simp [Array.getD_eq_getD_getElem?, Array.getElem?_setIfInBounds_ne (Ne.symm hki)]
    have hsi : (listed.setIfInBounds i true).getD i false = true := by simp [hjl]
    have hmono : ∀ k, listed.getD k false = true → (listed.setIfInBounds i true).getD k false = true := fun k hk => by
      by_cases hki : k = i
      · rw [hki]; exact hsi
      · rw [hset k hki]; exact hk
    have next : ∀ v w', Below B W w' → w.heap.size ≤ w'.heap.size → (∀ t u, G t w u → G t w' u) → (∀ s ∈ SL, s.i ≠ i → (s.pre w → s.pre w') ∧ ∀ u, s.post w u → s.post w' u) → (∀ d, o.dst = some d → G d w' v) → (∀ s ∈ SL, s.i = i → s.post w' (a.tmps.getD s.p undef)) → J w' → wpAny P .any ops Q fuel (listed.setIfInBounds i true) (a.put o.dst v) w' := by
      intro v w' hw' hz' hg' hk' hv' hp' hj'
      refine ih _ _ _ hw' (by omega) hj' (by simpa using hl) (fun j oj hj hlj e he hbe => ?_) (by rw [put_defers, hd]) (by rw [put_size, hn]) (fun t ht => ?_) (fun s hsl hls => ?_) (fun s hsl hls => ?_) (by
        rw [Array.toList_setIfInBounds]; omega)
      · by_cases hji : j = i
        · subst hji
          rw [ho] at hj; injection hj with hj; subst hj
          exact hmono _ (hdone e he hbe)
        · rw [hset j hji] at hlj
          exact hmono _ (hcl j oj hj hlj e he hbe)
      · by_cases hdt : o.dst = some t
        · rw [hdt, put_same _ _ _ (by rw [hn]; exact hdn t hdt)]
          exact hv' t hdt
        · rw [put_other _ _ _ _ hdt]
          refine hg' t _ (hv t fun k p hp hdp => ?_)
          have hk := ht k p hp hdp
          by_cases hki : k = i
          · subst hki; rw [ho] at hp; injection hp with hp; subst hp; exact absurd hdp hdt
          · rwa [hset k hki] at hk
      · -- the store's slot is not written by this operation
        obtain ⟨so, hso1, k, p, hkp, hpd, e, he, hbe, hek⟩ := hso' s hsl
        have hne : o.dst ≠ some s.p := by
          intro hod
          rcases ((hother k p hkp s.p hpd).1) with hki | hne
          · by_cases hsi2 : s.i = i
            · rw [hsi2] at hso1
              have := (hs' i so hso1).1 e he hbe
              omega
            · rw [hset _ hsi2] at hls
              have := hcl s.i so hso1 hls e he hbe
              rw [hek, hki, hif] at this; cases this
          · exact hne hod
        rw [put_other _ _ _ _ hne]
        by_cases hsi2 : s.i = i
        · exact hp' s hsl hsi2
        · rw [hset _ hsi2] at hls
          exact (hk' s hsl hsi2).2 _ (hv2 s hsl hls)
      · by_cases hsi2 : s.i = i
        · rw [hsi2, hsi] at hls; cases hls
        · rw [hset _ hsi2] at hls
          exact (hk' s hsl hsi2).1 (hv3 s hsl hls)
    rw [Nat.zero_add] at hst
    unfold wpOp
    rw [ho]
    dsimp only
    split
    · rename_i hw
      rw [if_pos hw] at hst
      exact .inl (hst _ _ fun v w' hw' hz' hg' hk' hv' hp' hj' => next v w' hw' hz' hg' hk' hv' hp' hj')
    · rename_i hw
      rw [if_neg hw] at hst
      exact next undef w hb (Nat.le_refl _) (fun _ _ h => h) (fun _ _ _ => ⟨id, fun _ => id⟩) hst.1 (fun s hsl he => absurd he (hst.2 s hsl)) hj
end
/-- The slots of a list are written. -/
def putAll (a : Act) (x : Tmp → Value) : List Tmp → Act
  | [] => a
  | t :: ts => putAll (a.put (some t) (x t)) x ts
theorem putAll_defers (x : Tmp → Value) : ∀ (ts : List Tmp) (a : Act), (putAll a x ts).defers = a.defers
  | [], _ => rfl
  | t :: ts, a => by rw [putAll, putAll_defers x ts, put_defers]
theorem putAll_size (x : Tmp → Value) : ∀ (ts : List Tmp) (a : Act), (putAll a x ts).tmps.size = a.tmps.size
  | [], _ => rfl
  | t :: ts, a => by rw [putAll, putAll_size x ts, put_size]
theorem putAll_get (x : Tmp → Value) : ∀ (ts : List Tmp) (a : Act) (t : Tmp), t < a.tmps.size → (putAll a x ts).tmps.getD t undef = if t ∈ ts then x t else a.tmps.getD t undef
  | [], a, t, _ => by simp [putAll]
  | d :: ts, a, t, ht => by
    rw [putAll, putAll_get x ts _ t (by rw [put_size]; exact ht)]
    by_cases h1 : t ∈ ts
    · rw [if_pos h1, if_pos (by simp [h1])]
    · rw [if_neg h1]
      by_cases h2 : t = d
      · subst h2; rw [put_same _ _ _ ht, if_pos (by simp)]
      · rw [put_other _ _ _ _ (by simpa using Ne.symm h2), if_neg (by simp [h1, h2])]
theorem act_ext {a b : Act} (h1 : a.tmps = b.tmps) (h2 : a.defers = b.defers) : a = b := by
  cases a; cases b; simp_all
theorem arr_ext {x y : Array Value} (hs : x.size = y.size) (h : ∀ i, i < x.size → x.getD i undef = y.getD i undef) : x = y := by
  apply Array.ext hs
  intro i h1 h2
  have h3 := h i h1
  rw [Array.getD_eq_getD_getElem?, Array.getD_eq_getD_getElem?, Array.getElem?_eq_getElem h1, Array.getElem?_eq_getElem h2] at h3
  exact h3
theorem act_eq {a a' : Act} {ts : List Tmp} (hd : a'.defers = a.defers) (hn : a'.tmps.size = a.tmps.size) (h : ∀ t, t ∉ ts → a'.tmps.getD t undef = a.tmps.getD t undef) :
    a' = putAll a (fun t => a'.tmps.getD t undef) ts := by
  refine act_ext (arr_ext (by rw [putAll_size, hn]) fun i hi => ?_) (by rw [putAll_defers, hd])
  rw [putAll_get _ ts a i (by rw [← hn]; exact hi)]
  by_cases hni : i ∈ ts
  · rw [if_pos hni]
  · rw [if_neg hni]; exact h i hni
def nodupB : List Tmp → Bool
  | [] => true
  | a :: l => !(l.any fun b => b == a) && nodupB l
theorem nodupB_t : ∀ {l : List Tmp}, nodupB l = true → l.Nodup
  | [], _ => List.nodup_nil
  | a :: l, h => by
    rw [nodupB, Bool.and_eq_true] at h
    refine List.nodup_cons.2 ⟨fun hm => ?_, nodupB_t h.2⟩
    have : (l.any fun b => b == a) = true := List.any_eq_true.2 ⟨a, hm, by simp⟩
    rw [this] at h; cases h.1
theorem hold_in {a : Act} {L : List (Tmp × (World → Value → Prop))} (hnd : (L.map (·.1)).Nodup) {p : Tmp × (World → Value → Prop)} (hp : p ∈ L) {w : World} {v : Value} (h : Hold a L p.1 w v) : p.2 w v := by
  induction L with
  | nil => cases hp
  | cons q L ih =>
    unfold Hold at h
    simp only [List.find?_cons] at h
    rw [List.map_cons, List.nodup_cons] at hnd
    rcases List.mem_cons.1 hp with rfl | hp
    · simpa using h
    · have hne : (q.1 == p.1) = false := by
        simp; intro e; exact hnd.1 (e ▸ List.mem_map.2 ⟨p, hp, rfl⟩)
      rw [hne] at h
      exact ih hnd.2 hp h
theorem hold_out {a : Act} {L : List (Tmp × (World → Value → Prop))} {t : Tmp} (ht : t ∉ L.map (·.1)) {w : World} {v : Value} (h : Hold a L t w v) : v = a.tmps.getD t undef := by
  unfold Hold at h
  split at h
  · rename_i p hp
    exfalso
    have h1 := List.mem_of_find?_eq_some hp
    have h2 : p.1 = t := by simpa using List.find?_some hp
    exact ht (h2 ▸ List.mem_map.2 ⟨p, h1, rfl⟩)
  · exact h
theorem wp_region_slotsS {P : Program} {id : Nat} {Q : Exit → Act → World → Prop} {a : Act} {W : World} {l : List Oper} (B : Nat) (L : List (Tmp × (World → Value → Prop))) (SL : List Sto) (J : World → Prop) (hm : P.follows .mixedOrders = true)
    (hB : B ≤ W.heap.size) (hs : slotsOk l.toArray a.tmps.size = true) (hL' : (L.all fun p => l.any fun o => o.dst == some p.1) = true) (hnd : nodupB (L.map (·.1)) = true)
    (hso : stosOk l.toArray (SL.map fun s => (s.i, s.p)) = true)
    (hG : ∀ p ∈ L, ∀ w w' v, Below w.heap.size w w' → p.2 w v → p.2 w' v)
    (hS : ∀ s ∈ SL, ∀ w w', Below w.heap.size w w' → (s.pre w → s.pre w') ∧ ∀ u, s.post w u → s.post w' u)
    (hpre : ∀ s ∈ SL, s.pre W) (hJ0 : J W) (hJ : ∀ w w', Below w.heap.size w w' → J w → J w')
    (steps : (∀ t w w' v, Below w.heap.size w w' → Hold a L t w v → Hold a L t w' v) → (∀ s ∈ SL, ∀ w w', Below w.heap.size w w' → (s.pre w → s.pre w') ∧ ∀ u, s.post w u → s.post w' u) → (∀ w w', Below w.heap.size w w' → J w → J w') → allStep P l.toArray B W (Hold a L) SL J 0 l)
    (h : ∀ (x : Tmp → Value) w', Below B W w' → W.heap.size ≤ w'.heap.size → J w' → (∀ p ∈ L, p.2 w' (x p.1)) → (∀ s ∈ SL, s.post w' (x s.p)) → Q .normal (putAll a x (L.map (·.1))) w') : (Code.region id l.toArray true).wp P Q a W := by
  have hG' : ∀ t w w' v, Below w.heap.size w w' → Hold a L t w v → Hold a L t w' v := by
    intro t w w' v hb hv
    unfold Hold at *
    split at hv
    · rename_i p hp
      exact hG p (List.mem_of_find?_eq_some hp) w w' v hb hv
    · exact hv
  refine wp_region_any hm (wpAny_slotsS (a0 := a) (G := Hold a L) (SL := SL) (J := J) hB hs hso (by simpa using steps hG' hS hJ) ?_ _ _ _ _ ((Below.refl _ _).drew.mono hB) (Nat.le_refl _) (hJ W W.drew ((Below.refl _ _).drew) hJ0) (by simp) ?_ rfl rfl ?_ ?_ ?_ (by simp [unl_rep]))
  · intro a' w' hb hz hj hd hn hv hp
    have he := act_eq (a := a) (a' := a') (ts := L.map (·.1)) hd hn (fun t ht => hold_out ht (hv t))
    rw [he]
    refine h _ w' hb hz hj (fun p hp => hold_in (nodupB_t hnd) hp (hv p.1)) hp
  · intro i o ho hli
    simp [Array.getD] at hli
  · intro t ht
    unfold Hold
    split
    · rename_i p hp
      exfalso
      have hmem := List.mem_of_find?_eq_some hp
      have hpt : p.1 = t := by simpa using List.find?_some hp
      rw [List.all_eq_true] at hL'
      have h2 := hL' p hmem
      rw [List.any_eq_true] at h2
      obtain ⟨o, ho, hd⟩ := h2
      obtain ⟨k, hk⟩ := List.getElem?_of_mem ho
      have := ht k o (by simpa using hk) (by rw [← hpt]; simpa using hd)
      simp [Array.getD] at this
    · rfl
  · intro s hs hl
    simp [Array.getD] at hl
  · intro s hs _
    exact ((hS s hs W W.drew ((Below.refl _ _).drew)).1 (hpre s hs))
end Go.Proofs.Ytkfekgmdjemkbaa
