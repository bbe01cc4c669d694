/- What a region's slots may hold: rows of the call's own, boxes for results; what a store into a box leaves alone. -/
import Derived.Test.YtkfekgmdjemkbaaSlots3
namespace Go.Proofs.Ytkfekgmdjemkbaa
set_option linter.unusedSimpArgs false
set_option linter.unusedVariables false
open Go.RowKit Go.ChangeShapes Go.WideShapes
/-- The world w' is w but for the contents of blocks of type T from B on. -/
structure Chg (B : Nat) (T : TypeId) (w w' : World) : Prop where
  os : w'.os = w.os
  tape : w'.tape = w.tape
  output : w'.output = w.output
  size : w'.heap.size = w.heap.size
  low : ∀ k, k < B → w'.heap[k]? = w.heap[k]?
  other : ∀ (k : Nat) (cs : List Value) (E : TypeId), E ≠ T → Blk w k E cs → Blk w' k E cs
  same : ∀ (k : Nat) (cs : List Value), Blk w k T cs → ∃ cs', cs'.length = cs.length ∧ Blk w' k T cs'
section
variable {B B2 : Nat} {T E : TypeId} {w w' w'' : World}
theorem Chg.refl (B : Nat) (T : TypeId) (w : World) : Chg B T w w := ⟨rfl, rfl, rfl, rfl, fun _ _ => rfl, fun _ _ _ _ h => h, fun _ cs h => ⟨cs, rfl, h⟩⟩
theorem Chg.set (h : Chg B T w w') {b : Nat} {cs : List Value} (hb : Blk w' b T cs) (hB : B ≤ b) (j : Nat) (u : Value) : Chg B T w (w'.setCell ⟨b, j, none⟩ u) :=
  ⟨h.os, h.tape, h.output, by simpa [World.setCell] using h.size, fun k hk => (Below.heap_setCell w' ⟨b, j, none⟩ u k (by show k ≠ b; omega)).trans (h.low k hk),
    fun k ds E hE hk => by
      have hk' := h.other k ds E hE hk
      have hne : b ≠ k := by
        intro e; subst e
        unfold Blk at hb hk'
        rw [hb] at hk'
        injection hk' with h1; injection h1 with _ h2
        exact hE h2.symm
      exact (Below.heap_setCell w' ⟨b, j, none⟩ u k (Ne.symm hne)).trans hk',
    fun k ds hk => by
      obtain ⟨ds', hl, hk'⟩ := h.same k ds hk
      by_cases hne : b = k
      · subst hne
        exact ⟨ds'.set j u, by rw [List.length_set, hl], hk'.set_ j u⟩
      · exact ⟨ds', hl, (Below.heap_setCell w' ⟨b, j, none⟩ u k (Ne.symm hne)).trans hk'⟩⟩
theorem Chg.below {a : World} (h : Chg B T w w') (hb : Below B a w) : Below B a w' :=
  ⟨h.os.trans hb.os, h.tape.trans hb.tape, h.output.trans hb.output, by rw [h.size]; exact hb.size, fun k hk => (h.low k hk).trans (hb.block k hk)⟩
theorem Chg.below' {a : World} (h : Chg B T w w') (hB : B2 ≤ B) (hb : Below B2 a w) : Below B2 a w' :=
  ⟨h.os.trans hb.os, h.tape.trans hb.tape, h.output.trans hb.output, by rw [h.size]; exact hb.size, fun k hk => (h.low k (by omega)).trans (hb.block k hk)⟩
theorem own_chg {base size n : Nat} {v : Value} {xs : List Value} (h : w.ownsRow base E size v n xs) (hc : Chg B T w w') (hE : E ≠ T) : w'.ownsRow base E size v n xs := by
  refine ⟨h.1, ?_⟩
  rcases h.2 with h2 | ⟨g, cap, cur, hv, hg, hh, r⟩
  · exact .inl h2
  · refine .inr ⟨g, cap, cur, hv, hg, ?_, r⟩
    have := hc.other g cur.toList E hE (by unfold Blk; simpa using hh)
    unfold Blk at this; simpa using this
/-- Block b, from base on, holds m cells of type T that may be written. -/
def BoxN (w : World) (b base : Nat) (T : TypeId) (m : Nat) : Prop := base ≤ b ∧ ∃ cs : List Value, cs.length = m ∧ Blk w b T cs
theorem BoxN.keep {b base m : Nat} (h : BoxN w b base T m) (hb : Below w.heap.size w w') : BoxN w' b base T m := by
  obtain ⟨h1, cs, h2, h3⟩ := h
  exact ⟨h1, cs, h2, h3.ext hb⟩
theorem BoxN.chg {b base m : Nat} {T' : TypeId} (h : BoxN w b base T' m) (hc : Chg B T w w') : BoxN w' b base T' m := by
  obtain ⟨h1, cs, h2, h3⟩ := h
  by_cases he : T' = T
  · subst he
    obtain ⟨cs', h4, h5⟩ := hc.same b cs h3
    exact ⟨h1, cs', by omega, h5⟩
  · exact ⟨h1, cs, h2, hc.other b cs T' he h3⟩
/-- A pointer to a box. -/
def BoxP (base : Nat) (T : TypeId) (m : Nat) (w : World) (v : Value) : Prop := ∃ b, v = .pointer (some ⟨b, 0, none⟩) ∧ BoxN w b base T m
theorem BoxP.keep {base m : Nat} {v : Value} (h : BoxP base T m w v) (hb : Below w.heap.size w w') : BoxP base T m w' v := by
  obtain ⟨b, h1, h2⟩ := h; exact ⟨b, h1, h2.keep hb⟩
theorem BoxP.chg {base m : Nat} {v : Value} {T' : TypeId} (h : BoxP base T' m w v) (hc : Chg B T w w') : BoxP base T' m w' v := by
  obtain ⟨b, h1, h2⟩ := h; exact ⟨b, h1, h2.chg hc⟩
theorem BoxP.new {base m : Nat} (w : World) (T : TypeId) (cs : List Value) (hb : base ≤ w.heap.size) (hm : cs.length = m) : BoxP base T m (w.alloc (.cells cs.toArray T)) (.pointer (some ⟨w.heap.size, 0, none⟩)) := ⟨_, rfl, hb, cs, hm, Blk.new w T cs⟩
/-- A value that holds one row of the call's own. -/
def RowP (base : Nat) (E : TypeId) (size n : Nat) (xs : List Value) (f : Option Addr → Nat → Value) (w : World) (v : Value) : Prop := ∃ A c, v = f A c ∧ w.ownsRow base E size (.slice A n c) n xs
section
variable {base size n : Nat} {xs : List Value} {f : Option Addr → Nat → Value} {v : Value}
theorem RowP.keep (h : RowP base E size n xs f w v) (hb : Below w.heap.size w w') : RowP base E size n xs f w' v := by
  obtain ⟨A, c, h1, h2⟩ := h; exact ⟨A, c, h1, own_ext h2 hb⟩
theorem RowP.chg (h : RowP base E size n xs f w v) (hc : Chg B T w w') (hE : E ≠ T) : RowP base E size n xs f w' v := by
  obtain ⟨A, c, h1, h2⟩ := h; exact ⟨A, c, h1, own_chg h2 hc hE⟩
end
/-- A pointer to a box that holds the cells cs. -/
def StoP (base : Nat) (T : TypeId) (cs : List Value) (w : World) (v : Value) : Prop := ∃ b, v = .pointer (some ⟨b, 0, none⟩) ∧ base ≤ b ∧ Blk w b T cs
theorem StoP.keep {base : Nat} {cs : List Value} {v : Value} (h : StoP base T cs w v) (hb : Below w.heap.size w w') : StoP base T cs w' v := by
  obtain ⟨b, h1, h2, h3⟩ := h; exact ⟨b, h1, h2, h3.ext hb⟩
theorem StoP.chg {base : Nat} {cs : List Value} {v : Value} {T' : TypeId} (h : StoP base T' cs w v) (hc : Chg B T w w') (hT : T' ≠ T) : StoP base T' cs w' v := by
  obtain ⟨b, h1, h2, h3⟩ := h; exact ⟨b, h1, h2, hc.other b cs T' hT h3⟩
/-- A pointer to a box whose cells hold one row of the call's own. -/
def StoR (base : Nat) (T : TypeId) (E : TypeId) (size n : Nat) (xs : List Value) (f : Option Addr → Nat → List Value) (w : World) (v : Value) : Prop := ∃ b A c, v = .pointer (some ⟨b, 0, none⟩) ∧ base ≤ b ∧ Blk w b T (f A c) ∧ w.ownsRow base E size (.slice A n c) n xs
section
variable {base size n : Nat} {xs : List Value} {f : Option Addr → Nat → List Value} {v : Value} {T' : TypeId}
theorem StoR.keep (h : StoR base T E size n xs f w v) (hb : Below w.heap.size w w') : StoR base T E size n xs f w' v := by
  obtain ⟨b, A, c, h1, h2, h3, h4⟩ := h; exact ⟨b, A, c, h1, h2, h3.ext hb, own_ext h4 hb⟩
theorem StoR.chg (h : StoR base T' E size n xs f w v) (hc : Chg B T w w') (hT : T' ≠ T) (hE : E ≠ T) : StoR base T' E size n xs f w' v := by
  obtain ⟨b, A, c, h1, h2, h3, h4⟩ := h; exact ⟨b, A, c, h1, h2, hc.other b _ T' hT h3, own_chg h4 hc hE⟩
end
theorem own_ty {base size n b : Nat} {v : Value} {xs cs : List Value} (h : w.ownsRow base E size v n xs) (hb : Blk w b T cs) (hE : E ≠ T) : ∀ k, v.ownBlock = some k → k ≠ b := by
  rintro k hk rfl
  rcases h.2 with ⟨hv, _⟩ | ⟨g, cap, cur, hv, hg, hh, r⟩
  · subst hv; cases hk
  · subst hv
    have : g = k := by simpa [Value.ownBlock] using hk
    subst this
    unfold Blk at hb
    rw [hh] at hb
    injection hb with h1; injection h1 with _ h2
    exact hE h2
end
/-- The world w' is w but for what block b holds. -/
structure ChgA (b : Nat) (w w' : World) : Prop where
  os : w'.os = w.os
  tape : w'.tape = w.tape
  output : w'.output = w.output
  size : w'.heap.size = w.heap.size
  other : ∀ k, k ≠ b → w'.heap[k]? = w.heap[k]?
section
variable {B b : Nat} {T E : TypeId} {w w' : World}
theorem ChgA.refl (b : Nat) (w : World) : ChgA b w w := ⟨rfl, rfl, rfl, rfl, fun _ _ => rfl⟩
theorem ChgA.set (h : ChgA b w w') (j : Nat) (u : Value) : ChgA b w (w'.setCell ⟨b, j, none⟩ u) :=
  ⟨h.os, h.tape, h.output, by simpa [World.setCell] using h.size, fun k hk => (Below.heap_setCell w' ⟨b, j, none⟩ u k hk).trans (h.other k hk)⟩
theorem ChgA.below {a : World} (h : ChgA b w w') (hB : B ≤ b) (hb : Below B a w) : Below B a w' :=
  ⟨h.os.trans hb.os, h.tape.trans hb.tape, h.output.trans hb.output, by rw [h.size]; exact hb.size, fun k hk => (h.other k (by omega)).trans (hb.block k hk)⟩
theorem Blk.at_ {g : Nat} {cs : List Value} (h : Blk w g T cs) (j : Nat) (v : Value) (hv : cs[j]? = some v) : w.cell? ⟨g, j, none⟩ = some v := (h.cell j).trans hv
theorem Blk.chgA {g : Nat} {cs : List Value} (h : Blk w g T cs) (hc : ChgA b w w') (hne : g ≠ b) : Blk w' g T cs := (hc.other g hne).trans h
theorem Blk.chgL {g : Nat} {T' : TypeId} {cs : List Value} (h : Blk w g T' cs) (hc : Chg B T w w') (hlt : g < B) : Blk w' g T' cs := (hc.low g hlt).trans h
theorem own_same {base size n : Nat} {v : Value} {xs : List Value} (h : w.ownsRow base E size v n xs) (hs : ∀ k, v.ownBlock = some k → w'.heap[k]? = w.heap[k]?) : w'.ownsRow base E size v n xs := by
  refine ⟨h.1, ?_⟩
  rcases h.2 with h2 | ⟨g, cap, cur, hv, hg, hh, r⟩
  · exact .inl h2
  · refine .inr ⟨g, cap, cur, hv, hg, ?_, r⟩
    rw [hs g (by rw [hv]; rfl)]; exact hh
theorem own_chgA {base size n : Nat} {v : Value} {xs : List Value} (h : w.ownsRow base E size v n xs) (hc : ChgA b w w') (hne : ∀ k, v.ownBlock = some k → k ≠ b) : w'.ownsRow base E size v n xs := own_same h fun k hk => hc.other k (hne k hk)
theorem own_chgL {base size n : Nat} {v : Value} {xs : List Value} (h : w.ownsRow base E size v n xs) (hc : Chg B T w w') (hlt : ∀ k, v.ownBlock = some k → k < B) : w'.ownsRow base E size v n xs := own_same h fun k hk => hc.low k (hlt k hk)
theorem BoxP.chgA {base m : Nat} {v : Value} (h : BoxP base T m w v) (hc : ChgA b w w') (hlt : b < base) : BoxP base T m w' v := by
  obtain ⟨g, h1, h2, cs, h3, h4⟩ := h; exact ⟨g, h1, h2, cs, h3, h4.chgA hc (by omega)⟩
theorem RowP.chgA {base size n : Nat} {xs : List Value} {f : Option Addr → Nat → Value} {v : Value} (h : RowP base E size n xs f w v) (hc : ChgA b w w') (hlt : b < base) : RowP base E size n xs f w' v := by
  obtain ⟨A, c, h1, h2⟩ := h; exact ⟨A, c, h1, own_chgA h2 hc fun k hk => by have := (h2.lt k hk).1; omega⟩
theorem StoP.chgA {base : Nat} {cs : List Value} {v : Value} (h : StoP base T cs w v) (hc : ChgA b w w') (hlt : b < base) : StoP base T cs w' v := by
  obtain ⟨g, h1, h2, h3⟩ := h; exact ⟨g, h1, h2, h3.chgA hc (by omega)⟩
theorem StoR.chgA {base size n : Nat} {xs : List Value} {f : Option Addr → Nat → List Value} {v : Value} (h : StoR base T E size n xs f w v) (hc : ChgA b w w') (hlt : b < base) : StoR base T E size n xs f w' v := by
  obtain ⟨g, A, c, h1, h2, h3, h4⟩ := h; exact ⟨g, A, c, h1, h2, h3.chgA hc (by omega), own_chgA h4 hc fun k hk => by have := (h4.lt k hk).1; omega⟩
/-- A box that was there, with the value that was stored, which holds one row of the call's own. -/
def StaR (base b : Nat) (T E : TypeId) (size n : Nat) (xs : List Value) (f : Option Addr → Nat → Value) (g : Option Addr → Nat → List Value) (w : World) (v : Value) : Prop := ∃ A c, v = f A c ∧ Blk w b T (g A c) ∧ w.ownsRow base E size (.slice A n c) n xs
section
variable {base size n b' : Nat} {xs : List Value} {f : Option Addr → Nat → Value} {g : Option Addr → Nat → List Value} {v : Value} {T' : TypeId}
theorem StaR.keep (h : StaR base b' T E size n xs f g w v) (hb : Below w.heap.size w w') : StaR base b' T E size n xs f g w' v := by
  obtain ⟨A, c, h1, h2, h3⟩ := h; exact ⟨A, c, h1, h2.ext hb, own_ext h3 hb⟩
theorem StaR.chgA (h : StaR base b' T E size n xs f g w v) (hc : ChgA b w w') (hne : b' ≠ b) (hlt : b < base) : StaR base b' T E size n xs f g w' v := by
  obtain ⟨A, c, h1, h2, h3⟩ := h; exact ⟨A, c, h1, h2.chgA hc hne, own_chgA h3 hc fun k hk => by have := (h3.lt k hk).1; omega⟩
theorem StaR.chgL (h : StaR base b' T' E size n xs f g w v) (hc : Chg B T w w') (hlt : b' < B) (hE : E ≠ T) : StaR base b' T' E size n xs f g w' v := by
  obtain ⟨A, c, h1, h2, h3⟩ := h; exact ⟨A, c, h1, h2.chgL hc hlt, own_chg h3 hc hE⟩
end
end
theorem hold_chg {B : Nat} {T : TypeId} {a : Act} {L : List (Tmp × (World → Value → Prop))} (hc : ∀ p ∈ L, ∀ w w' v, Chg B T w w' → p.2 w v → p.2 w' v) : ∀ t w w' v, Chg B T w w' → Hold a L t w v → Hold a L t w' v := by
  intro t w w' v hb hv
  unfold Hold at *
  split at hv
  · rename_i p hp
    exact hc p (List.mem_of_find?_eq_some hp) w w' v hb hv
  · exact hv
theorem hold_rel {R : World → World → Prop} {a : Act} {L : List (Tmp × (World → Value → Prop))} (hc : ∀ p ∈ L, ∀ w w' v, R w w' → p.2 w v → p.2 w' v) : ∀ t w w' v, R w w' → Hold a L t w v → Hold a L t w' v := by
  intro t w w' v hb hv
  unfold Hold at *
  split at hv
  · rename_i p hp
    exact hc p (List.mem_of_find?_eq_some hp) w w' v hb hv
  · exact hv
/-- A store: what it leaves alone is said by a relation R. -/
theorem stepS_store {P : Program} {ops : Array Oper} {B : Nat} {W : World} {G : Tmp → World → Value → Prop} {SL : List Sto} {J : World → Prop} {i : Nat} {o : Oper} (R : World → World → Prop) (hRb : ∀ w w', R w w' → Below B W w → Below B W w') (hRz : ∀ w w', R w w' → w'.heap.size = w.heap.size)
    (hGc : ∀ t w w' v, R w w' → G t w v → G t w' v)
    (hSc : ∀ s ∈ SL, s.i ≠ i → ∀ w w', R w w' → (s.pre w → s.pre w') ∧ ∀ u, s.post w u → s.post w' u) (hJc : ∀ w w', R w w' → J w → J w') (hg : o.guard = none) (hd : o.dst = none)
    (h : ∀ a w, Below B W w → W.heap.size ≤ w.heap.size → J w → (∀ t, (o.looksAt ops).contains t = true → G t w (a.tmps.getD t undef)) → (∀ s ∈ SL, (waitsOn ops s.i i || s.i == i) = true → s.pre w) →
      ∀ K Q, (∀ v w', R w w' → (∀ s ∈ SL, s.i = i → s.post w' (a.tmps.getD s.p undef)) → K (a.put o.dst v) w') → o.wp P a w K Q) : StepS P ops B W G SL J i o := by
  intro a w hb hz hj hl hp
  rw [if_pos (by simp [Region.wanted, hg])]
  intro K Q hK
  exact h a w hb hz hj hl hp K Q fun v w' hc hs => hK v w' (hRb w w' hc hb) (by rw [hRz w w' hc]; exact Nat.le_refl _) (fun t u => hGc t w w' u hc) (fun s hsl hne => hSc s hsl hne w w' hc) (fun d hdd => by rw [hd] at hdd; cases hdd) hs (hJc w w' hc hj)
theorem allStep_cons {P : Program} {ops : Array Oper} {B : Nat} {W : World} {G : Tmp → World → Value → Prop} {SL : List Sto} {J : World → Prop} {i : Nat} {o : Oper} {l : List Oper} (h1 : StepS P ops B W G SL J i o) (h2 : allStep P ops B W G SL J (i + 1) l) : allStep P ops B W G SL J i (o :: l) := ⟨h1, h2⟩
theorem allStep_nil {P : Program} {ops : Array Oper} {B : Nat} {W : World} {G : Tmp → World → Value → Prop} {SL : List Sto} {J : World → Prop} {i : Nat} : allStep P ops B W G SL J i [] := trivial
end Go.Proofs.Ytkfekgmdjemkbaa
