/- Whole structs out of blocks and rows, and into blocks: no cell by cell. -/
import Derived.Test.YtkfekgmdjemkbaaRows2
import Derived.Deep.MidRow
namespace Go.Proofs.Ytkfekgmdjemkbaa
set_option linter.unusedSimpArgs false
set_option linter.unusedVariables false
open Go.RowKit Go.ChangeShapes Go.WideShapes
theorem Blk.range {w : World} {g : Nat} {t : TypeId} {cs : List Value} (h : Blk w g t cs) : w.rangeAt g 0 cs := fun j v hv => by rw [Nat.zero_add, h.cell]; exact hv
theorem Blk.there_at {w : World} {g : Nat} {t : TypeId} {cs : List Value} (h : Blk w g t cs) (o n : Nat) (ho : o + n ≤ cs.length) : w.there g o n := fun j hj => by
  obtain ⟨v, hv⟩ := h.get (i := o + j) (by omega)
  exact ⟨by rw [hv]; rfl, h.frozen _⟩
theorem Blk.setCells {g : Nat} {t : TypeId} : ∀ (vs : List Value) (o : Nat) {w : World} {cs : List Value}, Blk w g t cs → Blk (w.setCells g o vs) g t (setsAt cs o vs)
  | [], _, _, _, h => h
  | v :: vs, o, w, cs, h => by
    rw [World.setCells, setsAt]
    exact Blk.setCells vs (o + 1) (h.set_ o v)
theorem setsAt_all {cs vs : List Value} (h : vs.length = cs.length) : setsAt cs 0 vs = vs := by
  have h1 := take_setsAt vs cs 0 (by omega)
  rw [Nat.zero_add, List.take_of_length_le (by rw [setsAt_len]; omega)] at h1
  simpa using h1
theorem Blk.setAll {w : World} {g : Nat} {t : TypeId} {cs vs : List Value} (h : Blk w g t cs) (hl : vs.length = cs.length) : Blk (w.setCells g 0 vs) g t vs := by
  have := Blk.setCells vs 0 h
  rwa [setsAt_all hl] at this
theorem size_setCells (g : Nat) : ∀ (vs : List Value) (o : Nat) (w : World), (w.setCells g o vs).heap.size = w.heap.size
  | [], _, _ => rfl
  | v :: vs, o, w => by rw [World.setCells, size_setCells g vs]; simp
theorem below_setCells {B g : Nat} (hg : B ≤ g) : ∀ (vs : List Value) (o : Nat) {a w : World}, Below B a w → Below B a (w.setCells g o vs)
  | [], _, _, _, h => h
  | v :: vs, o, a, w, h => by
    rw [World.setCells]
    exact below_setCells hg vs (o + 1) (h.setCell hg _)
theorem grown_setCells {g : Nat} {a : World} : ∀ (vs : List Value) (o : Nat) {w : World}, a.grownBy w (some g) → a.grownBy (w.setCells g o vs) (some g)
  | [], _, _, h => h
  | v :: vs, o, w, h => by
    rw [World.setCells]
    exact grown_setCells vs (o + 1) (only_setCell h (.inl rfl) _)
theorem range_below {B : Nat} {w w1 : World} {b o : Nat} {cs : List Value} (h : w.rangeAt b o cs) (hb : Below B w w1) (hlt : b < B) : w1.rangeAt b o cs := fun j v hv => (hb.cell (p := ⟨b, o + j, none⟩) hlt).trans (h j v hv)
theorem range_ext {w w1 : World} {b o : Nat} {cs : List Value} (h : w.rangeAt b o cs) (hb : Below w.heap.size w w1) : w1.rangeAt b o cs := fun j v hv => ccell hb _ _ _ (h j v hv)
theorem Blk.far_setCells {g b : Nat} {t : TypeId} {cs : List Value} (hne : b ≠ g) : ∀ (vs : List Value) (o : Nat) {w : World}, Blk w g t cs → Blk (w.setCells b o vs) g t cs
  | [], _, _, h => h
  | v :: vs, o, w, h => by
    rw [World.setCells]
    refine Blk.far_setCells hne vs (o + 1) ?_
    unfold Blk at *
    rw [Below.heap_setCell _ _ _ _ (fun e => hne (by rw [e]))]; exact h
/-- A box into which a struct is stored just behind its making. -/
theorem blk_made {w : World} {t : TypeId} {zs : List Value} (vs : List Value) (hl : vs.length = zs.length) : Blk ((w.alloc (.cells zs.toArray t)).setCells w.heap.size 0 vs) w.heap.size t vs ∧ Below w.heap.size w ((w.alloc (.cells zs.toArray t)).setCells w.heap.size 0 vs) :=
  ⟨(Blk.new w t zs).setAll hl, below_setCells (Nat.le_refl _) vs 0 ((Below.refl _ _).alloc (Nat.le_refl _) _)⟩
theorem blk_grown {w w1 : World} {b : Nat} {t : TypeId} {cs : List Value} {row : Option Nat} (h : Blk w b t cs) (hg : w.grownBy w1 row) (hne : row ≠ some b) : Blk w1 b t cs := (hg.block b h.lt (fun e => hne e.symm)).trans h
/-- A struct is stored into a variable that has just been made: the world gets a letter. -/
theorem wpList_store_new {P : Program} {ops : Array Oper} {rest : List Oper} {op : Oper} {a : Act} {w : World} {Q : Exit → Act → World → Prop} {t : TypeId} {zs : List Value} (hgd : op.guard = none) (ty : TypeId) (x y : Operand) (ho : op.op = .store ty x y)
    (cs : List Value) (hx : a.eval x = .pointer (some ⟨w.heap.size, 0, none⟩)) (hy : a.eval y = .agg cs.toArray) (hl : cs.length = zs.length) (hi : (P.info? ty).map (·.size) = some cs.length) (h1 : ∀ v ∈ cs, v.oneCell' = true)
    (h : ∀ W1, Blk W1 w.heap.size t cs → Below w.heap.size w W1 → W1.heap.size = w.heap.size + 1 → wpList P ops Q rest (a.put op.dst undef) W1) : wpList P ops Q (op :: rest) a (w.alloc (.cells zs.toArray t)) := by
  refine wpList_store_mid hgd ty x y ho w.heap.size 0 cs.toArray hx hy ?_ (by simpa using hi) (all_oneCell_toArray h1) ?_
  · exact (Blk.new w t zs).there_at 0 _ (by simp [hl])
  · obtain ⟨h2, h3⟩ := blk_made (w := w) (t := t) (zs := zs) cs hl
    refine h _ ?_ ?_ ?_
    · simpa using h2
    · simpa using h3
    · rw [size_setCells]; simp
end Go.Proofs.Ytkfekgmdjemkbaa
