/- Words for memory: a slice that reads as a list of elements; numbers of 64 bits. (Section 1 of the guide's words for memory, turned to this claim.) -/
import Derived.Test.YtkfekgmdjemkbaaRows
import Derived.WalkKit
import Derived.WalkSpells
import Derived.WalkLawsBesides
import Derived.BigQuiet
import Derived.Lib.Hide
import Derived.Handy
import Derived.ProofKit
import Derived.OpenShut
import Derived.Deep.Slices
import Derived.Deep.Draws
import Derived.Deep.AppendLies
import Derived.Maps.AppendAt
import Derived.RegionTactic
import Derived.OwnWalk
import Derived.Below
namespace Go.Proofs.Ytkfekgmdjemkbaa
set_option linter.unusedSimpArgs false
set_option linter.unusedVariables false
open Go.RowKit Go.ChangeShapes Go.WideShapes
def I64 (n : Int) : Prop := -9223372036854775808 ≤ n ∧ n ≤ 9223372036854775807
theorem i64_of_wf {n : Int} (h : (Lit.int .i64 n).wf = true) : I64 n := by
  simp [Lit.wf, IntKind.min, IntKind.max, IntKind.signed, IntKind.bits] at h
  exact ⟨by omega, by omega⟩
theorem ret_int {k : IntKind} {a b : Int} (h : a = b) : Ending.returned (.int k a) = .returned (.int k b) := by rw [h]
theorem ret_bool {a b : Bool} (h : a = b) : Ending.returned (.bool a) = .returned (.bool b) := by rw [h]
theorem ret_string {a b : ByteArray} (h : a = b) : Ending.returned (.string a) = .returned (.string b) := by rw [h]
theorem block_of_add (a : Addr) (n : Nat) : (a.add n).block = a.block := by unfold Addr.add; split <;> rfl
theorem add_of_add (a : Addr) (i j : Nat) : (a.add i).add j = a.add (i + j) := by
  unfold Addr.add
  by_cases hi : i = 0 <;> by_cases hj : j = 0 <;> simp [hi, hj, Nat.add_assoc]
theorem cell_block_lt {w : World} {a : Addr} {v : Value} (h : w.cell? a = some v) : a.block < w.heap.size := by
  unfold World.cell? at h
  rcases Nat.lt_or_ge a.block w.heap.size with hl | hl
  · exact hl
  · rw [Array.getElem?_eq_none hl] at h; simp at h
/-- What holds of the cells behind a call that wrote nothing that was there. -/
theorem bcell {B : Nat} {W w1 : World} (hb : Below B W w1) : (∀ b o, b < B → w1.cell? ⟨b, o, none⟩ = W.cell? ⟨b, o, none⟩) ∧ (∀ b o, b < B → w1.frozen? ⟨b, o, none⟩ = W.frozen? ⟨b, o, none⟩) :=
  ⟨fun b o h => hb.cell (p := ⟨b, o, none⟩) h, fun b o h => hb.frozen (p := ⟨b, o, none⟩) h⟩
/-- A cell that held a value holds it behind a call that wrote nothing that was there. -/
theorem ccell {W w1 : World} (hb : Below W.heap.size W w1) : ∀ b o v, W.cell? ⟨b, o, none⟩ = some v → w1.cell? ⟨b, o, none⟩ = some v :=
  fun b o v h => (hb.cell (p := ⟨b, o, none⟩) (cell_block_lt h)).trans h
theorem ext_step {B : Nat} {a W w1 : World} (h : Below B a W) (hB : B ≤ W.heap.size) (hb : Below W.heap.size W w1) : Below B a w1 := h.trans (hb.mono hB)
theorem below_drewN {B : Nat} {a w : World} (h : Below B a w) (n : Nat) : Below B a (w.drewN n) := ⟨h.os, h.tape, h.output, h.size, h.block⟩
/-- A contract's Bool, decided. -/
theorem calls_bool {P : Program} {f : FuncId} {args : Array Value} {w : World} {b c : Bool} {R : World → Prop} (h : Calls P f args w fun e w' => e = .returned (.bool b) ∧ R w') (hb : b = c) :
    Calls P f args w fun e w' => e = .returned (.bool c) ∧ R w' := by subst hb; exact h
/-- The worlds that W has grown into: nothing that was there has turned. The class of a quiet region whose callees make memory. -/
def Ext (W : World) : Type := { w' : World // Below W.heap.size W w' }
instance (W : World) : Nonempty (Ext W) := ⟨⟨W, Below.refl _ _⟩⟩
def Ext.wd {W : World} (t : Ext W) : World := t.1
theorem Ext.below {W : World} (t : Ext W) : Below W.heap.size W t.wd := t.2
theorem Ext.cell {W : World} {b o : Nat} {v : Value} (h : W.cell? ⟨b, o, none⟩ = some v) (t : Ext W) : t.wd.cell? ⟨b, o, none⟩ = some v :=
  (t.below.cell (p := ⟨b, o, none⟩) (cell_block_lt h)).trans h
/-- A region that draws its order, whose own operations only read, whose callees leave what was there: one walk in the order of the text. -/
theorem wp_region_ext_lit {P : Program} {id : Nat} {Q : Exit → Act → World → Prop} {a : Act} {W : World} {l : List Oper} (hm : P.follows .mixedOrders = true) (hB : Region.lexB .any l.toArray = true)
    (h : wpQuiet P l.toArray (fun w' => ∃ t : Ext W, w' = t.wd) (fun a' => ∀ w', (∃ t : Ext W, w' = t.wd) → Q .normal a' w') l a) : (Code.region id l.toArray true).wp P Q a W :=
  wp_region_quiet (C := fun w' => ∃ t : Ext W, w' = t.wd) hm hB ⟨⟨W.drew, (Below.refl _ _).drew⟩, rfl⟩ (by simpa using h)
/-- A callee's contract, met in a world that W has grown into. -/
theorem ext_call {P : Program} {f : FuncId} {args : Array Value} {W : World} {t : Ext W} {v : Value} (h : Calls P f args t.wd fun e w' => e = .returned v ∧ Below t.wd.heap.size t.wd w') :
    Calls P f args t.wd fun e w'' => e = .returned v ∧ ∃ t' : Ext W, w'' = t'.wd :=
  h.mono fun _ w' ⟨he, hb⟩ => ⟨he, ⟨⟨w', ext_step t.2 t.2.size hb⟩, rfl⟩⟩
theorem ext_same {P : Program} {f : FuncId} {args : Array Value} {W : World} {t : Ext W} {v : Value} (h : Calls P f args t.wd fun e w' => e = .returned v ∧ t.wd = w') :
    Calls P f args t.wd fun e w'' => e = .returned v ∧ ∃ t' : Ext W, w'' = t'.wd :=
  h.mono fun _ w' ⟨he, hb⟩ => ⟨he, ⟨t, hb.symm⟩⟩
/-- A call in a region that only draws. -/
theorem quiet_left {P : Program} {f : FuncId} {args : Array Value} {w : World} {n : Nat} {v : Value}
    (h : Calls P f args (w.drewN n) fun e w' => e = .returned v ∧ w.drewN n = w') : Calls P f args (w.drewN n) fun e w'' => e = .returned v ∧ ∃ m, w'' = w.drewN m :=
  h.mono fun _ _ ⟨he, hm⟩ => ⟨he, n, hm.symm⟩
/-- The slice value '.slice A n c' holds the cells xs (size cells an element) and lies below block B. -/
def Reads (w : World) (B size : Nat) (A : Option Addr) (n : Nat) (xs : List Value) : Prop :=
  xs.length = n * size ∧ (0 < n → ∃ b o, A = some ⟨b, o, none⟩ ∧ b < B ∧ ∀ j u, xs[j]? = some u → w.cell? ⟨b, o + j, none⟩ = some u)
section
variable {w w' : World} {B B' size n : Nat} {A : Option Addr} {xs : List Value}
theorem Reads.none_ : Reads w B size A 0 [] := ⟨by simp, fun h => absurd h (by omega)⟩
theorem Reads.keep (h : Reads w B size A n xs) (hk : ∀ p : Addr, p.block < B → w'.cell? p = w.cell? p) : Reads w' B size A n xs :=
  ⟨h.1, fun hn => by
    obtain ⟨b, o, e, hb, hc⟩ := h.2 hn
    exact ⟨b, o, e, hb, fun j u hu => (hk _ hb).trans (hc j u hu)⟩⟩
theorem Reads.more (h : Reads w B size A n xs) (hB : B ≤ B') : Reads w B' size A n xs :=
  ⟨h.1, fun hn => by
    obtain ⟨b, o, e, hb, hc⟩ := h.2 hn
    exact ⟨b, o, e, by omega, hc⟩⟩
theorem Reads.below (h : Reads w B size A n xs) (hb : Below B w w') : Reads w' B size A n xs := h.keep fun _ hp => hb.cell hp
theorem Reads.drew (h : Reads w B size A n xs) : Reads w.drew B size A n xs := h
theorem Reads.drewN (h : Reads w B size A n xs) (k : Nat) : Reads (w.drewN k) B size A n xs := h
theorem Reads.alloc (h : Reads w B size A n xs) (hB : B ≤ w.heap.size) (o : Obj) : Reads (w.alloc o) B size A n xs := h.keep fun p hp => World.cell?_alloc_lt w o p (by omega)
theorem Reads.setCell (h : Reads w B size A n xs) {p : Addr} (hB : B ≤ p.block) (u : Value) : Reads (w.setCell p u) B size A n xs :=
  h.keep fun q hq => World.cell?_setCell_other w p q u (fun e => by subst e; omega)
theorem Reads.grown (h : Reads w B size A n xs) {row : Option Nat} (hg : w.grownBy w' row) (hB : B ≤ w.heap.size) (hr : ∀ g, row = some g → B ≤ g) : Reads w' B size A n xs :=
  h.keep fun p hp => World.cell?_of_block (hg.block p.block (by omega) (fun e => by have := hr _ e.symm; omega))
theorem Reads.cut (h : Reads w B size A n xs) {k cap : Nat} (hk : k ≤ n) (hc : n ≤ cap) :
    Reads w B size (if cap = k then A else A.map (·.add (k * size))) (n - k) (xs.drop (k * size)) := by
  refine ⟨by rw [List.length_drop, h.1, Nat.sub_mul], fun hn => ?_⟩
  obtain ⟨b, o, rfl, hb, hcell⟩ := h.2 (by omega)
  rw [if_neg (by omega)]
  refine ⟨b, o + k * size, by by_cases h0 : k * size = 0 <;> simp [Addr.add, h0], hb, fun j u hu => ?_⟩
  rw [Nat.add_assoc]
  exact hcell _ u (by rw [← hu, List.getElem?_drop])
theorem Reads.of_own {base : Nat} {e : TypeId} {c : Nat} (h : w.ownsRow base e size (.slice A n c) n xs) : Reads w w.heap.size size A n xs := by
  refine ⟨h.1, fun hn => ?_⟩
  obtain ⟨g, cap, hv, _, hlt⟩ := h.form hn
  have hA : A = some ⟨g, 0, none⟩ := by injection hv
  subst hA
  refine ⟨_, _, rfl, hlt, fun j u hu => ?_⟩
  have := h.cells (g := g) rfl j u hu
  by_cases h0 : j = 0
  · subst h0; simpa [Addr.add] using this
  · simpa [Addr.add, h0] using this
end
/-- A slice that came in and reads as the elements l, 'cells' giving an element's cells. -/
def SlOf {T : Type} (cells : T → List Value) (size : Nat) (w : World) (A : Option Addr) (n c : Nat) (l : List T) : Prop :=
  l.length = n ∧ n ≤ c ∧ c ≤ 9223372036854775807 ∧ Reads w w.heap.size size A n (l.flatMap cells)
section
variable {H : Type} {enc : TypeId × Value → H} {P : Program} {w : World} {base : Nat} {spare : Nat → Bool} {held : Bool}
/-- Whether an interval of cells begins with those listed. -/
theorem flatMap_get {T : Type} (cells : T → List Value) (size : Nat) (hs : ∀ x, (cells x).length = size) (hp : 0 < size) :
    ∀ (l : List T) (j : Nat), (l.flatMap cells)[j]? = (l[j / size]?).bind fun x => (cells x)[j % size]?
  | [], j => by simp
  | x :: l, j => by
    rw [List.flatMap_cons]
    by_cases hj : j < size
    · rw [List.getElem?_append_left (by rw [hs]; exact hj), Nat.div_eq_of_lt hj, Nat.mod_eq_of_lt hj]; simp
    · have h1 : j / size = (j - size) / size + 1 := by
        rw [Nat.div_eq_sub_div hp (by omega)]
      have h2 : j % size = (j - size) % size := Nat.mod_eq_sub_mod (by omega)
      rw [List.getElem?_append_right (by rw [hs]; omega), hs, flatMap_get cells size hs hp l, h1, h2]; simp
theorem flatMap_len {T : Type} (cells : T → List Value) (size : Nat) (hs : ∀ x, (cells x).length = size) (l : List T) : (l.flatMap cells).length = l.length * size := by
  induction l with
  | nil => simp
  | cons x l ih => simp [hs, ih, Nat.add_mul]; omega
/-- One element of a slice that reads as l. -/
theorem Reads.el {T : Type} {cells : T → List Value} {size B n k : Nat} {A : Option Addr} {l : List T} (h : Reads w B size A n (l.flatMap cells)) (hs : ∀ x, (cells x).length = size) (hp : 0 < size) (hl : l.length = n) (hk : k < n) :
    ∃ b o x, A = some ⟨b, o, none⟩ ∧ b < B ∧ l[k]? = some x ∧ ∀ j u, (cells x)[j]? = some u → w.cell? ⟨b, o + k * size + j, none⟩ = some u := by
  obtain ⟨b, o, hA, hb, hc⟩ := h.2 (by omega)
  have hkl : k < l.length := by omega
  refine ⟨b, o, l[k], hA, hb, List.getElem?_eq_getElem hkl, fun j u hu => ?_⟩
  have hj : j < size := by rw [← hs l[k]]; exact (List.getElem?_eq_some_iff.1 hu).1
  rw [Nat.add_assoc]
  refine hc _ u ?_
  rw [flatMap_get cells size hs hp, Nat.mul_comm k size, Nat.mul_add_div hp, Nat.div_eq_of_lt hj, Nat.mul_add_mod, Nat.mod_eq_of_lt hj]
  simpa [List.getElem?_eq_getElem hkl] using hu
theorem read_slOf {t e : TypeId} {fuel : Nat} {cs : List Value} {x : DataW H × List MemPlace} {T : Type} [Inhabited T] {size : Nat} (ht : P.underlying t = some (.slice e)) (hc : P.cellsOf e = size)
    (cells : T → List Value) (ok : T → Prop) (hs : ∀ x, (cells x).length = size) (hp : 0 < size)
    (hel : ∀ {n cs y}, DataW.trod enc P w base spare held n e cs = some y → ∃ x, cs = cells x ∧ ok x)
    (h : DataW.trod enc P w base spare held fuel t cs = some x) :
    ∃ (A : Option Addr) (n c : Nat) (l : List T), cs = [.slice A n c] ∧ SlOf cells size w A n c l ∧ ∀ x ∈ l, ok x := by
  rcases Go.Deep.open_slice ht h with ⟨rfl, _⟩ | ⟨a, len, cap, m, n, D, Pl, hcs, hb, hl, hm, hmm, _, hi⟩
  · exact ⟨none, 0, 0, [], rfl, ⟨rfl, Nat.le_refl _, by omega, Reads.none_⟩, by simp⟩
  · obtain ⟨F, hF⟩ := Go.Deep.choose_lt (α := T) (n := len) (p := fun i x => ok x ∧ ∀ j u, (cells x)[j]? = some u → w.cell? (a.add (i * size + j)) = some u) (fun i hil => by
      have him : i < m := by rw [hmm]; split <;> omega
      obtain ⟨cs', h1, h2⟩ := hi i him
      obtain ⟨x, rfl, hok⟩ := hel h2
      refine ⟨x, hok, fun j u hu => ?_⟩
      rw [hc] at h1
      obtain ⟨_, hcl, hat⟩ := World.cells?_some h1
      have hj : j < size := by rw [← hs x]; exact (List.getElem?_eq_some_iff.1 hu).1
      rw [← add_of_add, hat j hj, hu])
    refine ⟨some a, len, cap, (List.range len).map F, hcs, ⟨by simp, hl, by unfold maxLen at hm; omega, ?_⟩, ?_⟩
    · have key : ∀ j u, (((List.range len).map F).flatMap cells)[j]? = some u → w.cell? (a.add j) = some u := by
        intro j u hu
        rw [flatMap_get cells size hs hp] at hu
        obtain ⟨x, hx, hu⟩ := Option.bind_eq_some_iff.1 hu
        have hlt : j / size < len := by
          have := (List.getElem?_eq_some_iff.1 hx).1; simpa using this
        simp [hlt] at hx
        subst hx
        have := (hF _ hlt).2 _ u hu
        rwa [Nat.mul_comm, Nat.div_add_mod] at this
      refine ⟨by rw [flatMap_len cells size hs]; simp, fun hn => ?_⟩
      have h0 : ∃ u, (((List.range len).map F).flatMap cells)[0]? = some u := by
        refine ⟨_, List.getElem?_eq_getElem ?_⟩
        rw [flatMap_len cells size hs, List.length_map, List.length_range]
        exact Nat.mul_pos hn hp
      obtain ⟨u, hu⟩ := h0
      have hk := key 0 u hu
      have hlt := cell_block_lt hk
      rw [block_of_add] at hlt
      have hk' : w.cell? a = some u := by simpa [Addr.add] using hk
      have hsp : a.spot = none := World.cell?_spot hk'
      obtain ⟨b, o, s⟩ := a
      simp at hsp; subst hsp
      refine ⟨b, o, rfl, hlt, fun j u hu => ?_⟩
      have := key j u hu
      unfold Addr.add at this
      split at this
      · rename_i h0; subst h0; simpa using this
      · exact this
    · intro x hx
      obtain ⟨i, hi', rfl⟩ := List.mem_map.1 hx
      exact (hF i (by simpa using hi')).1
end
theorem all_at {T : Type} {p : T → Bool} {l : List T} {k : Nat} {x : T} (hx : l[k]? = some x) (hp : p x = false) : l.all p = false := by
  rw [List.all_eq_false]
  exact ⟨x, List.mem_of_getElem? hx, by simp [hp]⟩
theorem all_take {T : Type} {p : T → Bool} {l : List T} {k : Nat} {x : T} (h : (l.take k).all p = true) (hx : l[k]? = some x) (hp : p x = true) : (l.take (k + 1)).all p = true := by
  rw [List.take_add_one, hx]
  simp [h, hp]
theorem take_all {T : Type} {l : List T} {k n : Nat} (hn : l.length = n) (hk : ¬ k < n) : l.take k = l := List.take_of_length_le (by omega)
theorem take_next {T : Type} {l : List T} {k : Nat} {x : T} (hx : l[k]? = some x) : l.take (k + 1) = l.take k ++ [x] := by
  rw [List.take_add_one, hx]; rfl
end Go.Proofs.Ytkfekgmdjemkbaa
