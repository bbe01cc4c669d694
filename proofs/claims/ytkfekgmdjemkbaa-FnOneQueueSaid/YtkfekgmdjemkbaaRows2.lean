/- Words for rows that a call makes: a block known whole, cells stored one behind the other. -/
import Derived.Test.YtkfekgmdjemkbaaMem
import Derived.Laws.StructEq
import Derived.MapKept
namespace Go.Proofs.Ytkfekgmdjemkbaa
set_option linter.unusedSimpArgs false
set_option linter.unusedVariables false
open Go.RowKit Go.ChangeShapes Go.WideShapes
/-- Block g is just the cells cs of element type t, none frozen. -/
def Blk (w : World) (g : Nat) (t : TypeId) (cs : List Value) : Prop := w.heap[g]? = some (.cells cs.toArray t (0, 0))
section
variable {w w' : World} {g : Nat} {t : TypeId} {cs : List Value}
theorem Blk.lt (h : Blk w g t cs) : g < w.heap.size := by
  rcases Nat.lt_or_ge g w.heap.size with hlt | hge
  · exact hlt
  · unfold Blk at h; rw [Array.getElem?_eq_none hge] at h; cases h
theorem Blk.cell (h : Blk w g t cs) (i : Nat) : w.cell? ⟨g, i, none⟩ = cs[i]? := by
  rw [cell_of_row w g i cs.toArray t (0, 0) h]; simp
theorem Blk.frozen (h : Blk w g t cs) (i : Nat) : w.frozen? ⟨g, i, none⟩ = false := by
  unfold Blk at h
  simp [World.frozen?, h]
theorem Blk.new (w : World) (t : TypeId) (cs : List Value) : Blk (w.alloc (.cells cs.toArray t)) w.heap.size t cs := heap_alloc_new w _
theorem Blk.drewN (h : Blk w g t cs) (n : Nat) : Blk (w.drewN n) g t cs := h
theorem Blk.alloc (h : Blk w g t cs) (o : Obj) : Blk (w.alloc o) g t cs := (Below.heap_alloc w o g h.lt).trans h
theorem Blk.set_ (h : Blk w g t cs) (i : Nat) (u : Value) : Blk (w.setCell ⟨g, i, none⟩ u) g t (cs.set i u) := by
  unfold Blk at h ⊢
  simp [World.setCell, Array.getElem?_modify, h]
theorem Blk.below {B : Nat} (h : Blk w g t cs) (hb : Below B w w') (hg : g < B) : Blk w' g t cs := (hb.block g hg).trans h
theorem Blk.ext (h : Blk w g t cs) (hb : Below w.heap.size w w') : Blk w' g t cs := h.below hb h.lt
theorem Blk.get (h : Blk w g t cs) {i : Nat} (hi : i < cs.length) : ∃ v, w.cell? ⟨g, i, none⟩ = some v := ⟨cs[i], by rw [h.cell, List.getElem?_eq_getElem hi]⟩
theorem Blk.own {base size n : Nat} {xs : List Value} (h : Blk w g t cs) (hb : base ≤ g) (hc : cs.length = n * size) (hm : n ≤ maxLen) (hx : cs = xs) : w.ownsRow base t size (.slice (some ⟨g, 0, none⟩) n n) n xs := by
  subst hx
  refine ⟨hc, .inr ⟨g, n, cs.toArray, rfl, hb, h, Nat.le_refl _, hm, by simpa using hc, ?_⟩⟩
  rw [← hc]; simp
end
/-- What a list holds when cells are stored one behind the other. -/
def setsAt (cs : List Value) (o : Nat) : List Value → List Value
  | [] => cs
  | u :: us => setsAt (cs.set o u) (o + 1) us
theorem setsAt_len : ∀ (us : List Value) (cs : List Value) (o : Nat), (setsAt cs o us).length = cs.length
  | [], cs, o => rfl
  | u :: us, cs, o => by rw [setsAt, setsAt_len us]; simp
theorem take_setsAt : ∀ (us : List Value) (cs : List Value) (o : Nat), o + us.length ≤ cs.length → (setsAt cs o us).take (o + us.length) = cs.take o ++ us
  | [], cs, o, _ => by simp [setsAt]
  | u :: us, cs, o, h => by
    simp only [List.length_cons] at h
    rw [setsAt, List.length_cons, show o + (us.length + 1) = (o + 1) + us.length by omega, take_setsAt us _ _ (by simpa using by omega)]
    rw [List.take_add_one, List.take_set_of_le (Nat.le_refl _), List.getElem?_set_self (by omega)]
    simp
/-- The next element's cells are stored. -/
theorem take_elem {T : Type} {cells : T → List Value} {size : Nat} (hs : ∀ x, (cells x).length = size) {l : List T} {k n : Nat} {x : T} {cs : List Value} (hx : l[k]? = some x) (hlen : cs.length = n * size) (hk : k < n)
    (ht : cs.take (k * size) = (l.take k).flatMap cells) : (setsAt cs (k * size) (cells x)).take ((k + 1) * size) = (l.take (k + 1)).flatMap cells := by
  have hle : (k + 1) * size ≤ n * size := Nat.mul_le_mul_right _ (by omega)
  rw [Nat.add_mul, Nat.one_mul] at hle
  have := take_setsAt (cells x) cs (k * size) (by rw [hs]; omega)
  rw [hs] at this
  rw [Nat.add_mul, Nat.one_mul, this, ht, take_next hx, List.flatMap_append]
  simp
/-- make of a row of n elements. -/
theorem run_make_rowN {P : Program} (t e : TypeId) (i : TypeInfo) (z : Value) (size bytes : Nat) (ht : P.underlying t = some (.slice e)) (hi : P.info? e = some i) (hz : i.zero = some z) (hsz : i.size = size) (hby : i.bytes = bytes)
    (n c : Nat) (hnc : n ≤ c) (hbytes : bytes * c ≤ 281474976710656) (h63 : c ≤ 9223372036854775807) (w : World) :
    (Instr.makeSlice t (.int .i64 (n : Int)) (.int .i64 (c : Int))).run P w = .ok (.slice (some ⟨w.heap.size, 0, none⟩) n c) (w.alloc (.cells (madeCells z.cells (c * size)).toList.toArray e)) := by
  have hb : (i.bytes : Int) * (c : Int) ≤ 281474976710656 := by
    have h : ((i.bytes * c : Nat) : Int) ≤ 281474976710656 := by rw [hby]; omega
    rwa [Int.natCast_mul] at h
  have hr := run_make (P := P) w t e i z ht hi hz .i64 .i64 n c (by omega) (by omega) hb (by omega)
  simp only [Int.toNat_natCast, hsz] at hr
  simpa using hr
theorem madeCells_len (z : Array Value) (n : Nat) : (madeCells z n).toList.length = n := by simp [size_madeCells]
theorem only_setCell {a w : World} {g : Nat} (h : a.grownBy w (some g)) {p : Addr} (hp : p.block = g ∨ a.heap.size ≤ p.block) (u : Value) : a.grownBy (w.setCell p u) (some g) :=
  ⟨h.os, h.tape, h.output, by simpa [World.setCell] using h.size, fun i hi hne => (Below.heap_setCell w p u i (by
    rintro rfl
    rcases hp with hp | hp
    · exact hne (by rw [hp])
    · omega)).trans (h.block i hi hne)⟩
theorem only_drewN {a w : World} {row : Option Nat} (h : a.grownBy w row) (n : Nat) : a.grownBy (w.drewN n) row := ⟨h.os, h.tape, h.output, h.size, h.block⟩
theorem only_below {a w w1 : World} {row : Option Nat} (h : a.grownBy w row) (hb : Below w.heap.size w w1) : a.grownBy w1 row :=
  ⟨hb.os.trans h.os, hb.tape.trans h.tape, hb.output.trans h.output, Nat.le_trans h.size hb.size, fun i hi hn => (hb.block i (Nat.lt_of_lt_of_le hi h.size)).trans (h.block i hi hn)⟩
theorem Reads.to {w w1 : World} {size n : Nat} {A : Option Addr} {xs : List Value} (h : Reads w w.heap.size size A n xs) (hk : Below w.heap.size w w1) : Reads w1 w1.heap.size size A n xs := (h.below hk).more hk.size
theorem Blk.reads {w : World} {g : Nat} {t : TypeId} {size n : Nat} {xs : List Value} (h : Blk w g t xs) (hl : xs.length = n * size) : Reads w w.heap.size size (some ⟨g, 0, none⟩) n xs :=
  ⟨hl, fun _ => ⟨g, 0, rfl, h.lt, fun j u hu => by rw [Nat.zero_add, h.cell, hu]⟩⟩
/-- The cells of a block that has just been laid. -/
theorem cells_new (W : World) (news : List Value) (e : TypeId) : ∀ (j : Nat) (u : Value), news[j]? = some u → (W.alloc (.cells news.toArray e)).cell? ((⟨W.heap.size, 0, none⟩ : Addr).add j) = some u := by
  intro j u hu
  have h := (Blk.new W e news).cell j
  rw [hu] at h
  by_cases hj : j = 0
  · subst hj; simpa [Addr.add] using h
  · simpa [Addr.add, hj] using h
theorem own_nil (w : World) (base : Nat) (e : TypeId) (size : Nat) : w.ownsRow base e size (.slice none 0 0) 0 [] := ⟨by simp, .inl ⟨rfl, rfl⟩⟩
theorem own_empty {w : World} {base g : Nat} {e : TypeId} {size : Nat} (h : Blk w g e []) (hb : base ≤ g) : w.ownsRow base e size (.slice (some ⟨g, 0, none⟩) 0 0) 0 [] :=
  h.own hb (by simp) (by simp [maxLen]) rfl
theorem own_ext {w w1 : World} {base : Nat} {e : TypeId} {size n : Nat} {v : Value} {xs : List Value} (h : w.ownsRow base e size v n xs) (hb : Below w.heap.size w w1) : w1.ownsRow base e size v n xs := by
  refine ⟨h.1, ?_⟩
  rcases h.2 with h2 | ⟨g, cap, cur, hv, hg, hh, r⟩
  · exact .inl h2
  · refine .inr ⟨g, cap, cur, hv, hg, ?_, r⟩
    rw [hb.block g (Array.getElem?_eq_some_iff.1 hh).1]; exact hh
/-- Behind an append: what lay below base lies there still. -/
theorem below_app {base : Nat} {a w w' : World} {e : TypeId} {size n : Nat} {v : Value} {xs : List Value} (h : Below base a w) (hown : w.ownsRow base e size v n xs) (hg : w.grownBy w' v.ownBlock) (hB : base ≤ w.heap.size) : Below base a w' :=
  h.grown hg hB fun k hk => (hown.lt k hk).1
theorem own_form {w : World} {base : Nat} {e : TypeId} {size n : Nat} {v : Value} {xs : List Value} (h : w.ownsRow base e size v n xs) : ∃ A c, v = .slice A n c ∧ Reads w w.heap.size size A n xs ∧ n ≤ c ∧ c ≤ 9223372036854775807 := by
  rcases h.2 with ⟨rfl, rfl⟩ | ⟨g, cap, cur, rfl, hg, hh, hnc, hcm, hsz, ht⟩
  · exact ⟨none, 0, rfl, Reads.of_own h, Nat.le_refl _, by omega⟩
  · exact ⟨_, cap, rfl, Reads.of_own h, hnc, by unfold maxLen at hcm; omega⟩
theorem own_base {w : World} {base base' : Nat} {e : TypeId} {size n : Nat} {v : Value} {xs : List Value} (h : w.ownsRow base e size v n xs) (hb : base' ≤ base) : w.ownsRow base' e size v n xs := by
  refine ⟨h.1, ?_⟩
  rcases h.2 with h2 | ⟨g, cap, cur, hv, hg, r⟩
  · exact .inl h2
  · exact .inr ⟨g, cap, cur, hv, Nat.le_trans hb hg, r⟩
theorem Blk.far {w : World} {g : Nat} {t : TypeId} {cs : List Value} (h : Blk w g t cs) {p : Addr} (hp : p.block < g) (u : Value) : Blk (w.setCell p u) g t cs :=
  (Below.heap_setCell w p u g (by omega)).trans h
/-- A cell of the call's own, behind a callee that wrote nothing that was there: it holds what it held, it is not frozen, its block lies there. -/
theorem own_cell {W w1 : World} (hb : Below W.heap.size W w1) {b o : Nat} {v : Value} (h : W.cell? ⟨b, o, none⟩ = some v) (hf : W.frozen? ⟨b, o, none⟩ = false) :
    w1.cell? ⟨b, o, none⟩ = some v ∧ w1.frozen? ⟨b, o, none⟩ = false ∧ b < w1.heap.size :=
  ⟨ccell hb _ _ _ h, (hb.frozen (p := ⟨b, o, none⟩) (cell_block_lt h)).trans hf, Nat.lt_of_lt_of_le (cell_block_lt h) hb.size⟩
theorem grown_alloc {w w1 : World} {o : Obj} {row : Option Nat} (h : (w.alloc o).grownBy w1 row) : w.grownBy w1 row :=
  ⟨h.os, h.tape, h.output, Nat.le_trans (by simp) h.size, fun i hi hn => (h.block i (by simp; omega) hn).trans (Below.heap_alloc w o i hi)⟩
theorem own_far {w w1 : World} {base : Nat} {e : TypeId} {size n : Nat} {v u : Value} {xs : List Value} (h : w.ownsRow base e size v n xs) (hg : w.grownBy w1 u.ownBlock) (hne : ∀ g, v.ownBlock = some g → u.ownBlock = some g → False) : w1.ownsRow base e size v n xs := by
  refine h.kept hg ?_
  cases hv : v.ownBlock with
  | none => exact .inl rfl
  | some g => exact .inr fun hu => hne g hv hu.symm
def szI (x : Int) : Int := if x < 0 then -1 else x
theorem szI_neg {x : Int} (h : x < 0) : szI x = -1 := by rw [szI, if_pos h]
theorem szI_nn {x : Int} (h : ¬ x < 0) : szI x = x := by rw [szI, if_neg h]
theorem cell_far {w w1 : World} {row : Option Nat} {b o : Nat} {v : Value} (hg : w.grownBy w1 row) (h : w.cell? ⟨b, o, none⟩ = some v) (hne : ∀ g, row = some g → b < g) : w1.cell? ⟨b, o, none⟩ = some v :=
  (World.cell?_of_block (hg.block b (cell_block_lt h) (fun e => by have := hne b e.symm; omega))).trans h
theorem cell_off {w w1 : World} {row : Option Nat} {b o : Nat} {v : Value} (hg : w.grownBy w1 row) (h : w.cell? ⟨b, o, none⟩ = some v) (hne : ∀ g, row = some g → b ≠ g) : w1.cell? ⟨b, o, none⟩ = some v :=
  (World.cell?_of_block (hg.block b (cell_block_lt h) (fun e => hne b e.symm rfl))).trans h
theorem below_undrew {B : Nat} {w w1 : World} (h : Below B w.drew w1) : Below B w w1 := ⟨h.os, h.tape, h.output, h.size, h.block⟩
theorem blk_after {w : World} {o : Obj} {e : TypeId} {cs : List Value} : Blk ((w.alloc o).alloc (.cells cs.toArray e)) (w.heap.size + 1) e cs := by
  have := Blk.new (w.alloc o) e cs
  simpa using this
theorem cell_ne {w w1 : World} {row : Option Nat} {b o : Nat} {v : Value} (hg : w.grownBy w1 row) (h : w.cell? ⟨b, o, none⟩ = some v) (hne : row ≠ some b) : w1.cell? ⟨b, o, none⟩ = some v :=
  (World.cell?_of_block (hg.block b (cell_block_lt h) (fun e => hne e.symm))).trans h
theorem frozen_ne {w w1 : World} {row : Option Nat} {b o : Nat} (hg : w.grownBy w1 row) (hlt : b < w.heap.size) (h : w.frozen? ⟨b, o, none⟩ = false) (hne : row ≠ some b) : w1.frozen? ⟨b, o, none⟩ = false :=
  (World.frozen?_of_block (a := ⟨b, o, none⟩) (hg.block b hlt (fun e => hne e.symm))).trans h
theorem own_set_ne {w : World} {base : Nat} {e : TypeId} {size n : Nat} {v : Value} {xs : List Value} (h : w.ownsRow base e size v n xs) {p : Addr} (hp : v.ownBlock ≠ some p.block) (u : Value) : (w.setCell p u).ownsRow base e size v n xs := by
  refine ⟨h.1, ?_⟩
  rcases h.2 with h2 | ⟨g, cap, cur, rfl, hg, hh, r⟩
  · exact .inl h2
  · refine .inr ⟨g, cap, cur, rfl, hg, ?_, r⟩
    rw [Below.heap_setCell _ _ _ _ (fun e => hp (by rw [← e]; rfl))]; exact hh
/-- An empty row with room. -/
theorem Blk.own0 {w : World} {g : Nat} {t : TypeId} {cs : List Value} {base size c : Nat} (h : Blk w g t cs) (hb : base ≤ g) (hc : cs.length = c * size) (hm : c ≤ maxLen) : w.ownsRow base t size (.slice (some ⟨g, 0, none⟩) 0 c) 0 [] :=
  ⟨by simp, .inr ⟨g, c, cs.toArray, rfl, hb, h, Nat.zero_le _, hm, by simpa using hc, by simp⟩⟩
/-- A row of one cell that has just been laid. -/
theorem new_reads (W : World) (u : Value) (e : TypeId) : Reads (W.alloc (.cells #[u] e)) (W.heap.size + 1) 1 (some ⟨W.heap.size, 0, none⟩) 1 [u] := by
  have := (Blk.new W e [u]).reads (n := 1) (size := 1) (by simp)
  simpa using this
theorem below_via {B : Nat} {a X Y w1 : World} (_ : Below B a X) (hXY : Below X.heap.size X Y) (hb : Below Y.heap.size Y w1) : Below X.heap.size X w1 := ext_step hXY hXY.size hb
theorem below_via_size {B : Nat} {a X Y w1 : World} (_ : Below B a X) (hXY : Below X.heap.size X Y) (_ : Below Y.heap.size Y w1) : X.heap.size ≤ Y.heap.size := hXY.size
theorem strNe {x y : ByteArray} (h : x ≠ y) : (x.toList == y.toList) = false := by
  rw [← beq_toListBytes]
  exact Bool.eq_false_iff.2 fun e => h ((Go.MapKept.bytes_beq x y).1 e)
end Go.Proofs.Ytkfekgmdjemkbaa
