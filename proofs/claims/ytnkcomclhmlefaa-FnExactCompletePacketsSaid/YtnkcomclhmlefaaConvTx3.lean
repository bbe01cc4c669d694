/- Contracts of the laws' helpers on queues for sending: mark, held. -/
import Derived.Test.YtnkcomclhmlefaaTxW
import Derived.Test.YtnkcomclhmlefaaTxD
namespace Go.Proofs.Ytnkcomclhmlefaa
set_option linter.unusedSimpArgs false
set_option linter.unusedVariables false
open Go.RowKit Go.ChangeShapes Go.WideShapes
theorem setsAt_left : ∀ (us a b : List Value) (o : Nat), o + us.length ≤ a.length → setsAt (a ++ b) o us = setsAt a o us ++ b
  | [], a, b, o, _ => rfl
  | u :: us, a, b, o, h => by
    rw [List.length_cons] at h
    rw [setsAt, setsAt, List.set_append_left _ _ (by omega)]
    exact setsAt_left us _ b (o + 1) (by rw [List.length_set]; omega)
theorem setsAt_right : ∀ (us a b : List Value) (o : Nat), setsAt (a ++ b) (a.length + o) us = a ++ setsAt b o us
  | [], a, b, o => rfl
  | u :: us, a, b, o => by
    rw [setsAt, setsAt, List.set_append_right _ _ (by omega), Nat.add_sub_cancel_left, Nat.add_assoc]
    exact setsAt_right us a _ (o + 1)
theorem setsAt_take : ∀ (us cs : List Value) (o m : Nat), (setsAt cs o us).take m = setsAt (cs.take m) o us
  | [], _, _, _ => rfl
  | u :: us, cs, o, m => by
    rw [setsAt, setsAt, setsAt_take us _ _ _, List.take_set]
theorem flat_setsAt {T : Type} {cells : T → List Value} {size : Nat} (hs : ∀ x, (cells x).length = size) : ∀ (l : List T) (i : Nat) (y : T), i < l.length → setsAt (l.flatMap cells) (i * size) (cells y) = (l.set i y).flatMap cells
  | [], i, y, h => by simp at h
  | x :: l, 0, y, _ => by
    rw [List.flatMap_cons, List.set_cons_zero, List.flatMap_cons, Nat.zero_mul, setsAt_left _ _ _ _ (by rw [hs, hs]; omega), setsAt_all (by rw [hs, hs])]
  | x :: l, i + 1, y, h => by
    rw [List.flatMap_cons, List.set_cons_succ, List.flatMap_cons, Nat.add_mul, Nat.one_mul, Nat.add_comm, ← hs x, setsAt_right, hs x, flat_setsAt hs l i y (by simpa using h)]
theorem flat_set1 {T : Type} {cells : T → List Value} {size : Nat} (hs : ∀ x, (cells x).length = size) : ∀ (l : List T) (i j : Nat) (v : Value) (x y : T), l[i]? = some x → j < size → cells y = (cells x).set j v → (l.flatMap cells).set (i * size + j) v = (l.set i y).flatMap cells
  | [], i, j, v, x, y, h, _, _ => by simp at h
  | z :: l, 0, j, v, x, y, h, hj, he => by
    simp only [List.getElem?_cons_zero, Option.some.injEq] at h
    subst h
    rw [List.flatMap_cons, List.set_cons_zero, List.flatMap_cons, he, Nat.zero_mul, Nat.zero_add, List.set_append_left _ _ (by rw [hs]; exact hj)]
  | z :: l, i + 1, j, v, x, y, h, hj, he => by
    rw [List.flatMap_cons, List.set_cons_succ, List.flatMap_cons, Nat.add_mul, Nat.one_mul, show i * size + size + j = (cells z).length + (i * size + j) by rw [hs]; omega, List.set_append_right _ _ (by omega), Nat.add_sub_cancel_left, flat_set1 hs l i j v x y (by simpa using h) hj he]
/-- A row of the call's own that is not empty: its block. -/
theorem own_blk {w : World} {base size n c : Nat} {e : TypeId} {A : Option Addr} {xs : List Value} (h : w.ownsRow base e size (.slice A n c) n xs) (h0 : 0 < n) : ∃ g cs, A = some ⟨g, 0, none⟩ ∧ base ≤ g ∧ Blk w g e cs ∧ n ≤ c ∧ c ≤ maxLen ∧ cs.length = c * size ∧ cs.take (n * size) = xs := by
  rcases h.2 with ⟨hv, hn⟩ | ⟨g, cap, cur, hv, hg, hh, hnc, hcm, hsz, ht⟩
  · omega
  · injection hv with h1 h2 h3
    subst h1; subst h3
    exact ⟨g, cur.toList, rfl, hg, by unfold Blk; simpa using hh, hnc, hcm, by simpa using hsz, ht⟩
theorem own_mk {w : World} {base size n c g : Nat} {e : TypeId} {cs xs : List Value} (hg : base ≤ g) (hb : Blk w g e cs) (hnc : n ≤ c) (hcm : c ≤ maxLen) (hl : cs.length = c * size) (ht : cs.take (n * size) = xs) (hx : xs.length = n * size) : w.ownsRow base e size (.slice (some ⟨g, 0, none⟩) n c) n xs :=
  ⟨hx, .inr ⟨g, c, cs.toArray, rfl, hg, hb, hnc, hcm, by simpa using hl, by simpa using ht⟩⟩
/-- Only blocks of which P speaks may have changed. -/
def GrownB (w w' : World) (P : Nat → Prop) : Prop := w'.os = w.os ∧ w'.tape = w.tape ∧ w'.output = w.output ∧ w.heap.size ≤ w'.heap.size ∧ ∀ i, i < w.heap.size → ¬ P i → w'.heap[i]? = w.heap[i]?
section
variable {a w w1 : World} {P : Nat → Prop}
theorem GrownB.refl (w : World) (P : Nat → Prop) : GrownB w w P := ⟨rfl, rfl, rfl, Nat.le_refl _, fun _ _ _ => rfl⟩
theorem GrownB.size (h : GrownB a w P) : a.heap.size ≤ w.heap.size := h.2.2.2.1
theorem GrownB.chgA {b : Nat} (h : GrownB a w P) (hc : ChgA b w w1) (hb : P b) : GrownB a w1 P :=
  ⟨hc.os.trans h.1, hc.tape.trans h.2.1, hc.output.trans h.2.2.1, by rw [hc.size]; exact h.size, fun i hi hn => (hc.other i (fun e => hn (e ▸ hb))).trans (h.2.2.2.2 i hi hn)⟩
theorem GrownB.row {row : Option Nat} (h : GrownB a w P) (hg : w.grownBy w1 row) (hr : ∀ g, row = some g → P g) : GrownB a w1 P :=
  ⟨hg.os.trans h.1, hg.tape.trans h.2.1, hg.output.trans h.2.2.1, Nat.le_trans h.size hg.size, fun i hi hn => (hg.block i (Nat.lt_of_lt_of_le hi h.size) (fun e => hn (hr i e.symm))).trans (h.2.2.2.2 i hi hn)⟩
theorem GrownB.ext (h : GrownB a w P) (hb : Below w.heap.size w w1) : GrownB a w1 P :=
  ⟨hb.os.trans h.1, hb.tape.trans h.2.1, hb.output.trans h.2.2.1, Nat.le_trans h.size hb.size, fun i hi hn => (hb.block i (Nat.lt_of_lt_of_le hi h.size)).trans (h.2.2.2.2 i hi hn)⟩
theorem GrownB.mono {Q : Nat → Prop} (h : GrownB a w P) (hq : ∀ g, P g → Q g) : GrownB a w Q := ⟨h.1, h.2.1, h.2.2.1, h.size, fun i hi hn => h.2.2.2.2 i hi fun hp => hn (hq i hp)⟩
theorem GrownB.below {B : Nat} {z : World} (hk : Below B z a) (hB : B ≤ a.heap.size) (h : GrownB a w P) (hp : ∀ g, P g → B ≤ g) : Below B z w :=
  ⟨h.1.trans hk.os, h.2.1.trans hk.tape, h.2.2.1.trans hk.output, Nat.le_trans hk.size h.size, fun i hi => (h.2.2.2.2 i (by omega) (fun e => by have := hp i e; omega)).trans (hk.block i hi)⟩
theorem GrownB.cell {b o : Nat} {v : Value} (h : GrownB a w P) (hc : a.cell? ⟨b, o, none⟩ = some v) (hn : ¬ P b) : w.cell? ⟨b, o, none⟩ = some v :=
  (World.cell?_of_block (h.2.2.2.2 b (cell_block_lt hc) hn)).trans hc
theorem GrownB.own {base size n : Nat} {e : TypeId} {v : Value} {xs : List Value} (h : GrownB a w P) (ho : a.ownsRow base e size v n xs) (hn : ∀ g, v.ownBlock = some g → ¬ P g) : w.ownsRow base e size v n xs := by
  refine ⟨ho.1, ?_⟩
  rcases ho.2 with h5 | ⟨g, cap, cur, hv, hg, hh, r⟩
  · exact .inl h5
  · refine .inr ⟨g, cap, cur, hv, hg, ?_, r⟩
    rw [h.2.2.2.2 g (Array.getElem?_eq_some_iff.1 hh).1 (hn g (by rw [hv]; rfl))]; exact hh
theorem GrownB.txO {base : Nat} {H : TxH} (h : GrownB a w P) (ho : TxO a base H) (hn : ∀ g, H.blk g → ¬ P g) : TxO w base H :=
  ⟨⟨ho.1.1, h.own ho.1.2 fun g e => hn g (.inl e)⟩, ⟨ho.2.1.1, h.own ho.2.1.2 fun g e => hn g (.inr (.inl e))⟩, ⟨fun x hx => ⟨(ho.2.2.1.1 x hx).1, h.own (ho.2.2.1.1 x hx).2 fun g e => hn g (.inr (.inr ⟨x, hx, e⟩))⟩, ho.2.2.1.2⟩, ho.2.2.2⟩
theorem GrownB.rd {B : Nat} {H : TxH} (h : GrownB a w P) (hr : TxR a B H) (hB : B ≤ a.heap.size) (hp : ∀ g, P g → B ≤ g) : TxR w B H := hr.below (GrownB.below (Below.refl _ _) hB h hp)
end
/-- What the laws write into waiting packets, from a number on. -/
def mkI (n : Nat) (q : Int) : List Int := (List.range n).map fun (i : Nat) => q + (i : Int) * 1
theorem mkI_len (n : Nat) (q : Int) : (mkI n q).length = n := by simp [mkI]
theorem mkI_ints (n : Nat) (q : Int) : ints (mkI n q) = marksIntS n q := by
  simp [ints, mkI, marksIntS, mkIntS, List.flatMap_map]
def markX (q : Int) (x : SentH) : SentH := ⟨q, q + 1, x.A, x.n, x.c, mkI x.n (q + 2)⟩
def markH : Int → List SentH → List SentH
  | _, [] => []
  | q, x :: l => markX q x :: markH (q + 2 + x.n) l
theorem markH_len : ∀ (l : List SentH) (q : Int), (markH q l).length = l.length
  | [], _ => rfl
  | x :: l, q => by rw [markH, List.length_cons, markH_len l, List.length_cons]
theorem markH_app : ∀ (a b : List SentH) (q : Int), markH q (a ++ b) = markH q a ++ markH (q + 2 * a.length + totB a) b
  | [], b, q => by simp [markH, totB]
  | x :: a, b, q => by
    rw [List.cons_append, markH, markH, List.cons_append, markH_app a b]
    congr 3
    simp only [totB, List.map_cons, List.sum_cons, List.length_cons]
    omega
def mkL (q : Int) (L : List SentH) (k : Nat) : List SentH := markH q (L.take k) ++ L.drop k
theorem mkL_0 (q : Int) (L : List SentH) : mkL q L 0 = L := by simp [mkL, markH]
theorem mkL_all (q : Int) (L : List SentH) : mkL q L L.length = markH q L := by simp [mkL]
theorem mkL_len (q : Int) (L : List SentH) (k : Nat) : (mkL q L k).length = L.length := by
  rw [mkL, List.length_append, markH_len, ← List.length_append, List.take_append_drop]
theorem mkL_get {q : Int} {L : List SentH} {k : Nat} {x : SentH} (h : L[k]? = some x) : (mkL q L k)[k]? = some x := by
  have hk : k < L.length := (List.getElem?_eq_some_iff.1 h).1
  rw [mkL, List.getElem?_append_right (by rw [markH_len, List.length_take]; omega), markH_len, List.length_take, List.getElem?_drop]
  rw [show k + (k - min k L.length) = k by omega]; exact h
theorem mkL_next {q : Int} {L : List SentH} {k : Nat} {x : SentH} (h : L[k]? = some x) : mkL q L (k + 1) = (mkL q L k).set k (markX (q + 2 * k + totB (L.take k)) x) := by
  have hk : k < L.length := (List.getElem?_eq_some_iff.1 h).1
  have hd : L.drop k = x :: L.drop (k + 1) := by
    rw [List.drop_eq_getElem_cons hk]
    have : L[k] = x := by rw [List.getElem?_eq_getElem hk] at h; injection h
    rw [this]
  have hl : (markH q (L.take k)).length = k := by rw [markH_len, List.length_take]; omega
  rw [mkL, mkL, take_next h, markH_app, hd, List.set_append_right _ _ (by omega), hl, Nat.sub_self, List.set_cons_zero, List.length_take, show min k L.length = k by omega]
  simp [markH]
theorem markH_get {q : Int} {L : List SentH} {k : Nat} {x : SentH} (h : L[k]? = some x) : (markH q L)[k]? = some (markX (q + 2 * k + totB (L.take k)) x) := by
  have hk : k < L.length := (List.getElem?_eq_some_iff.1 h).1
  have h1 : markH q L = markH q (L.take (k + 1)) ++ markH (q + 2 * (L.take (k + 1)).length + totB (L.take (k + 1))) (L.drop (k + 1)) := by rw [← markH_app, List.take_append_drop]
  rw [h1, take_next h, markH_app, List.append_assoc, List.getElem?_append_right (by rw [markH_len, List.length_take]; omega), markH_len, List.length_take, show k - min k L.length = 0 by omega, show min k L.length = k by omega]
  simp [markH]
theorem InOwn.setAt {w w1 : World} {base k : Nat} {M : List SentH} {x y : SentH} (h : InOwn w base M) (hk : M[k]? = some x) (hg : w.grownBy w1 x.ob) (ho : w1.ownsRow base 3 1 (.slice y.A y.n y.c) y.n (ints y.bufs)) (hy : y.ob = x.ob) (hl : y.bufs.length = y.n) : InOwn w1 base (M.set k y) := by
  obtain ⟨hkl, hkx⟩ := List.getElem?_eq_some_iff.1 hk
  have hp := List.pairwise_iff_getElem.1 h.2
  refine ⟨fun z hz => ?_, List.pairwise_iff_getElem.2 fun i j hi hj hij g h1 h2 => ?_⟩
  · obtain ⟨j, hj, rfl⟩ := List.getElem_of_mem hz
    rw [List.length_set] at hj
    by_cases hjk : k = j
    · subst hjk
      rw [List.getElem_set_self]; exact ⟨hl, ho⟩
    · rw [List.getElem_set_ne hjk]
      have hm := List.getElem_mem hj
      refine ⟨(h.1 _ hm).1, (h.1 _ hm).2.kept hg ?_⟩
      cases ho2 : (Value.slice M[j].A M[j].n M[j].c).ownBlock with
      | none => exact .inl rfl
      | some g =>
        refine .inr fun hu => ?_
        rcases Nat.lt_or_gt_of_ne hjk with h3 | h3
        · exact hp k j hkl hj h3 g (by rw [hkx, ← hu]) ho2
        · exact hp j k hj hkl h3 g ho2 (by rw [hkx, ← hu])
  · rw [List.length_set] at hi hj
    rw [List.getElem_set] at h1 h2
    have e1 : M[i].ob = some g := by
      split at h1
      · rename_i e; subst e; rw [hkx, ← hy]; exact h1
      · exact h1
    have e2 : M[j].ob = some g := by
      split at h2
      · rename_i e; subst e; rw [hkx, ← hy]; exact h2
      · exact h2
    exact hp i j hi hj hij g e1 e2
end Go.Proofs.Ytnkcomclhmlefaa
