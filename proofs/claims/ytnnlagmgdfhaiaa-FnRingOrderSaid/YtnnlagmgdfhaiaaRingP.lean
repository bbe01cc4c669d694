/- Plain laws on rings: what is put can be taken, in that order. -/
import Derived.Test.YtnnlagmgdfhaiaaDrawRng2
import Derived.Test.YtnnlagmgdfhaiaaPutAll
import Derived.Test.YtnnlagmgdfhaiaaRingTk
namespace Go.Proofs.Ytnnlagmgdfhaiaa
set_option linter.unusedSimpArgs false
set_option linter.unusedVariables false
open Go.RowKit Go.ChangeShapes Go.WideShapes
theorem inB_i {x a b : Int} (h0 : a ≤ x) (h1 : x ≤ b) : inB x a b = true := by simp [inB, h0, h1]
theorem world_pg {ml : List Mapping} (h : worldL ml) (hl : ml.length = 5) {v : Int} (h0 : 0 ≤ v) (h1 : v < 5) : pgI ml 0 v false = 4 - v := by
  obtain ⟨k, rfl⟩ := Int.eq_ofNat_of_zero_le h0
  obtain ⟨wb, e⟩ := h k (by omega)
  have hm := (mapsB_el (world_maps h (by omega)) e).2
  rw [pgI_at false hm e]
  simp
theorem world_place {ml : List Mapping} (h : worldL ml) (hl : ml.length = 5) {a : Int} (h0 : 0 ≤ a) (h1 : a < 640) : placeI ml 0 a false = (4 - a / 128) * 128 + a % 128 := by
  have hp := world_pg h hl (v := a / 128) (by omega) (by omega)
  rw [placeI, if_neg (by omega), hp, if_neg (by omega)]
theorem world_ok {ml : List Mapping} (h : worldL ml) (hl : ml.length = 5) {pg : List ByteArray} (hp : memB pg = true) (h5 : pg.length = 5) {a : Int} (h0 : 0 ≤ a) (h1 : a + 16 ≤ 640) : dmaOk ml pg 0 a 16 false = true := by
  refine dma_iff.2 ⟨world_maps h (by omega), hp, by decide, fun j hj => ?_⟩
  have hj : j < 16 := hj
  rw [world_place h hl (by omega) (by omega), h5]
  omega
theorem world_apart {ml : List Mapping} (h : worldL ml) (hl : ml.length = 5) {a b : Int} (a0 : 0 ≤ a) (a1 : a + 16 ≤ 640) (b0 : 0 ≤ b) (b1 : b + 16 ≤ 640) (hab : a + 16 ≤ b ∨ b + 16 ≤ a) : ∀ p ∈ plc ml 0 false a 16, p ∉ plc ml 0 false b 16 := by
  intro p hp hq
  obtain ⟨i, hi, e1⟩ := List.mem_map.1 hp
  obtain ⟨j, hj, e2⟩ := List.mem_map.1 hq
  have hi := List.mem_range.1 hi
  have hj := List.mem_range.1 hj
  rw [world_place h hl (by omega) (by omega)] at e1
  rw [world_place h hl (by omega) (by omega)] at e2
  omega
theorem world_nodup {ml : List Mapping} (h : worldL ml) (hl : ml.length = 5) {a : Int} (a0 : 0 ≤ a) (a1 : a + 16 ≤ 640) : (plc ml 0 false a 16).Nodup := by
  rw [List.nodup_iff_pairwise_ne, plc, List.pairwise_map]
  refine (List.pairwise_lt_range (n := 16)).imp_of_mem ?_
  intro i j hi hj hij e
  have hi := List.mem_range.1 hi
  have hj := List.mem_range.1 hj
  rw [world_place h hl (by omega) (by omega), world_place h hl (by omega) (by omega)] at e
  omega
theorem paG_app {l : List Mapping} {d base size head : Int} : ∀ (a : List ByteArray) (x : ByteArray) (p : List ByteArray) (t : Int), paG l d base size head (a ++ [x]) p t = (paG l d base size head a p t).bind fun q => if rputB l q.1 d base size head q.2 x = true then some (rputM l q.1 d base size head q.2 x, rputT l q.1 d base size head q.2 x) else none
  | [], x, p, t => by
    show paG l d base size head [x] p t = _
    rw [paG, paG]
    simp only [paG, Option.bind_some]
  | e :: a, x, p, t => by
    rw [List.cons_append, paG, paG]
    split
    · rw [paG_app a]
    · rfl
theorem paG_next {l : List Mapping} {d base size head t0 : Int} {es pg : List ByteArray} {k : Nat} {x : ByteArray} (hx : es[k]? = some x) : paG l d base size head (es.take (k + 1)) pg t0 = (paG l d base size head (es.take k) pg t0).bind fun q => if rputB l q.1 d base size head q.2 x = true then some (rputM l q.1 d base size head q.2 x, rputT l q.1 d base size head q.2 x) else none := by
  rw [take_next hx, paG_app]
/-- A put that goes well. -/
theorem rput_t {l : List Mapping} {p : List ByteArray} {d base size head t : Int} {s : ByteArray} (h : rputB l p d base size head t s = true) :
    ringB base size head t = true ∧ usedI size head t < size ∧ s.size = 16 ∧ dmaOk l p d (slotI base size head t t) 16 true = true := by
  rw [rputB, Bool.and_eq_true, Bool.and_eq_true] at h
  obtain ⟨h1, h2, h3⟩ := h
  have h1 : ¬ freeI base size head t = 0 := by simpa using h1
  have hr := freeI_ok h1
  obtain ⟨_, _, _, _, _, _, _, _, h5⟩ := ringB_size hr
  rw [freeI, if_pos hr] at h1
  exact ⟨hr, by omega, by simpa using h2, h3⟩
theorem ring_next {base size head t : Int} (h : ringB base size head t = true) (hu : usedI size head t < size) : ringB base size head ((t + 1) % (2 * size)) = true ∧ usedI size head ((t + 1) % (2 * size)) = usedI size head t + 1 := by
  simp only [ringB, Bool.and_eq_true, decide_eq_true_eq] at h
  obtain ⟨⟨⟨⟨h1, h2⟩, h3⟩, h4⟩, h5⟩ := h
  have hs := (szB_iff size).1 h2
  obtain ⟨a0, a1⟩ := inB_t h3
  obtain ⟨b0, b1⟩ := inB_t h4
  simp only [usedI, h2, if_true] at hu h5 ⊢
  have hu2 : ((t + 1) % (2 * size) - head) % (2 * size) = (t - head) % (2 * size) + 1 := by
    rcases hs with rfl | rfl | rfl | rfl <;> omega
  have m0 := Int.emod_nonneg (t + 1) (show 2 * size ≠ 0 by omega)
  have m1 := Int.emod_lt_of_pos (t + 1) (show 0 < 2 * size by omega)
  refine ⟨?_, hu2⟩
  simp only [ringB, usedI, h1, h2, h3, hu2, if_true, Bool.true_and, Bool.and_eq_true, decide_eq_true_eq]
  exact ⟨inB_i m0 (by omega), by omega⟩
/-- The ring stays sound while entries are put. -/
theorem paG_ring {l : List Mapping} {d base size head : Int} : ∀ (es p q : List ByteArray) (t u : Int), ringB base size head t = true → paG l d base size head es p t = some (q, u) → ringB base size head u = true
  | [], p, q, t, u, h, e => by rw [paG] at e; injection e with e; injection e with _ e; rw [← e]; exact h
  | x :: es, p, q, t, u, h, e => by
    rw [paG] at e
    split at e
    · rename_i hr
      obtain ⟨r1, r2, _, _⟩ := rput_t hr
      refine paG_ring es _ _ _ _ ?_ e
      rw [(put_yes hr).2]
      exact (ring_next r1 r2).1
    · cases e
theorem slot0 {base size head t : Int} (h : ringB base size head t = true) : slotI base size head t 0 = base := by
  rw [slotI, h]; simp
/-- The address of the slot of the i-th entry. -/
def slotA (base size t0 : Int) (i : Nat) : Int := base + (t0 + (i : Int)) % size * 16
theorem slotA_bd {base size t0 : Int} (hb0 : 0 ≤ base) (hb1 : base ≤ 256) (hs : size = 2 ∨ size = 4 ∨ size = 8) (i : Nat) : 0 ≤ slotA base size t0 i ∧ slotA base size t0 i + 16 ≤ 640 := by
  have m0 := Int.emod_nonneg (t0 + (i : Int)) (show size ≠ 0 by omega)
  have m1 := Int.emod_lt_of_pos (t0 + (i : Int)) (show 0 < size by omega)
  unfold slotA; omega
theorem slotA_ne {base size t0 : Int} (hs : size = 2 ∨ size = 4 ∨ size = 8) {i k : Nat} (hik : i < k) (hk : (k : Int) < size) : slotA base size t0 i + 16 ≤ slotA base size t0 k ∨ slotA base size t0 k + 16 ≤ slotA base size t0 i := by
  unfold slotA
  rcases hs with rfl | rfl | rfl <;> omega
theorem mod_slot {base size t0 : Int} (hs : size = 2 ∨ size = 4 ∨ size = 8) (h0 : 0 ≤ t0) (i : Nat) : (t0 + (i : Int)) % (2 * size) % size = (t0 + (i : Int)) % size := by
  rcases hs with rfl | rfl | rfl <;> omega
/-- Behind k puts into an empty ring. -/
theorem ring_inv {ml : List Mapping} {pg es : List ByteArray} {base size t0 : Int} (hw : worldL ml) (h5 : ml.length = 5) (hp : memB pg = true) (hp5 : pg.length = 5) (hb0 : 0 ≤ base) (hb1 : base ≤ 256) (hs : size = 2 ∨ size = 4 ∨ size = 8) (t00 : 0 ≤ t0) (t01 : t0 < 2 * size) :
    ∀ (k : Nat) (p : List ByteArray) (t : Int), k ≤ es.length → paG ml 0 base size t0 (es.take k) pg t0 = some (p, t) →
      memB p = true ∧ p.length = 5 ∧ t = (t0 + (k : Int)) % (2 * size) ∧ ringB base size t0 t = true ∧ usedI size t0 t = k ∧ (k : Int) ≤ size ∧ ∀ i, i < k → ∀ e, es[i]? = some e → dmaR ml p 0 (slotA base size t0 i) 16 = e
  | 0, p, t, _, h => by
    rw [List.take_zero, paG] at h
    injection h with h
    injection h with h1 h2
    subst h1; subst h2
    have hsz : szB size = true := (szB_iff size).2 (by omega)
    have hu : usedI size t0 t0 = 0 := by simp [usedI, hsz]
    refine ⟨hp, hp5, by rcases hs with rfl | rfl | rfl <;> omega, ?_, by rw [hu]; rfl, by omega, fun i hi => by omega⟩
    simp only [ringB, hu, hsz, Bool.and_eq_true, decide_eq_true_eq]
    refine ⟨⟨⟨⟨inB_i hb0 (by omega), trivial⟩, inB_i t00 (by omega)⟩, inB_i t00 (by omega)⟩, by omega⟩
  | k + 1, p, t, hk, h => by
    have hx : es[k]? = some es[k] := List.getElem?_eq_getElem (by omega)
    rw [paG_next hx] at h
    cases hq : paG ml 0 base size t0 (es.take k) pg t0 with
    | none => rw [hq] at h; cases h
    | some q =>
      obtain ⟨p1, t1⟩ := q
      rw [hq] at h
      simp only [Option.bind_some] at h
      split at h
      · rename_i hr
        injection h with h
        injection h with e1 e2
        obtain ⟨i1, i2, i3, i4, i5, i6, i7⟩ := ring_inv hw h5 hp hp5 hb0 hb1 hs t00 t01 k p1 t1 (by omega) hq
        obtain ⟨r1, r2, r3, r4⟩ := rput_t hr
        obtain ⟨n1, n2⟩ := ring_next r1 r2
        rw [(put_yes hr).2] at e2
        rw [(put_yes hr).1] at e1
        have ht : t = (t0 + ((k + 1 : Nat) : Int)) % (2 * size) := by
          rw [← e2, i3]
          rcases hs with rfl | rfl | rfl <;> omega
        have hsl : slotI base size t0 t1 t1 = slotA base size t0 k := by
          have m0 := Int.emod_nonneg (t0 + (k : Int)) (show 2 * size ≠ 0 by omega)
          rw [slotI, r1, show decide (0 ≤ t1) = true by rw [i3]; simpa using m0, Bool.and_self, if_pos rfl, i3, mod_slot (base := base) hs t00]
          rfl
        rw [hsl] at e1 r4
        have r4 : dmaOk ml p1 0 (slotA base size t0 k) (es[k].size : Int) true = true := by rw [r3]; exact r4
        have hks : (k : Int) < size := by rw [← i5]; exact r2
        obtain ⟨d1, d2, d3⟩ := dma_round (s := es[k]) (by exact r4)
        have hm2 : memB p = true := by rw [← e1]; exact dmaW_mem i1
        have hl2 : p.length = 5 := by rw [← e1, dmaW_len]; exact i2
        obtain ⟨bk0, bk1⟩ := slotA_bd (t0 := t0) hb0 hb1 hs k
        refine ⟨hm2, hl2, ht, by rw [← e2]; exact n1, by rw [← e2, n2, i5]; omega, by omega, fun i hi e he => ?_⟩
        by_cases hik : i = k
        · subst hik
          rw [hx] at he
          injection he with he
          rw [← he, ← e1]
          have h9 := d3 (by rw [r3]; exact world_nodup hw h5 bk0 bk1)
          rw [r3] at h9
          exact h9
        · have hlt : i < k := by omega
          obtain ⟨bi0, bi1⟩ := slotA_bd (t0 := t0) hb0 hb1 hs i
          have hold := i7 i hlt e he
          rw [← hold]
          apply bl_ext
          rw [dmaR_bl (world_ok hw h5 hm2 hl2 bi0 bi1), dmaR_bl (world_ok hw h5 i1 i2 bi0 bi1)]
          apply List.map_congr_left
          intro a ha
          rw [← e1, dmaW_by r4, r3]
          have hpl : plc ml 0 true (slotA base size t0 k) 16 = plc ml 0 false (slotA base size t0 k) 16 := by
            obtain ⟨_, _, _, g4⟩ := dma_iff.1 r4
            rw [Int.toNat_natCast, r3] at g4
            exact (okA_rd g4).2.symm
          rw [hpl]
          exact wf_out (world_apart hw h5 bi0 bi1 bk0 bk1 (slotA_ne hs hlt hks) a ha)
      · cases h
/-- Taking the k-th of n entries. -/
theorem ring_take {ml : List Mapping} {p : List ByteArray} {base size t0 t : Int} {n k : Nat} {e : ByteArray} (hw : worldL ml) (h5 : ml.length = 5) (hp : memB p = true) (hp5 : p.length = 5) (hb0 : 0 ≤ base) (hb1 : base ≤ 256) (hs : size = 2 ∨ size = 4 ∨ size = 8) (t00 : 0 ≤ t0)
    (ht : t = (t0 + (n : Int)) % (2 * size)) (hn : (n : Int) ≤ size) (hk : k < n) (hrd : dmaR ml p 0 (slotA base size t0 k) 16 = e) :
    takeB ml p 0 base size ((t0 + (k : Int)) % (2 * size)) t = true ∧ takeS ml p 0 base size ((t0 + (k : Int)) % (2 * size)) t = e ∧ takeH ml p 0 base size ((t0 + (k : Int)) % (2 * size)) t = (t0 + ((k + 1 : Nat) : Int)) % (2 * size) := by
  have hsz : szB size = true := (szB_iff size).2 (by omega)
  have m0 := Int.emod_nonneg (t0 + (k : Int)) (show 2 * size ≠ 0 by omega)
  have m1 := Int.emod_lt_of_pos (t0 + (k : Int)) (show 0 < 2 * size by omega)
  have m2 := Int.emod_nonneg (t0 + (n : Int)) (show 2 * size ≠ 0 by omega)
  have m3 := Int.emod_lt_of_pos (t0 + (n : Int)) (show 0 < 2 * size by omega)
  have hu : usedI size ((t0 + (k : Int)) % (2 * size)) t = (n : Int) - k := by
    rw [usedI, hsz, if_pos rfl, ht]
    rcases hs with rfl | rfl | rfl <;> omega
  have hr : ringB base size ((t0 + (k : Int)) % (2 * size)) t = true := by
    simp only [ringB, hu, hsz, Bool.and_eq_true, decide_eq_true_eq]
    rw [ht]
    exact ⟨⟨⟨⟨inB_i hb0 (by omega), trivial⟩, inB_i m0 (by omega)⟩, inB_i m2 (by omega)⟩, by omega⟩
  have hsl : slotI base size ((t0 + (k : Int)) % (2 * size)) t ((t0 + (k : Int)) % (2 * size)) = slotA base size t0 k := by
    rw [slotI, hr, show decide (0 ≤ (t0 + (k : Int)) % (2 * size)) = true by simpa using m0, Bool.and_self, if_pos rfl, mod_slot (base := base) hs t00]
    rfl
  obtain ⟨b0, b1⟩ := slotA_bd (t0 := t0) hb0 hb1 hs k
  have hT : takeB ml p 0 base size ((t0 + (k : Int)) % (2 * size)) t = true := by
    rw [takeB, hr, hu, hsl, world_ok hw h5 hp hp5 b0 b1]
    simp; omega
  obtain ⟨y1, y2⟩ := take_yes hT
  refine ⟨hT, by rw [y1, hsl, hrd], ?_⟩
  rw [y2]
  rcases hs with rfl | rfl | rfl <;> omega
theorem ring_empty {ml : List Mapping} {p : List ByteArray} {base size h : Int} (hu : usedI size h h = 0) : takeB ml p 0 base size h h = false := by
  rw [takeB, hu]; simp
end Go.Proofs.Ytnnlagmgdfhaiaa
