/- Bytes of a text laid out as a row: conversion there and back, copy. -/
import Derived.Test.YtkfekgmdjemkbaaBytes
import Derived.Lib.ConvBytes
import Derived.Laws.IdiomCopy
namespace Go.Proofs.Ytkfekgmdjemkbaa
set_option linter.unusedSimpArgs false
set_option linter.unusedVariables false
open Go.RowKit Go.ChangeShapes Go.WideShapes
open Go.Lib (strCells strCells_length strCells_oneCell bytesWorld)
theorem numsB_append (a b : ByteArray) : numsB (a ++ b) = numsB a ++ numsB b := by simp [numsB]
theorem numsB_extract (s : ByteArray) (i j : Nat) : numsB (s.extract i j) = ((numsB s).take j).drop i := by
  unfold numsB
  rw [← List.map_take, ← List.map_drop, ByteArray.data_extract, Array.toList_extract, List.extract_eq_take_drop]
  congr 1
  rw [List.take_drop]
  by_cases h : i ≤ j
  · rw [show i + (j - i) = j by omega]
  · rw [List.drop_eq_nil_of_le (by simp; omega), List.drop_eq_nil_of_le (by simp; omega)]
/-- p with t written over it from o on. -/
def putG (p : ByteArray) (o : Nat) (t : ByteArray) : ByteArray := p.extract 0 o ++ t ++ p.extract (o + t.size) p.size
/-- Block g holds the bytes s, none frozen. -/
def Txt (w : World) (g : Nat) (s : ByteArray) : Prop := ∀ j u, (numsB s)[j]? = some u → w.cell? ⟨g, j, none⟩ = some (.int .u8 u) ∧ w.frozen? ⟨g, j, none⟩ = false
theorem txt_new (w : World) (e : TypeId) (s : ByteArray) : Txt (bytesWorld w e s) w.heap.size s := by
  intro j u hu
  have hj : j < s.size := by rw [← numsB_len]; exact (List.getElem?_eq_some_iff.1 hu).1
  refine ⟨?_, ?_⟩
  · rw [Go.Lib.bytesWorld_cell w e s j hj]
    have hj2 : j < s.data.toList.length := by simpa using hj
    simp [numsB, List.getElem?_eq_getElem hj2] at hu
    rw [← hu]
    simp [List.getD, List.getElem?_eq_getElem hj2]
  · simp [World.frozen?, Go.Lib.bytesWorld_at_new, Go.Lib.bytesCells]
    omega
theorem txt_below {B : Nat} {w w1 : World} {g : Nat} {s : ByteArray} (h : Txt w g s) (hb : Below B w w1) (hg : g < B) : Txt w1 g s := fun j u hu =>
  ⟨(hb.cell (p := ⟨g, j, none⟩) hg).trans (h j u hu).1, (hb.frozen (p := ⟨g, j, none⟩) hg).trans (h j u hu).2⟩
theorem txt_str {w : World} {g c : Nat} {s : ByteArray} (h : Txt w g s) : (convert 22 9 (.slice (some ⟨g, 0, none⟩) s.size c)).run Try.prog w = .ok (.string s) w := by
  have := run_convert_bytes_arg (P := Try.prog) w 22 5 Try.underlying22 Try.underlying5 g 0 s.size c (numsB s) (numsB_len s) (fun i hi => by
    have hi2 : i < (numsB s).length := by rw [numsB_len]; exact hi
    rw [Nat.zero_add]
    refine (h i _ (List.getElem?_eq_getElem hi2)).1.trans ?_
    simp [List.getD, List.getElem?_eq_getElem hi2]) 9 Try.underlying9
  rwa [numsB_str] at this
theorem txt_put {w : World} {g o m : Nat} {p t : ByteArray} (h : Txt w g p) (hm : m ≤ t.size) (ho : o + m ≤ p.size) :
    Txt (w.setCells g o ((strCells t).take m)) g (putG p o (t.extract 0 m)) := by
  have hl : ((strCells t).take m).length = m := by rw [List.length_take, strCells_length]; omega
  have hsome : ∀ j, j < m → (w.cell? ⟨g, o + j, none⟩).isSome = true := fun j hj => by
    have hj2 : o + j < (numsB p).length := by rw [numsB_len]; omega
    rw [(h (o + j) _ (List.getElem?_eq_getElem hj2)).1]; rfl
  have hts : (t.extract 0 m).size = m := by rw [ByteArray.size_extract]; omega
  intro j u hu
  have hfr : (w.setCells g o ((strCells t).take m)).frozen? ⟨g, j, none⟩ = w.frozen? ⟨g, j, none⟩ := World.frozen?_setCells _ _ _ _ _
  rw [putG, numsB_append, numsB_append, hts] at hu
  simp only [numsB_extract, List.drop_zero] at hu
  have hnl := numsB_len p
  have hnt := numsB_len t
  have hlen1 : (List.take o (numsB p)).length = o := by rw [List.length_take]; omega
  have hlen2 : (List.take m (numsB t)).length = m := by rw [List.length_take]; omega
  by_cases h1 : j < o
  · rw [List.append_assoc, List.getElem?_append_left (by omega), List.getElem?_take_of_lt h1] at hu
    refine ⟨?_, hfr.trans (h j u hu).2⟩
    rw [World.cell?_setCells_out _ _ _ _ _ (fun _ _ => .inl h1)]
    exact (h j u hu).1
  · by_cases h2 : j < o + m
    · obtain ⟨k, rfl⟩ : ∃ k, j = o + k := ⟨j - o, by omega⟩
      have hk : k < m := by omega
      rw [List.append_assoc, List.getElem?_append_right (by omega), hlen1, Nat.add_sub_cancel_left, List.getElem?_append_left (by omega), List.getElem?_take_of_lt hk] at hu
      have hj2 : o + k < (numsB p).length := by omega
      refine ⟨?_, hfr.trans (h (o + k) _ (List.getElem?_eq_getElem hj2)).2⟩
      rw [World.cell?_setCells_in g _ o w (fun i hi => hsome i (by omega)) k (by omega)]
      have : ((strCells t).take m)[k]? = some (.int .u8 u) := by
        rw [List.getElem?_take_of_lt hk, strCells_nums, List.getElem?_map, hu]; rfl
      rw [← this, List.getElem?_eq_getElem]
    · rw [List.getElem?_append_right (by rw [List.length_append]; omega), List.length_append, hlen1, hlen2, List.getElem?_drop, List.getElem?_take] at hu
      have e : o + m + (j - (o + m)) = j := by omega
      rw [e] at hu
      split at hu
      · refine ⟨?_, hfr.trans (h j u hu).2⟩
        rw [World.cell?_setCells_out _ _ _ _ _ (fun _ _ => .inr (by rw [hl]; show o + m ≤ j; omega))]
        exact (h j u hu).1
      · cases hu
theorem putG_size {p t : ByteArray} {o : Nat} (h : o + t.size ≤ p.size) : (putG p o t).size = p.size := by
  rw [putG, ByteArray.size_append, ByteArray.size_append, ByteArray.size_extract, ByteArray.size_extract]; omega
/-- copy(dst, s), s a string of whatever length. -/
theorem run_copy_min {P : Program} (w : World) (dT sT ty elem : TypeId) (b o dLen dCap : Nat) (t : ByteArray)
    (hu : P.underlying dT = some (.slice elem)) (hz : (P.info? elem).map (·.size) = some 1)
    (hc : ∀ j, j < min t.size dLen → (w.cell? ⟨b, o + j, none⟩).isSome = true) (hf : ∀ j, j < min t.size dLen → w.frozen? ⟨b, o + j, none⟩ = false) :
    (Builtin.copy_ #[dT, sT] ty #[.slice (some ⟨b, o, none⟩) dLen dCap, .string t]).run P w = .ok (goInt ((min t.size dLen : Nat) : Int)) (w.setCells b o ((strCells t).take (min t.size dLen))) := by
  have hl : ((strCells t).take (min t.size dLen)).length = min t.size dLen := by rw [List.length_take, strCells_length]; omega
  have hst := run_storeCells_cells (P := P) b o ((strCells t).take (min t.size dLen)) 0 w (by rw [hl]; simpa using hc) (by rw [hl]; simpa using hf) (fun v hv => strCells_oneCell t v (List.mem_of_mem_take hv))
  cases hq : P.info? elem with
  | none => simp [hq] at hz
  | some i =>
    have hi : i.size = 1 := by simpa [hq] using hz
    simp [Builtin.copy_, run_underlying hu, Builtin.lenOf, Builtin.firstCells, sizeOf, typeInfo, hq, hi]
    rw [show (Nat.min t.size dLen) = min t.size dLen from rfl]
    simp only [Go.Lib.strCells, Nat.add_zero] at hst
    rw [hst]
    rfl
/-- .. in a walk. -/
theorem wpList_copy_min {P : Program} {w : World} {ops : Array Oper} {rest : List Oper} {o : Oper} {a : Act} {Q : Exit → Act → World → Prop} (hgd : o.guard = none) (d s : Operand) (dT sT : TypeId)
    (ho : o.op = .call { callee := .builtin .copy, args := #[d, s], argTypes := #[dT, sT] }) (elem : TypeId) (hu : P.underlying dT = some (.slice elem)) (hz : (P.info? elem).map (·.size) = some 1)
    (b off dLen dCap : Nat) (hd : a.eval d = .slice (some ⟨b, off, none⟩) dLen dCap) (t : ByteArray) (hs : a.eval s = .string t)
    (hc : ∀ j, j < min t.size dLen → (w.cell? ⟨b, off + j, none⟩).isSome = true) (hf : ∀ j, j < min t.size dLen → w.frozen? ⟨b, off + j, none⟩ = false)
    (h : wpList P ops Q rest (a.put o.dst (goInt ((min t.size dLen : Nat) : Int))) (w.setCells b off ((strCells t).take (min t.size dLen)))) : wpList P ops Q (o :: rest) a w := by
  refine wpList_plain hgd fun K hK => ?_
  have hr := run_copy_min (P := P) w dT sT o.type elem b off dLen dCap t hu hz hc hf
  unfold Oper.wp execOp
  simp only [ho, resolve, invoke, builtin, Sem.run_bind, Sem.run_pure, Result.andThen_ok, List.map_toArray, List.map_cons, List.map_nil, hd, hs, hr]
  exact hK _ _ h
theorem txt_at {w : World} {g : Nat} {s : ByteArray} (h : Txt w g s) {j : Nat} (hj : j < s.size) : (w.cell? ⟨g, j, none⟩).isSome = true ∧ w.frozen? ⟨g, j, none⟩ = false := by
  have hj2 : j < (numsB s).length := by rw [numsB_len]; exact hj
  have := h j _ (List.getElem?_eq_getElem hj2)
  exact ⟨by rw [this.1]; rfl, this.2⟩
theorem below_sets {B b : Nat} {a : World} (hb : B ≤ b) : ∀ (vs : List Value) (o : Nat) (w : World), Below B a w → Below B a (w.setCells b o vs)
  | [], _, _, h => h
  | v :: r, o, w, h => below_sets hb r (o + 1) _ (h.setCell (by exact hb) v)
theorem below_bytes {B : Nat} {a w : World} (h : Below B a w) (hB : B ≤ w.heap.size) (e : TypeId) (s : ByteArray) : Below B a (bytesWorld w e s) :=
  ⟨by rw [← h.os]; rfl, by rw [← h.tape]; rfl, by rw [← h.output]; rfl, by rw [Go.Lib.bytesWorld_size]; exact Nat.le_succ_of_le h.size, fun k hk => (Go.Lib.bytesWorld_at_old w e s k (Nat.lt_of_lt_of_le hk hB)).trans (h.block k hk)⟩
end Go.Proofs.Ytkfekgmdjemkbaa
