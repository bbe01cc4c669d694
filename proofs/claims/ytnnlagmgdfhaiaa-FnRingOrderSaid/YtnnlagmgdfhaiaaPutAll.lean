/- Contracts of RingPutAll: impl and spec. -/
import Derived.Test.YtnnlagmgdfhaiaaRingPt
namespace Go.Proofs.Ytnnlagmgdfhaiaa
set_option linter.unusedSimpArgs false
set_option linter.unusedVariables false
open Go.RowKit Go.ChangeShapes Go.WideShapes
theorem blk_ne {w : World} {a b : Nat} {T E : TypeId} {cs ds : List Value} (h1 : Blk w a T cs) (h2 : Blk w b E ds) (h : T ≠ E) : a ≠ b := by
  rintro rfl
  unfold Blk at h1 h2
  rw [h1] at h2
  injection h2 with h3; injection h3 with _ h4
  exact h h4
/-- The pages and the tail behind the entries. -/
def paG (l : List Mapping) (d base size head : Int) : List ByteArray → List ByteArray → Int → Option (List ByteArray × Int)
  | [], p, t => some (p, t)
  | e :: es, p, t => if rputB l p d base size head t e = true then paG l d base size head es (rputM l p d base size head t e) (rputT l p d base size head t e) else none
section
variable (l : List Mapping) (pg : List ByteArray) (d base size head tail : Int) (es : List ByteArray)
def paB : Bool := (paG l d base size head es pg tail).isSome
def paM : List ByteArray := ((paG l d base size head es pg tail).getD (pg, tail)).1
def paT : Int := ((paG l d base size head es pg tail).getD (pg, tail)).2
end
section
variable {l : List Mapping} {pg : List ByteArray} {d base size head tail : Int} {es : List ByteArray}
theorem pa_none (h : paG l d base size head es pg tail = none) : paB l pg d base size head tail es = false ∧ paM l pg d base size head tail es = pg ∧ paT l pg d base size head tail es = tail := by
  rw [paB, paM, paT, h]; exact ⟨rfl, rfl, rfl⟩
theorem pa_some {q : List ByteArray} {t : Int} (h : paG l d base size head es pg tail = some (q, t)) : paB l pg d base size head tail es = true ∧ paM l pg d base size head tail es = q ∧ paT l pg d base size head tail es = t := by
  rw [paB, paM, paT, h]; exact ⟨rfl, rfl, rfl⟩
theorem paG_len : ∀ (es : List ByteArray) (p q : List ByteArray) (t u : Int), paG l d base size head es p t = some (q, u) → q.length = p.length
  | [], p, q, t, u, h => by rw [paG] at h; injection h with h; injection h with h; rw [h]
  | e :: es, p, q, t, u, h => by
    rw [paG] at h
    split at h
    · rw [paG_len es _ _ _ _ h, rputM_len]
    · cases h
theorem paM_len : (paM l pg d base size head tail es).length = pg.length := by
  unfold paM
  cases h : paG l d base size head es pg tail with
  | none => rfl
  | some q => obtain ⟨q, u⟩ := q; exact paG_len _ _ _ _ _ h
theorem paG_step {p : List ByteArray} {t : Int} {k : Nat} {x : ByteArray} (hx : es[k]? = some x) :
    paG l d base size head (es.drop k) p t = if rputB l p d base size head t x = true then paG l d base size head (es.drop (k + 1)) (rputM l p d base size head t x) (rputT l p d base size head t x) else none := by
  have hk : k < es.length := (List.getElem?_eq_some_iff.1 hx).1
  have hxe : es[k] = x := (List.getElem?_eq_some_iff.1 hx).2
  rw [List.drop_eq_getElem_cons hk, hxe, paG]
theorem rputT_i64 {p : List ByteArray} {t : Int} {s : ByteArray} (ht : I64 t) : I64 (rputT l p d base size head t s) := by
  cases h : rputB l p d base size head t s with
  | false => rw [(put_no h).2]; exact ht
  | true =>
    rw [(put_yes h).2]
    have h1 : ¬ freeI base size head t = 0 := by
      intro e; rw [rputB, e] at h; cases h
    obtain ⟨z1, z2, _⟩ := ringB_size (freeI_ok h1)
    have m1 := Int.emod_nonneg (t + 1) (show 2 * size ≠ 0 by omega)
    have m2 := Int.emod_lt_of_pos (t + 1) (show 0 < 2 * size by omega)
    exact ⟨by omega, by omega⟩
end
end Go.Proofs.Ytnnlagmgdfhaiaa
