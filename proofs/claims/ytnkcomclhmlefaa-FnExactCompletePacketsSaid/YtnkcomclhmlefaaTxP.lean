/- Plain words on queues for sending: when one is whole, what completion leaves. -/
import Derived.Test.YtnkcomclhmlefaaNest
import Derived.Test.YtnkcomclhmlefaaRing
import Derived.Test.YtnkcomclhmlefaaPoolP
namespace Go.Proofs.Ytnkcomclhmlefaa
set_option linter.unusedSimpArgs false
set_option linter.unusedVariables false
open Go.RowKit Go.ChangeShapes Go.WideShapes
def sentB (x : SentV) : Bool := decide (1 ≤ x.slots) && inB x.cookie 0 65535
def sumS (l : List SentV) : Int := (l.map fun x => x.slots).sum
def allB (l : List SentV) : List Int := l.flatMap fun x => x.bufs
def waitB (size : Int) (l : List SentV) : Bool := l.all sentB && decide (sumS l ≤ size)
theorem sumS_app (a b : List SentV) : sumS (a ++ b) = sumS a + sumS b := by simp [sumS]
theorem sumS_next {L : List SentH} {k : Nat} {x : SentH} (hx : L[k]? = some x) : sumS ((L.take (k + 1)).map SentH.v) = sumS ((L.take k).map SentH.v) + x.slots := by
  rw [take_next hx, List.map_append, sumS_app]; simp [sumS, SentH.v]
theorem allB_next {L : List SentH} {k : Nat} {x : SentH} (hx : L[k]? = some x) : allB ((L.take (k + 1)).map SentH.v) = allB ((L.take k).map SentH.v) ++ x.bufs := by
  rw [take_next hx, List.map_append, allB, List.flatMap_append]; simp [allB, SentH.v]
theorem sumS_ge {l : List SentV} (h : l.all sentB = true) : (l.length : Int) ≤ sumS l := by
  induction l with
  | nil => simp [sumS]
  | cons x l ih =>
    simp only [List.all_cons, Bool.and_eq_true] at h
    have h1 := ih h.2
    have h2 := h.1
    simp only [sentB, Bool.and_eq_true, decide_eq_true_eq] at h2
    simp only [sumS, List.map_cons, List.sum_cons, List.length_cons] at *
    omega
theorem sumS_split (l : List SentV) (k : Nat) : sumS l = sumS (l.take k) + sumS (l.drop k) := by
  rw [← sumS_app, List.take_append_drop]
/-- An element that is bad, or too much: the whole is bad. -/
theorem waitB_bad {size : Int} {L : List SentH} {k : Nat} {x : SentH} (hx : L[k]? = some x) (h : sentB x.v = false ∨ size < sumS ((L.take k).map SentH.v) + x.slots) : waitB size (L.map SentH.v) = false := by
  cases hA : (L.map SentH.v).all sentB with
  | false => simp [waitB, hA]
  | true =>
    have hmem : x.v ∈ L.map SentH.v := List.mem_map.2 ⟨x, List.mem_of_getElem? hx, rfl⟩
    rcases h with h | h
    · rw [List.all_eq_true.1 hA _ hmem] at h; cases h
    · have h1 := sumS_split (L.map SentH.v) (k + 1)
      have h2 : ((L.map SentH.v).drop (k + 1)).all sentB = true := by
        rw [List.all_eq_true] at *
        exact fun y hy => hA y (List.mem_of_mem_drop hy)
      have h3 := sumS_ge h2
      rw [← List.map_take, sumS_next hx] at h1
      have : ¬ sumS (L.map SentH.v) ≤ size := by omega
      simp [waitB, this]
/-- What GiveBuffers leaves free: l ++ l2 where that is a pool. -/
def txB (q : TxV) : Bool := ringB q.rb q.rs q.rh q.rt && poolB q.pb q.ps q.pc q.free && inB q.next 0 65535 && waitB q.rs q.wait && poolB q.pb q.ps q.pc (q.free ++ allB q.wait)
end Go.Proofs.Ytnkcomclhmlefaa
