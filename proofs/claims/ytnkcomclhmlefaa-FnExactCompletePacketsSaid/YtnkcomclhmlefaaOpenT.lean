/- What a reading of a queue's cells gives: a slice of structs that hold slices. -/
import Derived.Test.YtnkcomclhmlefaaNest
namespace Go.Proofs.Ytnkcomclhmlefaa
set_option linter.unusedSimpArgs false
set_option linter.unusedVariables false
open Go.RowKit Go.ChangeShapes Go.WideShapes
abbrev Sent := SentH
section
variable {H : Type} {enc : TypeId × Value → H} {w : World} {base : Nat} {spare : Nat → Bool} {held : Bool}
theorem cells_Sent : Try.prog.cellsOf 66 = 3 := by kernel_rfl
set_option maxRecDepth 100000 in
theorem read_Sent {fuel : Nat} {cs : List Value} {x : DataW H × List MemPlace} (h : DataW.trod enc Try.prog w base spare held fuel 66 cs = some x) :
    ∃ (cookie : Int) (slots : Int) (Abufs : Option Addr) (nbufs cbufs : Nat) (lbufs : List Int), cs = [.int .i64 cookie, .int .i64 slots, .slice Abufs nbufs cbufs] ∧ I64 cookie ∧ I64 slots ∧ SlInt w Abufs nbufs cbufs lbufs := by
  obtain ⟨xs, n, _, _, hcl, hlen, hg⟩ := DataW.trod_struct Try.underlying66 h
  rw [cells_Sent] at hcl
  have hlen : xs.length = 3 := hlen
  match cs, hcl with
  | [k0, k1, k2], _ =>
    obtain ⟨y0, hy0⟩ : ∃ y, xs[0]? = some y := ⟨_, List.getElem?_eq_getElem (by omega)⟩
    have g0 := hg 0 _ rfl
    rw [hy0] at g0
    simp [cells_int] at g0
    obtain ⟨cookie, e0, _, w0⟩ := DataW.trod_int Try.underlying3 g0
    simp at e0; subst e0
    obtain ⟨y1, hy1⟩ : ∃ y, xs[1]? = some y := ⟨_, List.getElem?_eq_getElem (by omega)⟩
    have g1 := hg 1 _ rfl
    rw [hy1] at g1
    simp [cells_int] at g1
    obtain ⟨slots, e1, _, w1⟩ := DataW.trod_int Try.underlying3 g1
    simp at e1; subst e1
    obtain ⟨y2, hy2⟩ : ∃ y, xs[2]? = some y := ⟨_, List.getElem?_eq_getElem (by omega)⟩
    have g2 := hg 2 _ rfl
    rw [hy2] at g2
    simp [cells_slint] at g2
    obtain ⟨Abufs, nbufs, cbufs, lbufs, e2, w2⟩ := read_slint g2
    simp at e2; subst e2
    exact ⟨cookie, slots, Abufs, nbufs, cbufs, lbufs, rfl, i64_of_wf w0, i64_of_wf w1, w2⟩
def SentOk (w : World) (x : SentH) : Prop := I64 x.cookie ∧ I64 x.slots ∧ SlInt w x.A x.n x.c x.bufs
def SlSent (w : World) (A : Option Addr) (n c : Nat) (l : List SentH) : Prop := SlOf SentH.cells 3 w A n c l ∧ ∀ x ∈ l, SentOk w x
theorem read_slSent {fuel : Nat} {cs : List Value} {x : DataW H × List MemPlace} (h : DataW.trod enc Try.prog w base spare held fuel 27 cs = some x) :
    ∃ (A : Option Addr) (n c : Nat) (l : List SentH), cs = [.slice A n c] ∧ SlSent w A n c l := by
  haveI : Inhabited SentH := ⟨⟨0, 0, none, 0, 0, []⟩⟩
  exact read_slOf Try.underlying27 cells_Sent SentH.cells (SentOk w) (fun _ => rfl) (by decide) (fun h => by
    obtain ⟨cookie, slots, A, n, c, l, e, w0, w1, w2⟩ := read_Sent h
    exact ⟨⟨cookie, slots, A, n, c, l⟩, e, w0, w1, w2⟩) h
theorem cells_slSent : Try.prog.cellsOf 27 = 1 := by kernel_rfl
theorem cells_TxQueue : Try.prog.cellsOf 29 = 10 := by kernel_rfl
set_option maxRecDepth 100000 in
theorem read_TxQueue {fuel : Nat} {cs : List Value} {x : DataW H × List MemPlace} (h : DataW.trod enc Try.prog w base spare held fuel 29 cs = some x) :
    ∃ (ring_base : Int) (ring_size : Int) (ring_head : Int) (ring_tail : Int) (pool_base : Int) (pool_size : Int) (pool_count : Int) (Apool_free : Option Addr) (npool_free cpool_free : Nat) (lpool_free : List Int) (Awaiting : Option Addr) (nwaiting cwaiting : Nat) (lwaiting : List Sent) (next : Int), cs = [.int .i64 ring_base, .int .i64 ring_size, .int .i64 ring_head, .int .i64 ring_tail, .int .i64 pool_base, .int .i64 pool_size, .int .i64 pool_count, .slice Apool_free npool_free cpool_free, .slice Awaiting nwaiting cwaiting, .int .i64 next] ∧ I64 ring_base ∧ I64 ring_size ∧ I64 ring_head ∧ I64 ring_tail ∧ I64 pool_base ∧ I64 pool_size ∧ I64 pool_count ∧ SlInt w Apool_free npool_free cpool_free lpool_free ∧ SlSent w Awaiting nwaiting cwaiting lwaiting ∧ I64 next := by
  obtain ⟨xs, n, _, _, hcl, hlen, hg⟩ := DataW.trod_struct Try.underlying29 h
  rw [cells_TxQueue] at hcl
  have hlen : xs.length = 4 := hlen
  match cs, hcl with
  | [k0, k1, k2, k3, k4, k5, k6, k7, k8, k9], _ =>
    obtain ⟨y0, hy0⟩ : ∃ y, xs[0]? = some y := ⟨_, List.getElem?_eq_getElem (by omega)⟩
    have g0 := hg 0 _ rfl
    rw [hy0] at g0
    simp [cells_Ring] at g0
    obtain ⟨ring_base, ring_size, ring_head, ring_tail, e0, w0_0, w0_1, w0_2, w0_3⟩ := read_Ring g0
    simp at e0; obtain ⟨rfl, rfl, rfl, rfl⟩ := e0
    obtain ⟨y1, hy1⟩ : ∃ y, xs[1]? = some y := ⟨_, List.getElem?_eq_getElem (by omega)⟩
    have g1 := hg 1 _ rfl
    rw [hy1] at g1
    simp [cells_Pool] at g1
    obtain ⟨pool_base, pool_size, pool_count, Apool_free, npool_free, cpool_free, lpool_free, e1, w1_0, w1_1, w1_2, w1_3⟩ := read_Pool g1
    simp at e1; obtain ⟨rfl, rfl, rfl, rfl⟩ := e1
    obtain ⟨y2, hy2⟩ : ∃ y, xs[2]? = some y := ⟨_, List.getElem?_eq_getElem (by omega)⟩
    have g2 := hg 2 _ rfl
    rw [hy2] at g2
    simp [cells_slSent] at g2
    obtain ⟨Awaiting, nwaiting, cwaiting, lwaiting, e2, w2⟩ := read_slSent g2
    simp at e2; subst e2
    obtain ⟨y3, hy3⟩ : ∃ y, xs[3]? = some y := ⟨_, List.getElem?_eq_getElem (by omega)⟩
    have g3 := hg 3 _ rfl
    rw [hy3] at g3
    simp [cells_int] at g3
    obtain ⟨next, e3, _, w3⟩ := DataW.trod_int Try.underlying3 g3
    simp at e3; subst e3
    exact ⟨ring_base, ring_size, ring_head, ring_tail, pool_base, pool_size, pool_count, Apool_free, npool_free, cpool_free, lpool_free, Awaiting, nwaiting, cwaiting, lwaiting, next, rfl, w0_0, w0_1, w0_2, w0_3, w1_0, w1_1, w1_2, w1_3, w2, i64_of_wf w3⟩
end
end Go.Proofs.Ytnkcomclhmlefaa
