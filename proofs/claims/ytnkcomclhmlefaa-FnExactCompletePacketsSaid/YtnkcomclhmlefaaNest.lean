/- Rows that hold rows: waiting packets with their buffers; queues as headers over memory. -/
import Derived.Test.YtnkcomclhmlefaaRows2
import Derived.Test.YtnkcomclhmlefaaApp
import Derived.Test.YtnkcomclhmlefaaOpen
namespace Go.Proofs.Ytnkcomclhmlefaa
set_option linter.unusedSimpArgs false
set_option linter.unusedVariables false
open Go.RowKit Go.ChangeShapes Go.WideShapes
/-- A waiting packet as it lies in a row: the slice value of its buffers and what that reads as. -/
structure SentH where
  cookie : Int
  slots : Int
  A : Option Addr
  n : Nat
  c : Nat
  bufs : List Int
/-- A waiting packet by value. -/
structure SentV where
  cookie : Int
  slots : Int
  bufs : List Int
def SentH.cells (x : SentH) : List Value := [.int .i64 x.cookie, .int .i64 x.slots, .slice x.A x.n x.c]
def SentH.v (x : SentH) : SentV := ⟨x.cookie, x.slots, x.bufs⟩
/-- The block of its buffers. -/
def SentH.ob (x : SentH) : Option Nat := (Value.slice x.A x.n x.c).ownBlock
abbrev ints (l : List Int) : List Value := l.flatMap fun y : Int => [Value.int .i64 y]
theorem ints_len (l : List Int) : (ints l).length = l.length * 1 := flatMap_len _ 1 (fun _ => rfl) l
theorem ints_app (a b : List Int) : ints (a ++ b) = ints a ++ ints b := List.flatMap_append
def totB (L : List SentH) : Nat := (L.map fun x => x.n).sum
theorem totB_app (a b : List SentH) : totB (a ++ b) = totB a + totB b := by simp [totB]
theorem totB_mem {L : List SentH} {x : SentH} (h : x ∈ L) : x.n ≤ totB L := by
  induction L with
  | nil => cases h
  | cons y L ih =>
    simp only [totB, List.map_cons, List.sum_cons] at *
    rcases List.mem_cons.1 h with rfl | h
    · omega
    · have := ih h; omega
theorem totB_take (L : List SentH) (k : Nat) : totB (L.take k) ≤ totB L := by
  have h := totB_app (L.take k) (L.drop k)
  rw [List.take_append_drop] at h
  omega
theorem totB_next {L : List SentH} {k : Nat} {x : SentH} (hx : L[k]? = some x) : totB (L.take (k + 1)) = totB (L.take k) + x.n := by
  rw [take_next hx, totB_app]; simp [totB]
def InRd (w : World) (B : Nat) (L : List SentH) : Prop := ∀ x ∈ L, x.bufs.length = x.n ∧ Reads w B 1 x.A x.n (ints x.bufs)
def InOwn (w : World) (base : Nat) (L : List SentH) : Prop := (∀ x ∈ L, x.bufs.length = x.n ∧ w.ownsRow base 3 1 (.slice x.A x.n x.c) x.n (ints x.bufs)) ∧ L.Pairwise fun x y => ∀ g, x.ob = some g → y.ob = some g → False
section
variable {w w1 : World} {B B' base base' : Nat} {L : List SentH}
theorem InRd.below (h : InRd w B L) (hb : Below B w w1) : InRd w1 B L := fun x hx => ⟨(h x hx).1, (h x hx).2.below hb⟩
theorem InRd.more (h : InRd w B L) (hB : B ≤ B') : InRd w B' L := fun x hx => ⟨(h x hx).1, (h x hx).2.more hB⟩
theorem InRd.to (h : InRd w w.heap.size L) (hb : Below w.heap.size w w1) : InRd w1 w1.heap.size L := (h.below hb).more hb.size
theorem InRd.sub {L' : List SentH} (h : InRd w B L) (hs : ∀ x ∈ L', x ∈ L) : InRd w B L' := fun x hx => h x (hs x hx)
theorem InOwn.rd (h : InOwn w base L) : InRd w w.heap.size L := fun x hx => ⟨(h.1 x hx).1, Reads.of_own (h.1 x hx).2⟩
theorem InOwn.ext (h : InOwn w base L) (hb : Below w.heap.size w w1) : InOwn w1 base L := ⟨fun x hx => ⟨(h.1 x hx).1, own_ext (h.1 x hx).2 hb⟩, h.2⟩
theorem InOwn.lower (h : InOwn w base L) (hb : base' ≤ base) : InOwn w base' L := ⟨fun x hx => ⟨(h.1 x hx).1, own_base (h.1 x hx).2 hb⟩, h.2⟩
theorem InOwn.lt (h : InOwn w base L) {x : SentH} (hx : x ∈ L) {g : Nat} (hg : x.ob = some g) : base ≤ g ∧ g < w.heap.size := (h.1 x hx).2.lt g hg
theorem InOwn.far {row : Option Nat} (h : InOwn w base L) (hg : w.grownBy w1 row) (hne : ∀ x ∈ L, ∀ g, x.ob = some g → row = some g → False) : InOwn w1 base L :=
  ⟨fun x hx => ⟨(h.1 x hx).1, (h.1 x hx).2.kept hg (by
    cases ho : (Value.slice x.A x.n x.c).ownBlock with
    | none => exact .inl rfl
    | some g => exact .inr fun hu => hne x hx g ho hu.symm)⟩, h.2⟩
theorem InOwn.set (h : InOwn w base L) {p : Addr} (hp : ∀ x ∈ L, x.ob ≠ some p.block) (u : Value) : InOwn (w.setCell p u) base L :=
  ⟨fun x hx => ⟨(h.1 x hx).1, own_set_ne (h.1 x hx).2 (hp x hx) u⟩, h.2⟩
theorem InOwn.alloc (h : InOwn w base L) (o : Obj) : InOwn (w.alloc o) base L := ⟨fun x hx => ⟨(h.1 x hx).1, (h.1 x hx).2.alloc o⟩, h.2⟩
theorem InOwn.nil (w : World) (base : Nat) : InOwn w base [] := ⟨fun _ h => (List.not_mem_nil h).elim, List.Pairwise.nil⟩
theorem InOwn.snoc (h : InOwn w base L) {x : SentH} (hl : x.bufs.length = x.n) (ho : w.ownsRow base 3 1 (.slice x.A x.n x.c) x.n (ints x.bufs)) (hne : ∀ y ∈ L, ∀ g, y.ob = some g → x.ob = some g → False) : InOwn w base (L ++ [x]) := by
  refine ⟨fun y hy => ?_, ?_⟩
  · rcases List.mem_append.1 hy with hy | hy
    · exact h.1 y hy
    · rw [List.mem_singleton.1 hy]; exact ⟨hl, ho⟩
  · rw [List.pairwise_append]
    exact ⟨h.2, List.pairwise_singleton _ _, fun y hy z hz => by rw [List.mem_singleton.1 hz]; exact hne y hy⟩
theorem InOwn.drop (h : InOwn w base L) (k : Nat) : InOwn w base (L.drop k) := ⟨fun x hx => h.1 x (List.mem_of_mem_drop hx), h.2.sublist (List.drop_sublist _ _)⟩
end
/-- A queue as it lies in memory. -/
structure TxH where
  rb : Int
  rs : Int
  rh : Int
  rt : Int
  pb : Int
  ps : Int
  pc : Int
  Ap : Option Addr
  np : Nat
  cp : Nat
  free : List Int
  As : Option Addr
  ns : Nat
  cs : Nat
  L : List SentH
  next : Int
/-- A queue by value. -/
structure TxV where
  rb : Int
  rs : Int
  rh : Int
  rt : Int
  pb : Int
  ps : Int
  pc : Int
  free : List Int
  wait : List SentV
  next : Int
def TxH.v (H : TxH) : TxV := ⟨H.rb, H.rs, H.rh, H.rt, H.pb, H.ps, H.pc, H.free, H.L.map SentH.v, H.next⟩
def TxR (w : World) (B : Nat) (H : TxH) : Prop := (H.free.length = H.np ∧ Reads w B 1 H.Ap H.np (ints H.free)) ∧ (H.L.length = H.ns ∧ Reads w B 3 H.As H.ns (H.L.flatMap SentH.cells)) ∧ InRd w B H.L
/-- The blocks of a queue of the call's own. -/
def TxH.blk (H : TxH) (g : Nat) : Prop := (Value.slice H.Ap H.np H.cp).ownBlock = some g ∨ (Value.slice H.As H.ns H.cs).ownBlock = some g ∨ ∃ x ∈ H.L, x.ob = some g
def TxO (w : World) (base : Nat) (H : TxH) : Prop := (H.free.length = H.np ∧ w.ownsRow base 3 1 (.slice H.Ap H.np H.cp) H.np (ints H.free)) ∧ (H.L.length = H.ns ∧ w.ownsRow base 52 3 (.slice H.As H.ns H.cs) H.ns (H.L.flatMap SentH.cells)) ∧ InOwn w base H.L ∧ ∀ x ∈ H.L, ∀ g, x.ob = some g → (Value.slice H.Ap H.np H.cp).ownBlock = some g → False
section
variable {w w1 : World} {B B' base base' : Nat} {H : TxH}
theorem TxR.below (h : TxR w B H) (hb : Below B w w1) : TxR w1 B H := ⟨⟨h.1.1, h.1.2.below hb⟩, ⟨h.2.1.1, h.2.1.2.below hb⟩, h.2.2.below hb⟩
theorem TxR.more (h : TxR w B H) (hB : B ≤ B') : TxR w B' H := ⟨⟨h.1.1, h.1.2.more hB⟩, ⟨h.2.1.1, h.2.1.2.more hB⟩, h.2.2.more hB⟩
theorem TxR.to (h : TxR w w.heap.size H) (hb : Below w.heap.size w w1) : TxR w1 w1.heap.size H := (h.below hb).more hb.size
theorem TxO.rd (h : TxO w base H) : TxR w w.heap.size H := ⟨⟨h.1.1, Reads.of_own h.1.2⟩, ⟨h.2.1.1, Reads.of_own h.2.1.2⟩, h.2.2.1.rd⟩
theorem TxO.ext (h : TxO w base H) (hb : Below w.heap.size w w1) : TxO w1 base H := ⟨⟨h.1.1, own_ext h.1.2 hb⟩, ⟨h.2.1.1, own_ext h.2.1.2 hb⟩, h.2.2.1.ext hb, h.2.2.2⟩
theorem TxO.lower (h : TxO w base H) (hb : base' ≤ base) : TxO w base' H := ⟨⟨h.1.1, own_base h.1.2 hb⟩, ⟨h.2.1.1, own_base h.2.1.2 hb⟩, h.2.2.1.lower hb, h.2.2.2⟩
theorem TxO.lt (h : TxO w base H) {g : Nat} (hg : H.blk g) : base ≤ g ∧ g < w.heap.size := by
  rcases hg with hg | hg | ⟨x, hx, hg⟩
  · exact h.1.2.lt g hg
  · exact h.2.1.2.lt g hg
  · exact h.2.2.1.lt hx hg
theorem TxO.set (h : TxO w base H) {p : Addr} (hp : ∀ g, H.blk g → g ≠ p.block) (u : Value) : TxO (w.setCell p u) base H :=
  ⟨⟨h.1.1, own_set_ne h.1.2 (fun e => hp _ (.inl e) rfl) u⟩, ⟨h.2.1.1, own_set_ne h.2.1.2 (fun e => hp _ (.inr (.inl e)) rfl) u⟩, h.2.2.1.set (fun x hx e => hp _ (.inr (.inr ⟨x, hx, e⟩)) rfl) u, h.2.2.2⟩
theorem TxO.alloc (h : TxO w base H) (o : Obj) : TxO (w.alloc o) base H := h.ext ((Below.refl _ _).alloc (Nat.le_refl _) o)
end
end Go.Proofs.Ytnkcomclhmlefaa
