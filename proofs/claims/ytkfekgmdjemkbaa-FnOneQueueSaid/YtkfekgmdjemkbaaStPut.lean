/- Plain words on putting flows into a table, and rows whose elements are set; copyTable, l13Copy. -/
import Derived.Test.YtkfekgmdjemkbaaStH
import Derived.Test.YtkfekgmdjemkbaaApp
import Derived.Test.YtkfekgmdjemkbaaConvSt2
import Derived.Test.YtkfekgmdjemkbaaWhole
namespace Go.Proofs.Ytkfekgmdjemkbaa
set_option linter.unusedSimpArgs false
set_option linter.unusedVariables false
open Go.RowKit Go.ChangeShapes Go.WideShapes
theorem setsAt_left : ∀ (us a b : List Value) (o : Nat), o + us.length ≤ a.length → setsAt (a ++ b) o us = setsAt a o us ++ b
  | [], a, b, o, _ => rfl
  | u :: us, a, b, o, h => by
    rw [List.length_cons] at h
    rw [setsAt, setsAt, List.set_append_left _ _ (by omega)]
    exact setsAt_left us _ b (o + 1) (by rw [List.length_set]; omega)
theorem setsAt_right : ∀ (us a b : List Value) (o : Nat), setsAt (a ++ b) (a.length + o) us = a ++ setsAt b o us
  | [], a, b, o => rfl
  | u :: us, a, b, o => by
    rw [setsAt, setsAt, List.set_append_right _ _ (by omega), Nat.add_sub_cancel_left, Nat.add_assoc]
    exact setsAt_right us a _ (o + 1)
theorem setsAt_take : ∀ (us cs : List Value) (o m : Nat), (setsAt cs o us).take m = setsAt (cs.take m) o us
  | [], _, _, _ => rfl
  | u :: us, cs, o, m => by
    rw [setsAt, setsAt, setsAt_take us _ _ _, List.take_set]
theorem flat_setsAt {T : Type} {cells : T → List Value} {size : Nat} (hs : ∀ x, (cells x).length = size) : ∀ (l : List T) (i : Nat) (y : T), i < l.length → setsAt (l.flatMap cells) (i * size) (cells y) = (l.set i y).flatMap cells
  | [], i, y, h => by simp at h
  | x :: l, 0, y, _ => by
    rw [List.flatMap_cons, List.set_cons_zero, List.flatMap_cons, Nat.zero_mul, setsAt_left _ _ _ _ (by rw [hs, hs]; omega), setsAt_all (by rw [hs, hs])]
  | x :: l, i + 1, y, h => by
    rw [List.flatMap_cons, List.set_cons_succ, List.flatMap_cons, Nat.add_mul, Nat.one_mul, Nat.add_comm, ← hs x, setsAt_right, hs x, flat_setsAt hs l i y (by simpa using h)]
theorem flat_set1 {T : Type} {cells : T → List Value} {size : Nat} (hs : ∀ x, (cells x).length = size) : ∀ (l : List T) (i j : Nat) (v : Value) (x y : T), l[i]? = some x → j < size → cells y = (cells x).set j v → (l.flatMap cells).set (i * size + j) v = (l.set i y).flatMap cells
  | [], i, j, v, x, y, h, _, _ => by simp at h
  | z :: l, 0, j, v, x, y, h, hj, he => by
    simp only [List.getElem?_cons_zero, Option.some.injEq] at h
    subst h
    rw [List.flatMap_cons, List.set_cons_zero, List.flatMap_cons, he, Nat.zero_mul, Nat.zero_add, List.set_append_left _ _ (by rw [hs]; exact hj)]
  | z :: l, i + 1, j, v, x, y, h, hj, he => by
    rw [List.flatMap_cons, List.set_cons_succ, List.flatMap_cons, Nat.add_mul, Nat.one_mul, show i * size + size + j = (cells z).length + (i * size + j) by rw [hs]; omega, List.set_append_right _ _ (by omega), Nat.add_sub_cancel_left, flat_set1 hs l i j v x y (by simpa using h) hj he]
theorem Blk.off {w : World} {g : Nat} {t : TypeId} {cs : List Value} (h : Blk w g t cs) {p : Addr} (hp : p.block ≠ g) (u : Value) : Blk (w.setCell p u) g t cs := (Below.heap_setCell w p u g (by omega)).trans h
/-- A row of the call's own that is not empty: its block. -/
theorem own_blk {w : World} {base size n c : Nat} {e : TypeId} {A : Option Addr} {xs : List Value} (h : w.ownsRow base e size (.slice A n c) n xs) (h0 : 0 < n) : ∃ g cs, A = some ⟨g, 0, none⟩ ∧ base ≤ g ∧ Blk w g e cs ∧ n ≤ c ∧ c ≤ maxLen ∧ cs.length = c * size ∧ cs.take (n * size) = xs := by
  rcases h.2 with ⟨hv, hn⟩ | ⟨g, cap, cur, hv, hg, hh, hnc, hcm, hsz, ht⟩
  · omega
  · injection hv with h1 h2 h3
    subst h1; subst h3
    exact ⟨g, cur.toList, rfl, hg, by unfold Blk; simpa using hh, hnc, hcm, by simpa using hsz, ht⟩
theorem own_mk {w : World} {base size n c g : Nat} {e : TypeId} {cs xs : List Value} (hg : base ≤ g) (hb : Blk w g e cs) (hnc : n ≤ c) (hcm : c ≤ maxLen) (hl : cs.length = c * size) (ht : cs.take (n * size) = xs) (hx : xs.length = n * size) : w.ownsRow base e size (.slice (some ⟨g, 0, none⟩) n c) n xs :=
  ⟨hx, .inr ⟨g, c, cs.toArray, rfl, hg, hb, hnc, hcm, by simpa using hl, by simpa using ht⟩⟩
/-- The slot of a flow. -/
def slotF (f : Flow) (q : Int) : Slot := ⟨1, f.kind, f.sip, f.dip, f.sport, f.dport, q⟩
/-- The first slot on the way, from step k, that is not used. -/
def frG (l : List Slot) (f : Flow) : Nat → Nat → Int
  | 0, _ => -1
  | n + 1, k => if (slt l (way f k)).state = 1 then frG l f n (k + 1) else (way f k : Int)
def tpI (l : List Slot) (f : Flow) : Int := if 0 ≤ soI l f then soI l f else frG l f 8 0
def tpB (l : List Slot) (f : Flow) (q : Int) : Bool := tableB l && inB q 0 3 && decide (0 ≤ tpI l f)
def tpL (l : List Slot) (f : Flow) (q : Int) : List Slot := if tpB l f q = true then l.set (tpI l f).toNat (slotF f q) else l
theorem tpL_len (l : List Slot) (f : Flow) (q : Int) : (tpL l f q).length = l.length := by
  unfold tpL; split <;> simp
theorem frG_bd (l : List Slot) (f : Flow) : ∀ n k, -1 ≤ frG l f n k ∧ frG l f n k < 8
  | 0, _ => by simp only [frG]; omega
  | n + 1, k => by
    have := frG_bd l f n (k + 1)
    have := way_lt f k
    rw [frG]; split <;> omega
/-- What stands in a table when the first k flows are pinned, and how many were. -/
def pinK (l : List Slot) (q : Int) (fs : List Flow) : Nat → List Slot × Nat
  | 0 => (l, 0)
  | k + 1 => match fs[k]? with
    | some f => (tpL (pinK l q fs k).1 f q, if tpB (pinK l q fs k).1 f q = true then (pinK l q fs k).2 + 1 else (pinK l q fs k).2)
    | none => pinK l q fs k
theorem pinK_len (l : List Slot) (q : Int) (fs : List Flow) : ∀ k, (pinK l q fs k).1.length = l.length
  | 0 => rfl
  | k + 1 => by
    have := pinK_len l q fs k
    rw [pinK]; split
    · rw [tpL_len]; exact this
    · exact this
theorem pinK_le (l : List Slot) (q : Int) (fs : List Flow) : ∀ k, (pinK l q fs k).2 ≤ k
  | 0 => Nat.le_refl _
  | k + 1 => by
    have := pinK_le l q fs k
    rw [pinK]; split
    · dsimp only; split <;> omega
    · omega
theorem pinK_next {l : List Slot} {q : Int} {fs : List Flow} {k : Nat} {f : Flow} (h : fs[k]? = some f) : pinK l q fs (k + 1) = (tpL (pinK l q fs k).1 f q, if tpB (pinK l q fs k).1 f q = true then (pinK l q fs k).2 + 1 else (pinK l q fs k).2) := by
  rw [pinK, h]
def pinB (rs : List Rule) (l : List Slot) (key : ByteArray) (tb : List Int) (q qq : Int) : Bool := steerB rs l key tb q && inB qq 0 (q - 1)
def pinL (rs : List Rule) (l : List Slot) (key : ByteArray) (tb : List Int) (q qq : Int) (fs : List Flow) : List Slot := if pinB rs l key tb q qq = true then (pinK l qq fs fs.length).1 else l
def pinN (rs : List Rule) (l : List Slot) (key : ByteArray) (tb : List Int) (q qq : Int) (fs : List Flow) : Int := if pinB rs l key tb q qq = true then (pinK l qq fs fs.length).2 else 0
theorem pinL_len (rs : List Rule) (l : List Slot) (key : ByteArray) (tb : List Int) (q qq : Int) (fs : List Flow) : (pinL rs l key tb q qq fs).length = l.length := by
  unfold pinL; split
  · exact pinK_len _ _ _ _
  · rfl
set_option maxRecDepth 100000 in
set_option maxHeartbeats 2000000 in
theorem copyTable_c (A : Option Addr) (n c : Nat) (l : List Slot) (w : World) (hn : l.length = n) (hm : n ≤ 1048576) (hr : Reads w w.heap.size 7 A n (l.flatMap Slot.cells)) :
    Calls Try.prog 54 #[.agg #[.slice A n c]] w fun e w' => ∃ A' c', e = .returned (.agg #[.slice A' n c']) ∧ w'.ownsRow w.heap.size 61 7 (.slice A' n c') n (l.flatMap Slot.cells) ∧ Below w.heap.size w w' := by
  obtain ⟨i0, hi, hz0, hz1, hz2⟩ := info_parts info_Slot
  obtain ⟨w1, hW1⟩ : ∃ W, W = (w.alloc (.cells #[.slice A n c] 27)).alloc (.cells #[.slice none 0 0] 27) := ⟨_, rfl⟩
  have k1 : Below w.heap.size w w1 := by rw [hW1]; go_grown
  have hk0 : Blk w1 w.heap.size 27 [.slice A n c] := by rw [hW1]; exact (Blk.new w 27 [.slice A n c]).alloc _
  have hk1 : Blk w1 (w.heap.size + 1) 27 [.slice none 0 0] := by rw [hW1]; simpa using Blk.new (w.alloc (.cells #[.slice A n c] 27)) 27 [.slice none 0 0]
  have ho1 := own_empty (Blk.new w1 61 []) (Nat.le_refl _) (size := 7)
  have hz : w.heap.size + 1 < w1.heap.size := hk1.lt
  have hz3 : w.heap.size < w1.heap.size := hk0.lt
  have hr1 := ((hr.below k1).more k1.size).alloc (Nat.le_refl _) (.cells #[] 61)
  have b0 := hk0.at_ 0 _ rfl
  go_enter Try.func54, Try.ntmps54
  go_upto_region 1 with fail
  rw [← hW1]
  clear hW1
  go_wp2_with (at_builtin; refine wpList_append_any _ rfl _ _ 25 rfl w1.heap.size 61 i0 (.agg #[.int .i64 0, .int .i64 0, .int .i64 0, .int .i64 0, .int .i64 0, .int .i64 0, .int .i64 0]) 7 56 Try.underlying25 hi hz0 hz1 hz2 rfl (by decide) _ _ _ rfl ho1 _ A n c (l.flatMap Slot.cells) rfl hr1 (one_flat fun x u hu => by simp [Slot.cells] at hu; rcases hu with rfl | rfl | rfl | rfl | rfl | rfl | rfl <;> rfl) (by unfold maxLen; omega) (by omega) (by simp) ?_; intro v1 w2 hown0 hg1 hat1; have hown1 : w2.ownsRow w1.heap.size 61 7 v1 n (l.flatMap Slot.cells) := (by simpa using hown0); clear hown0; obtain ⟨A', c', hv1, _⟩ := own_form hown1; subst hv1; have hk0' := blk_grown (hk0.alloc _) hg1 (fun e => by have := (ho1.lt _ e).1; omega); have hk1' := blk_grown (hk1.alloc _) hg1 (fun e => by have := (ho1.lt _ e).1; omega); have k2 : Below w.heap.size w w2 := below_app (k1.alloc k1.size _) (own_base ho1 (by omega)) hg1 (by simp; omega); have d0 := hk1'.at_ 0 _ rfl; have f0 := hk1'.frozen 0; clear hat1 hg1)
  have hB : Blk (w2.setCell ⟨w.heap.size + 1, 0, none⟩ (.slice A' n c')) (w.heap.size + 1) 27 [.slice A' n c'] := hk1'.set_ 0 _
  have hv := loadVar_blk (P := Try.prog) hB (n := 1) rfl (by simp [go_sem]) (by simp [go_sem])
  refine bodyPost_ret (v := .agg #[.slice A' n c']) (by simp [results, Try.results54, asAddr, Result.andThen, hv]) rfl ?_
  have hE := own_ty hown1 hk1' (by decide)
  exact ⟨A', c', rfl, own_set_ne (own_base hown1 (by omega)) (fun e => hE _ e rfl) _, k2.setCell (show w.heap.size ≤ w.heap.size + 1 by omega) _⟩
set_option maxRecDepth 100000 in
set_option maxHeartbeats 2000000 in
theorem l13Copy_c (A : Option Addr) (n c : Nat) (l : List Slot) (w : World) (hn : l.length = n) (hm : n ≤ 1048576) (hr : Reads w w.heap.size 7 A n (l.flatMap Slot.cells)) :
    Calls Try.prog 67 #[.agg #[.slice A n c]] w fun e w' => ∃ A' c', e = .returned (.agg #[.slice A' n c']) ∧ w'.ownsRow w.heap.size 61 7 (.slice A' n c') n (l.flatMap Slot.cells) ∧ Below w.heap.size w w' := by
  obtain ⟨i0, hi, hz0, hz1, hz2⟩ := info_parts info_Slot
  obtain ⟨w1, hW1⟩ : ∃ W, W = (w.alloc (.cells #[.slice A n c] 27)).alloc (.cells #[.slice none 0 0] 27) := ⟨_, rfl⟩
  have k1 : Below w.heap.size w w1 := by rw [hW1]; go_grown
  have hk0 : Blk w1 w.heap.size 27 [.slice A n c] := by rw [hW1]; exact (Blk.new w 27 [.slice A n c]).alloc _
  have hk1 : Blk w1 (w.heap.size + 1) 27 [.slice none 0 0] := by rw [hW1]; simpa using Blk.new (w.alloc (.cells #[.slice A n c] 27)) 27 [.slice none 0 0]
  have ho1 := own_empty (Blk.new w1 61 []) (Nat.le_refl _) (size := 7)
  have hz : w.heap.size + 1 < w1.heap.size := hk1.lt
  have hz3 : w.heap.size < w1.heap.size := hk0.lt
  have hr1 := ((hr.below k1).more k1.size).alloc (Nat.le_refl _) (.cells #[] 61)
  have b0 := hk0.at_ 0 _ rfl
  go_enter Try.func67, Try.ntmps67
  go_upto_region 1 with fail
  rw [← hW1]
  clear hW1
  go_wp2_with (at_builtin; refine wpList_append_any _ rfl _ _ 25 rfl w1.heap.size 61 i0 (.agg #[.int .i64 0, .int .i64 0, .int .i64 0, .int .i64 0, .int .i64 0, .int .i64 0, .int .i64 0]) 7 56 Try.underlying25 hi hz0 hz1 hz2 rfl (by decide) _ _ _ rfl ho1 _ A n c (l.flatMap Slot.cells) rfl hr1 (one_flat fun x u hu => by simp [Slot.cells] at hu; rcases hu with rfl | rfl | rfl | rfl | rfl | rfl | rfl <;> rfl) (by unfold maxLen; omega) (by omega) (by simp) ?_; intro v1 w2 hown0 hg1 hat1; have hown1 : w2.ownsRow w1.heap.size 61 7 v1 n (l.flatMap Slot.cells) := (by simpa using hown0); clear hown0; obtain ⟨A', c', hv1, _⟩ := own_form hown1; subst hv1; have hk0' := blk_grown (hk0.alloc _) hg1 (fun e => by have := (ho1.lt _ e).1; omega); have hk1' := blk_grown (hk1.alloc _) hg1 (fun e => by have := (ho1.lt _ e).1; omega); have k2 : Below w.heap.size w w2 := below_app (k1.alloc k1.size _) (own_base ho1 (by omega)) hg1 (by simp; omega); have d0 := hk1'.at_ 0 _ rfl; have f0 := hk1'.frozen 0; clear hat1 hg1)
  have hB : Blk (w2.setCell ⟨w.heap.size + 1, 0, none⟩ (.slice A' n c')) (w.heap.size + 1) 27 [.slice A' n c'] := hk1'.set_ 0 _
  have hv := loadVar_blk (P := Try.prog) hB (n := 1) rfl (by simp [go_sem]) (by simp [go_sem])
  refine bodyPost_ret (v := .agg #[.slice A' n c']) (by simp [results, Try.results67, asAddr, Result.andThen, hv]) rfl ?_
  have hE := own_ty hown1 hk1' (by decide)
  exact ⟨A', c', rfl, own_set_ne (own_base hown1 (by omega)) (fun e => hE _ e rfl) _, k2.setCell (show w.heap.size ≤ w.heap.size + 1 by omega) _⟩
end Go.Proofs.Ytkfekgmdjemkbaa
