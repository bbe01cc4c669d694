/- Contracts of WriteMemory: impl and spec. -/
import Derived.Test.YtnnlagmgdfhaiaaWithin
import Derived.Test.YtnnlagmgdfhaiaaBytes2
import Derived.Test.YtnnlagmgdfhaiaaCopyMem
import Derived.Test.YtnnlagmgdfhaiaaPutB
import Derived.Deep.RegionLaw
namespace Go.Proofs.Ytnnlagmgdfhaiaa
set_option linter.unusedSimpArgs false
set_option linter.unusedVariables false
open Go.RowKit Go.ChangeShapes Go.WideShapes
open Go.Lib (strCells strCells_length strCells_oneCell bytesWorld)
def partN' (a n : Nat) : Nat := min n (128 - a % 128)
/-- The pages behind a write. -/
def writeG : Nat → List ByteArray → Nat → ByteArray → List ByteArray
  | 0, l, _, _ => l
  | f + 1, l, a, s => if 0 < s.size then writeG f (l.set (a / 128) (putG (l.getD (a / 128) ByteArray.empty) (a % 128) (s.extract 0 (partN' a s.size)))) (a + partN' a s.size) (s.extract (partN' a s.size) s.size) else l
def writeL (l : List ByteArray) (at_ : Int) (s : ByteArray) : List ByteArray := if withB l at_ s.size then writeG (s.size + 1) l at_.toNat s else l
theorem flat1_set {T : Type} (q : T → Value) : ∀ (l : List T) (k : Nat) (x : T), (l.set k x).flatMap (fun y => [q y]) = (l.flatMap fun y => [q y]).set k (q x)
  | [], k, x => by simp
  | y :: l, 0, x => by simp
  | y :: l, k + 1, x => by simp [flat1_set q l k x]
theorem set_all {l : List ByteArray} {j : Nat} {p : ByteArray} (h : ∀ (k : Nat) (x : ByteArray), l[k]? = some x → x.size = 128) (hp : p.size = 128) : ∀ (k : Nat) (x : ByteArray), (l.set j p)[k]? = some x → x.size = 128 := by
  intro k x hx
  rw [List.getElem?_set] at hx
  split at hx
  · split at hx
    · injection hx with hx; rw [← hx]; exact hp
    · cases hx
  · exact h k x hx
def strLen : Value → Nat
  | .string s => s.size
  | _ => 0
theorem own_setAt {w : World} {base g n c k : Nat} {e : TypeId} {xs : List Value} (h : w.ownsRow base e 1 (.slice (some ⟨g, 0, none⟩) n c) n xs) (hk : k < n) (u : Value) :
    (w.setCell ⟨g, k, none⟩ u).ownsRow base e 1 (.slice (some ⟨g, 0, none⟩) n c) n (xs.set k u) ∧ w.frozen? ⟨g, k, none⟩ = false ∧ (w.cell? ⟨g, k, none⟩).isSome = true := by
  rcases h.2 with ⟨hv, hn⟩ | ⟨g', cap, cur, hv, hg, hh, hnc, hcm, hsz, ht⟩
  · omega
  · injection hv with h1 h2 h3
    subst h3
    injection h1 with h1
    injection h1 with h1
    subst h1
    have hB : Blk w g e cur.toList := hh
    have hl := h.1
    refine ⟨⟨by simpa using hl, .inr ⟨g, c, (cur.toList.set k u).toArray, rfl, hg, hB.set_ k u, hnc, hcm, by simpa using hsz, ?_⟩⟩, hB.frozen k, ?_⟩
    · rw [show (cur.toList.set k u).toArray.toList = cur.toList.set k u from rfl, ← ht]
      rw [List.take_set]
    · rw [hB.cell]
      have : k < cur.toList.length := by simp; omega
      simp [this]
      simpa using this
set_option maxRecDepth 100000 in
set_option maxHeartbeats 2000000 in
theorem implWriteMemory_c (A : Option Addr) (n c : Nat) (l : List ByteArray) (w : World) (hn : l.length = n) (hm : n ≤ 1048576) (hr : Reads w w.heap.size 1 A n (l.flatMap fun x : ByteArray => [Value.string x])) (at_ : Int) (s : ByteArray) (h1 : I64 at_) (h2 : s.size ≤ 1048576) :
    Calls Try.prog 23 #[.agg #[.slice A n c], .int .i64 at_, .string s] w fun e w' => ∃ A' c', e = .returned (.tuple #[.agg #[.slice A' n c'], .bool (withB l at_ s.size)]) ∧ w'.ownsRow w.heap.size 9 1 (.slice A' n c') n ((writeL l at_ s).flatMap fun x : ByteArray => [Value.string x]) ∧ Below w.heap.size w w' := by
  have hx : (s.size : Int) ≤ 1048576 := by omega
  cases e1 : withB l at_ s.size
  · have hw : writeL l at_ s = l := by rw [writeL, e1]; rfl
    rw [hw]
    go_enter Try.func23, Try.ntmps23
    go_wp2_with fail
    refine (copyMemory_c _ _ _ l _ hn (by omega) (hr.to (by go_grown))).mono ?_
    rintro e w1 ⟨A1, c1', rfl, own1, hb⟩
    obtain ⟨c1, f1, z1⟩ := own_cell hb (b := w.heap.size + 1) (o := 0) (v := .slice none 0 0) (by simp [go_sem]) (by simp [go_sem])
    obtain ⟨c3, f3, z3⟩ := own_cell hb (b := w.heap.size) (o := 0) (v := .slice A n c) (by simp [go_sem]) (by simp [go_sem])
    have k1 : Below w.heap.size w w1 := ext_step (by go_grown) (by go_size) hb
    have q1 : ∀ k, (Value.slice A1 n c1').ownBlock = some k → w.heap.size + 1 < k := fun k hk => by have := (own1.lt k hk).1; simp at this; omega
    have q2 := fun k hk => (own1.lt k hk).2
    have hq8 := z1
    clear hb
    go_wp2_with fail
    refine (calls_bool (implWithin_c _ _ _ l _ hn (by omega) (hr.to (k1.trans (by go_grown))) _ _ h1 ⟨by omega, by omega⟩) e1).mono ?_
    rintro e w2 ⟨rfl, hb⟩
    have ka : Below w1.heap.size w1 (w1.alloc (.cells #[.slice A1 n c1'] 39)) := (Below.refl _ _).alloc (Nat.le_refl _) _
    have hb1 := ext_step ka ka.size hb
    obtain ⟨c1, f1, z1⟩ := own_cell hb1 c1 f1
    obtain ⟨c3, f3, z3⟩ := own_cell hb1 c3 f3
    obtain ⟨c8, f8, z8⟩ := own_cell hb (b := w1.heap.size) (o := 0) (v := .slice A1 n c1') (by simp [go_sem]) (by simp [go_sem])
    have own2 := own_base (own_ext own1 hb1) (base' := w.heap.size) (by simp; omega)
    have k2 := ext_step k1 k1.size hb1
    clear hb ka hb1 own1
    go_wp2
    refine bodyPost_ret (v := .tuple #[.agg #[.slice A1 n c1'], .bool false]) (by simp [results, Try.results23, go_sem, c1, c8]) rfl ?_
    exact ⟨A1, c1', rfl, own_set_ne own2 (fun e => absurd (q1 _ e) (Nat.lt_irrefl _)) _, by go_grown⟩
  · obtain ⟨e2, b1, b2, b3⟩ := withB_t e1
    obtain ⟨a, rfl⟩ := Int.eq_ofNat_of_zero_le b2
    have ll := memB_len e2
    have hw : writeL l a s = writeG (s.size + 1) l a s := by rw [writeL, e1, if_pos rfl, Int.toNat_natCast]
    rw [hw]
    rw [hn] at ll b3
    go_enter Try.func23, Try.ntmps23
    go_wp2_with fail
    refine (copyMemory_c _ _ _ l _ hn (by omega) (hr.to (by go_grown))).mono ?_
    rintro e w1 ⟨A1, c1', rfl, own1, hb⟩
    obtain ⟨c1, f1, z1⟩ := own_cell hb (b := w.heap.size + 1) (o := 0) (v := .slice none 0 0) (by simp [go_sem]) (by simp [go_sem])
    obtain ⟨c3, f3, z3⟩ := own_cell hb (b := w.heap.size) (o := 0) (v := .slice A n c) (by simp [go_sem]) (by simp [go_sem])
    have k1 : Below w.heap.size w w1 := ext_step (by go_grown) (by go_size) hb
    have q1 : ∀ k, (Value.slice A1 n c1').ownBlock = some k → w.heap.size + 1 < k := fun k hk => by have := (own1.lt k hk).1; simp at this; omega
    have q2 := fun k hk => (own1.lt k hk).2
    have hq8 := z1
    clear hb
    go_wp2_with fail
    refine (calls_bool (implWithin_c _ _ _ l _ hn (by omega) (hr.to (k1.trans (by go_grown))) _ _ h1 ⟨by omega, by omega⟩) e1).mono ?_
    rintro e w2 ⟨rfl, hb⟩
    have ka : Below w1.heap.size w1 (w1.alloc (.cells #[.slice A1 n c1'] 39)) := (Below.refl _ _).alloc (Nat.le_refl _) _
    have hb1 := ext_step ka ka.size hb
    obtain ⟨c1, f1, z1⟩ := own_cell hb1 c1 f1
    obtain ⟨c3, f3, z3⟩ := own_cell hb1 c3 f3
    obtain ⟨c8, f8, z8⟩ := own_cell hb (b := w1.heap.size) (o := 0) (v := .slice A1 n c1') (by simp [go_sem]) (by simp [go_sem])
    have own2 := own_base (own_ext own1 hb1) (base' := w.heap.size) (by simp; omega)
    have k2 := ext_step k1 k1.size hb1
    clear hb ka hb1 own1
    generalize hb8 : w1.heap.size = b8 at *
    clear hb8
    go_wp2
    go_loopw [1, 2] (fun av sv wr => ∃ (f a' : Nat) (s' : ByteArray) (l' : List ByteArray), av = .int .i64 a' ∧ sv = .string s' ∧ Hid (l'.length = n) ∧ Hid (∀ (k : Nat) (x : ByteArray), l'[k]? = some x → x.size = 128) ∧ a' + s'.size ≤ 128 * n ∧ s'.size < f ∧ Hid (writeG f l' a' s' = writeG (s.size + 1) l a s) ∧ Below w.heap.size w wr ∧ wr.ownsRow w.heap.size 9 1 (.slice A1 n c1') n ((l').flatMap fun x : ByteArray => [Value.string x]) ∧ wr.cell? ⟨w.heap.size + 1, 0, none⟩ = some (.slice none 0 0) ∧ wr.frozen? ⟨w.heap.size + 1, 0, none⟩ = false ∧ wr.cell? ⟨b8, 0, none⟩ = some (.slice A1 n c1')) (fun _ sv _ => strLen sv)
    case atStart => exact ⟨s.size + 1, a, s, l, rfl, rfl, hn, fun k x hx => memB_el e2 hx, by omega, by omega, rfl, k2, own2, c1, f1, c8⟩
    case round =>
      obtain ⟨f, a', s', l', rfl, rfl, hn', hl', has, hsf, hW, hbw, hown, hc1, hf1, hc8⟩ := hrel
      have hsz := hbw.size
      by_cases hlt : 0 < s'.size
      · have hkn : a' / 128 < n := by omega
        obtain ⟨A2, c2, hv2, hr2, hl2, hm2⟩ := own_form hown
        injection hv2 with hv3 hv4 hv5
        subst hv3
        subst hv5
        obtain ⟨b, o, x, rfl, hb, hxx, hcx⟩ := hr2.el (fun _ => rfl) (by decide) hn'.out hkn
        have hg0 : o = 0 := by
          rcases hown.2 with ⟨h1, _⟩ | ⟨g, _, _, h1, _⟩
          · cases h1
          · injection h1 with h1 _ _
            injection h1 with h1
            injection h1 with h1 h2
        subst hg0
        have c0 : wr.cell? ⟨b, a' / 128, none⟩ = some (.string x) := by simpa using hcx 0 _ rfl
        have hx128 : x.size = 128 := hl'.out _ _ hxx
        have HXx := Lib.hid hxx
        have hbq := q1 b rfl
        have hbq2 := q2 b rfl
        clear hxx hcx hr2
        obtain ⟨cp, W1, hcv, hcp, hT1, hb1, hz1⟩ : ∃ cp W1, (convert 9 22 (.string x)).run Try.prog wr = .ok (.slice (some ⟨wr.heap.size, 0, none⟩) 128 cp) W1 ∧ 128 ≤ cp ∧ Txt W1 wr.heap.size x ∧ Below wr.heap.size wr W1 ∧ W1.heap.size = wr.heap.size + 1 :=
          ⟨_, _, by rw [← hx128]; exact Go.Lib.run_convert_string_bytes wr _ _ 5 x Try.underlying9 Try.underlying22 Try.underlying5, by rw [← hx128]; exact grownCap_ge _ _ _ _, txt_new wr _ x, below_bytes (Below.refl _ _) (Nat.le_refl _) _ _, Go.Lib.bytesWorld_size _ _ _⟩
        have hm1 : partN' a' s'.size ≤ s'.size := Nat.min_le_left _ _
        have hm2' : partN' a' s'.size ≤ 128 - a' % 128 := Nat.min_le_right _ _
        have hm3 : 0 < partN' a' s'.size := by unfold partN'; omega
        have hT2 := txt_put hT1 (o := a' % 128) (m := partN' a' s'.size) (t := s') hm1 (by omega)
        have hb2 : Below wr.heap.size wr (W1.setCells wr.heap.size (a' % 128) ((strCells s').take (partN' a' s'.size))) := below_sets (Nat.le_refl _) _ _ _ hb1
        have hp128 : (putG x (a' % 128) (s'.extract 0 (partN' a' s'.size))).size = 128 := by rw [putG_size, hx128]; rw [ByteArray.size_extract, hx128]; omega
        have hcv2 := txt_str (c := cp) hT2
        rw [hp128] at hcv2
        have hms : min s'.size (128 - a' % 128) = partN' a' s'.size := rfl
        have hcopy := run_copy_min (P := Try.prog) W1 22 9 3 5 wr.heap.size (a' % 128) (128 - a' % 128) (cp - a' % 128) s' Try.underlying22 (by kernel_rfl) (fun j hj => (txt_at hT1 (by omega)).1) (fun j hj => (txt_at hT1 (by omega)).2)
        rw [hms] at hcopy
        have own2 := own_ext hown hb2
        have c1' := ccell hb2 _ _ _ hc1
        have f1' := (hb2.frozen (p := ⟨w.heap.size + 1, 0, none⟩) (cell_block_lt hc1)).trans hf1
        have c8' := ccell hb2 _ _ _ hc8
        obtain ⟨own3, f3, s3⟩ := own_setAt own2 hkn (.string (putG x (a' % 128) (s'.extract 0 (partN' a' s'.size))))
        obtain ⟨v3, g3⟩ := Option.isSome_iff_exists.1 s3
        have hb3 := ext_step hbw hsz hb2
        generalize W1.setCells wr.heap.size (a' % 128) ((strCells s').take (partN' a' s'.size)) = W2 at *
        generalize hP : putG x (a' % 128) (s'.extract 0 (partN' a' s'.size)) = p at *
        have HP := Lib.hid hP
        clear hP
        obtain ⟨f, rfl⟩ : ∃ f', f = f' + 1 := ⟨f - 1, by omega⟩
        have hW2 := hW.out
        rw [writeG, if_pos hlt, List.getD_eq_getElem?_getD, HXx.out, Option.getD_some, HP.out] at hW2
        have HW2 := Lib.hid hW2
        rw [← flat1_set Value.string] at own3
        have hsx : (s'.extract (partN' a' s'.size) s'.size).size = s'.size - partN' a' s'.size := by rw [ByteArray.size_extract]; omega
        clear hW2 hW
        go_wp2
        go_roundw
        case rel => exact ⟨f, a' + partN' a' s'.size, _, l'.set (a' / 128) p, by congr 1, rfl, by rw [Hid, List.length_set]; exact hn'.out, set_all hl'.out hp128, by rw [hsx]; omega, by rw [hsx]; omega, HW2, hb3.setCell (by show w.heap.size ≤ b; omega) _, own3, by rw [World.cell?_setCell_other _ _ _ _ (by simp <;> omega)]; exact c1', by simpa [go_sem] using f1', by rw [World.cell?_setCell_other _ _ _ _ (by simp <;> omega)]; exact c8'⟩
        case measure => show (s'.extract (partN' a' s'.size) s'.size).size < s'.size; rw [hsx]; omega
      · have hs0 : s'.size = 0 := by omega
        have hlw : l' = writeG (s.size + 1) l a s := by
          rw [← hW.out]
          cases f with
          | zero => rfl
          | succ f => rw [writeG, if_neg (by omega)]
        rw [hlw] at hown
        clear hlw hW hn' hl'
        go_wp2
        refine bodyPost_ret (v := .tuple #[.agg #[.slice A1 n c1'], .bool true]) (by simp [results, Try.results23, go_sem, hc1, hc8]) rfl ?_
        exact ⟨A1, c1', rfl, own_set_ne hown (fun e => absurd (q1 _ e) (Nat.lt_irrefl _)) _, by go_grown⟩
set_option maxRecDepth 100000 in
set_option maxHeartbeats 2000000 in
theorem specWriteMemory_c (A : Option Addr) (n c : Nat) (l : List ByteArray) (w : World) (hn : l.length = n) (hm : n ≤ 1048576) (hr : Reads w w.heap.size 1 A n (l.flatMap fun x : ByteArray => [Value.string x])) (at_ : Int) (s : ByteArray) (h1 : I64 at_) (h2 : s.size ≤ 1048576) :
    Calls Try.prog 24 #[.agg #[.slice A n c], .int .i64 at_, .string s] w fun e w' => ∃ A' c', e = .returned (.tuple #[.agg #[.slice A' n c'], .bool (withB l at_ s.size)]) ∧ w'.ownsRow w.heap.size 9 1 (.slice A' n c') n ((writeL l at_ s).flatMap fun x : ByteArray => [Value.string x]) ∧ Below w.heap.size w w' := by
  have hx : (s.size : Int) ≤ 1048576 := by omega
  cases e1 : withB l at_ s.size
  · have hw : writeL l at_ s = l := by rw [writeL, e1]; rfl
    rw [hw]
    go_enter Try.func24, Try.ntmps24
    go_wp2_with fail
    refine (l16Copy_c _ _ _ l _ hn (by omega) (hr.to (by go_grown))).mono ?_
    rintro e w1 ⟨A1, c1', rfl, own1, hb⟩
    obtain ⟨c1, f1, z1⟩ := own_cell hb (b := w.heap.size + 1) (o := 0) (v := .slice none 0 0) (by simp [go_sem]) (by simp [go_sem])
    obtain ⟨c3, f3, z3⟩ := own_cell hb (b := w.heap.size) (o := 0) (v := .slice A n c) (by simp [go_sem]) (by simp [go_sem])
    have k1 : Below w.heap.size w w1 := ext_step (by go_grown) (by go_size) hb
    have q1 : ∀ k, (Value.slice A1 n c1').ownBlock = some k → w.heap.size + 1 < k := fun k hk => by have := (own1.lt k hk).1; simp at this; omega
    have q2 := fun k hk => (own1.lt k hk).2
    have hq8 := z1
    clear hb
    go_wp2_with fail
    refine (calls_bool (specWithin_c _ _ _ l _ hn (by omega) (hr.to (k1.trans (by go_grown))) _ _ h1 ⟨by omega, by omega⟩) e1).mono ?_
    rintro e w2 ⟨rfl, hb⟩
    have ka : Below w1.heap.size w1 (w1.alloc (.cells #[.slice A1 n c1'] 39)) := (Below.refl _ _).alloc (Nat.le_refl _) _
    have hb1 := ext_step ka ka.size hb
    obtain ⟨c1, f1, z1⟩ := own_cell hb1 c1 f1
    obtain ⟨c3, f3, z3⟩ := own_cell hb1 c3 f3
    obtain ⟨c8, f8, z8⟩ := own_cell hb (b := w1.heap.size) (o := 0) (v := .slice A1 n c1') (by simp [go_sem]) (by simp [go_sem])
    have own2 := own_base (own_ext own1 hb1) (base' := w.heap.size) (by simp; omega)
    have k2 := ext_step k1 k1.size hb1
    clear hb ka hb1 own1
    go_wp2
    refine bodyPost_ret (v := .tuple #[.agg #[.slice A1 n c1'], .bool false]) (by simp [results, Try.results24, go_sem, c1, c8]) rfl ?_
    exact ⟨A1, c1', rfl, own_set_ne own2 (fun e => absurd (q1 _ e) (Nat.lt_irrefl _)) _, by go_grown⟩
  · obtain ⟨e2, b1, b2, b3⟩ := withB_t e1
    obtain ⟨a, rfl⟩ := Int.eq_ofNat_of_zero_le b2
    have ll := memB_len e2
    have hw : writeL l a s = writeG (s.size + 1) l a s := by rw [writeL, e1, if_pos rfl, Int.toNat_natCast]
    rw [hw]
    rw [hn] at ll b3
    go_enter Try.func24, Try.ntmps24
    go_wp2_with fail
    refine (l16Copy_c _ _ _ l _ hn (by omega) (hr.to (by go_grown))).mono ?_
    rintro e w1 ⟨A1, c1', rfl, own1, hb⟩
    obtain ⟨c1, f1, z1⟩ := own_cell hb (b := w.heap.size + 1) (o := 0) (v := .slice none 0 0) (by simp [go_sem]) (by simp [go_sem])
    obtain ⟨c3, f3, z3⟩ := own_cell hb (b := w.heap.size) (o := 0) (v := .slice A n c) (by simp [go_sem]) (by simp [go_sem])
    have k1 : Below w.heap.size w w1 := ext_step (by go_grown) (by go_size) hb
    have q1 : ∀ k, (Value.slice A1 n c1').ownBlock = some k → w.heap.size + 1 < k := fun k hk => by have := (own1.lt k hk).1; simp at this; omega
    have q2 := fun k hk => (own1.lt k hk).2
    have hq8 := z1
    clear hb
    go_wp2_with fail
    refine (calls_bool (specWithin_c _ _ _ l _ hn (by omega) (hr.to (k1.trans (by go_grown))) _ _ h1 ⟨by omega, by omega⟩) e1).mono ?_
    rintro e w2 ⟨rfl, hb⟩
    have ka : Below w1.heap.size w1 (w1.alloc (.cells #[.slice A1 n c1'] 39)) := (Below.refl _ _).alloc (Nat.le_refl _) _
    have hb1 := ext_step ka ka.size hb
    obtain ⟨c1, f1, z1⟩ := own_cell hb1 c1 f1
    obtain ⟨c3, f3, z3⟩ := own_cell hb1 c3 f3
    obtain ⟨c8, f8, z8⟩ := own_cell hb (b := w1.heap.size) (o := 0) (v := .slice A1 n c1') (by simp [go_sem]) (by simp [go_sem])
    have own2 := own_base (own_ext own1 hb1) (base' := w.heap.size) (by simp; omega)
    have k2 := ext_step k1 k1.size hb1
    clear hb ka hb1 own1
    generalize hb8 : w1.heap.size = b8 at *
    clear hb8
    go_wp2
    go_loopw [1, 2] (fun av sv wr => ∃ (f a' : Nat) (s' : ByteArray) (l' : List ByteArray), av = .int .i64 a' ∧ sv = .string s' ∧ Hid (l'.length = n) ∧ Hid (∀ (k : Nat) (x : ByteArray), l'[k]? = some x → x.size = 128) ∧ a' + s'.size ≤ 128 * n ∧ s'.size < f ∧ Hid (writeG f l' a' s' = writeG (s.size + 1) l a s) ∧ Below w.heap.size w wr ∧ wr.ownsRow w.heap.size 9 1 (.slice A1 n c1') n ((l').flatMap fun x : ByteArray => [Value.string x]) ∧ wr.cell? ⟨w.heap.size + 1, 0, none⟩ = some (.slice none 0 0) ∧ wr.frozen? ⟨w.heap.size + 1, 0, none⟩ = false ∧ wr.cell? ⟨b8, 0, none⟩ = some (.slice A1 n c1')) (fun _ sv _ => strLen sv)
    case atStart => exact ⟨s.size + 1, a, s, l, rfl, rfl, hn, fun k x hx => memB_el e2 hx, by omega, by omega, rfl, k2, own2, c1, f1, c8⟩
    case round =>
      obtain ⟨f, a', s', l', rfl, rfl, hn', hl', has, hsf, hW, hbw, hown, hc1, hf1, hc8⟩ := hrel
      have hsz := hbw.size
      by_cases hlt : 0 < s'.size
      · have hkn : a' / 128 < n := by omega
        obtain ⟨A2, c2, hv2, hr2, hl2, hm2⟩ := own_form hown
        injection hv2 with hv3 hv4 hv5
        subst hv3
        subst hv5
        obtain ⟨b, o, x, rfl, hb, hxx, hcx⟩ := hr2.el (fun _ => rfl) (by decide) hn'.out hkn
        have hg0 : o = 0 := by
          rcases hown.2 with ⟨h1, _⟩ | ⟨g, _, _, h1, _⟩
          · cases h1
          · injection h1 with h1 _ _
            injection h1 with h1
            injection h1 with h1 h2
        subst hg0
        have c0 : wr.cell? ⟨b, a' / 128, none⟩ = some (.string x) := by simpa using hcx 0 _ rfl
        have hx128 : x.size = 128 := hl'.out _ _ hxx
        have HXx := Lib.hid hxx
        have hbq := q1 b rfl
        have hbq2 := q2 b rfl
        clear hxx hcx hr2
        have hm1 : partN' a' s'.size ≤ s'.size := Nat.min_le_left _ _
        have hm2' : partN' a' s'.size ≤ 128 - a' % 128 := Nat.min_le_right _ _
        have hm3 : 0 < partN' a' s'.size := by unfold partN'; omega
        have hp128 : (putG x (a' % 128) (s'.extract 0 (partN' a' s'.size))).size = 128 := by rw [putG_size, hx128]; rw [ByteArray.size_extract, hx128]; omega
        have hpz : (s'.extract 0 (partN' a' s'.size)).size = partN' a' s'.size := by rw [ByteArray.size_extract]; omega
        have hput : putB x ((a' % 128 : Nat) : Int) (s'.extract 0 (partN' a' s'.size)) = putG x (a' % 128) (s'.extract 0 (partN' a' s'.size)) := by
          rw [putB, if_pos (by rw [hpz, hx128]; omega), Int.toNat_natCast]
        have hq5 : (0 : Int) ≤ (a' : Int) / 128 := by omega
        have hq6 : (a' : Int) / 128 < (n : Int) := by omega
        have hq7 : ((a' : Int) / 128).toNat = a' / 128 := by omega
        have hwr : IntKind.i64.wrap ((a' : Int) / 128) = ((a' / 128 : Nat) : Int) := by rw [IntWalk.i64_in _ ⟨by omega, by omega⟩]; omega
        by_cases hq8 : s'.size ≤ 128 - a' % 128
        · have hpn : partN' a' s'.size = s'.size := by unfold partN'; omega
          have hq9 : ¬ (128 - (a' : Int) % 128 < (s'.size : Int)) := by omega
          go_wp2_with fail
          go_region_law (go_simp; go_at_call 89; refine (specPutBytes_c _ _ _ _ (by rw [hx128]; omega) (by first | (rw [ByteArray.size_extract]; omega) | omega) ⟨by omega, by omega⟩).mono ?_; rintro e w3 ⟨rfl, hb⟩; generalize hP : putB _ _ _ = p; have hb : Below wr.heap.size wr w3 := below_undrew hb; obtain ⟨own3, f3, s3⟩ := own_setAt (own_ext hown hb) hkn (.string p); obtain ⟨v3, g3⟩ := Option.isSome_iff_exists.1 s3; obtain ⟨hc1, hf1, hz1⟩ := own_cell hb hc1 hf1; have hc8 := ccell hb _ _ _ hc8; have hb3 := ext_step hbw hsz hb; clear hb s3)
          all_goals
            have hPp : putG x (a' % 128) (s'.extract 0 (partN' a' s'.size)) = p := by rw [← hput, hpn, ← hP]; simp
            rw [hPp] at hp128
            obtain ⟨f, rfl⟩ : ∃ f', f = f' + 1 := ⟨f - 1, by omega⟩
            have hW2 := hW.out
            rw [writeG, if_pos hlt, List.getD_eq_getElem?_getD, HXx.out, Option.getD_some, hPp] at hW2
            have HW2 := Lib.hid hW2
            rw [← flat1_set Value.string] at own3
            have hsx : (s'.extract (partN' a' s'.size) s'.size).size = s'.size - partN' a' s'.size := by rw [ByteArray.size_extract]; omega
            clear hW2 hW hPp hP hput hwr hq5 hq6 hq7
            go_wp2
            go_roundw
            case rel => exact ⟨f, a' + partN' a' s'.size, s'.extract (partN' a' s'.size) s'.size, l'.set (a' / 128) p, by rw [hpn]; congr 1 <;> omega, by rw [hpn] <;> simp, by rw [Hid, List.length_set]; exact hn'.out, set_all hl'.out hp128, by rw [hsx]; omega, by rw [hsx]; omega, HW2, hb3.setCell (by show w.heap.size ≤ b; omega) _, own3, by rw [World.cell?_setCell_other _ _ _ _ (by simp <;> omega)]; exact hc1, by simpa [go_sem] using hf1, by rw [World.cell?_setCell_other _ _ _ _ (by simp <;> omega)]; exact hc8⟩
            case measure => simp [strLen]; omega
        · have hq9 : 128 - (a' : Int) % 128 < (s'.size : Int) := by omega
          have hq10 : (0 : Int) ≤ 128 - (a' : Int) % 128 := by omega
          have hq11 : (128 - (a' : Int) % 128).toNat = 128 - a' % 128 := by omega
          have hq13 : (a' : Int) % 128 ≤ 128 := by omega
          have hpn : partN' a' s'.size = 128 - a' % 128 := by unfold partN'; omega
          have hq12 : 128 - (a' : Int) % 128 ≤ (s'.size : Int) := by omega
          go_wp2_with fail
          go_region_law (go_simp; go_at_call 89; refine (specPutBytes_c _ _ _ _ (by rw [hx128]; omega) (by first | (rw [ByteArray.size_extract]; omega) | omega) ⟨by omega, by omega⟩).mono ?_; rintro e w3 ⟨rfl, hb⟩; generalize hP : putB _ _ _ = p; have hb : Below wr.heap.size wr w3 := below_undrew hb; obtain ⟨own3, f3, s3⟩ := own_setAt (own_ext hown hb) hkn (.string p); obtain ⟨v3, g3⟩ := Option.isSome_iff_exists.1 s3; obtain ⟨hc1, hf1, hz1⟩ := own_cell hb hc1 hf1; have hc8 := ccell hb _ _ _ hc8; have hb3 := ext_step hbw hsz hb; clear hb s3)
          all_goals
            have hPp : putG x (a' % 128) (s'.extract 0 (partN' a' s'.size)) = p := by rw [← hput, hpn, ← hP]; simp
            rw [hPp] at hp128
            obtain ⟨f, rfl⟩ : ∃ f', f = f' + 1 := ⟨f - 1, by omega⟩
            have hW2 := hW.out
            rw [writeG, if_pos hlt, List.getD_eq_getElem?_getD, HXx.out, Option.getD_some, hPp] at hW2
            have HW2 := Lib.hid hW2
            rw [← flat1_set Value.string] at own3
            have hsx : (s'.extract (partN' a' s'.size) s'.size).size = s'.size - partN' a' s'.size := by rw [ByteArray.size_extract]; omega
            clear hW2 hW hPp hP hput hwr hq5 hq6 hq7
            go_wp2
            go_roundw
            case rel => exact ⟨f, a' + partN' a' s'.size, s'.extract (partN' a' s'.size) s'.size, l'.set (a' / 128) p, by rw [hpn]; congr 1 <;> omega, by rw [hpn] <;> simp, by rw [Hid, List.length_set]; exact hn'.out, set_all hl'.out hp128, by rw [hsx]; omega, by rw [hsx]; omega, HW2, hb3.setCell (by show w.heap.size ≤ b; omega) _, own3, by rw [World.cell?_setCell_other _ _ _ _ (by simp <;> omega)]; exact hc1, by simpa [go_sem] using hf1, by rw [World.cell?_setCell_other _ _ _ _ (by simp <;> omega)]; exact hc8⟩
            case measure => simp [strLen]; omega
      · have hs0 : s'.size = 0 := by omega
        have hlw : l' = writeG (s.size + 1) l a s := by
          rw [← hW.out]
          cases f with
          | zero => rfl
          | succ f => rw [writeG, if_neg (by omega)]
        rw [hlw] at hown
        clear hlw hW hn' hl'
        go_wp2
        refine bodyPost_ret (v := .tuple #[.agg #[.slice A1 n c1'], .bool true]) (by simp [results, Try.results24, go_sem, hc1, hc8]) rfl ?_
        exact ⟨A1, c1', rfl, own_set_ne hown (fun e => absurd (q1 _ e) (Nat.lt_irrefl _)) _, by go_grown⟩
end Go.Proofs.Ytnnlagmgdfhaiaa
