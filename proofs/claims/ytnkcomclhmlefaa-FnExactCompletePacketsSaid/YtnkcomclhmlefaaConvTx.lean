/- Contracts of the laws' helpers on queues for sending: to, sz, eq. -/
import Derived.Test.YtnkcomclhmlefaaNest
import Derived.Test.YtnkcomclhmlefaaConvPool
import Derived.Test.YtnkcomclhmlefaaConvRing
import Derived.Test.YtnkcomclhmlefaaWhole
import Derived.Test.YtnkcomclhmlefaaSlots4
import Derived.Test.YtnkcomclhmlefaaRetB
namespace Go.Proofs.Ytnkcomclhmlefaa
set_option linter.unusedSimpArgs false
set_option linter.unusedVariables false
open Go.RowKit Go.ChangeShapes Go.WideShapes
theorem InOwn.chgA {w w1 : World} {base b : Nat} {L : List SentH} (h : InOwn w base L) (hc : ChgA b w w1) (hlt : b < base) : InOwn w1 base L :=
  ⟨fun x hx => ⟨(h.1 x hx).1, own_chgA (h.1 x hx).2 hc fun g hg => by have := h.lt hx hg; omega⟩, h.2⟩
theorem map_v_len {L L' : List SentH} (h : L'.map SentH.v = L.map SentH.v) : L'.length = L.length := by simpa using congrArg List.length h
theorem map_v_get {L L' : List SentH} (h : L'.map SentH.v = L.map SentH.v) {k : Nat} {x y : SentH} (hx : L[k]? = some x) (hy : L'[k]? = some y) : y.v = x.v := by
  have h1 := congrArg (fun l => l[k]?) h
  simpa [hx, hy] using h1
theorem totB_v {w w1 : World} {B B1 : Nat} {L L' : List SentH} (h : L'.map SentH.v = L.map SentH.v) (h1 : InRd w B L) (h2 : InRd w1 B1 L') : totB L' = totB L := by
  induction L generalizing L' with
  | nil => cases L' with
    | nil => rfl
    | cons y L' => simp at h
  | cons x L ih => cases L' with
    | nil => simp at h
    | cons y L' =>
      simp only [List.map_cons, List.cons.injEq] at h
      have h3 := ih h.2 (h1.sub fun z hz => List.mem_cons_of_mem _ hz) (h2.sub fun z hz => List.mem_cons_of_mem _ hz)
      have h4 := (h1 x (List.mem_cons_self ..)).1
      have h5 := (h2 y (List.mem_cons_self ..)).1
      have h6 : y.bufs = x.bufs := congrArg SentV.bufs h.1
      simp only [totB, List.map_cons, List.sum_cons] at *
      rw [h6] at h5
      omega
theorem take_snoc {T : Type} {cells : T → List Value} {size : Nat} (hs : ∀ x, (cells x).length = size) {l : List T} {k n : Nat} {y : T} {cs : List Value} (hl : l.length = k) (hlen : cs.length = n * size) (hk : k < n)
    (ht : cs.take (k * size) = l.flatMap cells) : (setsAt cs (k * size) (cells y)).take ((k + 1) * size) = (l ++ [y]).flatMap cells := by
  subst hl
  have h := take_elem (cells := cells) (l := l ++ [y]) (k := l.length) (x := y) hs (by simp) hlen hk (by simpa using ht)
  rw [show (l ++ [y]).take (l.length + 1) = l ++ [y] from List.take_of_length_le (by simp)] at h
  exact h
theorem szIntS_p (A : Option Addr) (n c : Nat) (left : Int) (w : World) (h0 : (n : Int) ≤ left) (h1 : left ≤ 1048576) :
    Calls Try.prog 40 #[.slice A n c, .int .i64 left] w fun e w' => e = .returned (.int .i64 (left - n)) ∧ w = w' := by
  have h := szIntS_c A n c left w (by omega) h1 (by omega)
  rw [if_neg (by omega)] at h
  exact h
theorem szIntS_n (A : Option Addr) (n c : Nat) (left : Int) (w : World) (hl : 0 ≤ left) (h0 : left < n) (h1 : left ≤ 1048576) (hm : n ≤ 9223372036854775807) :
    Calls Try.prog 40 #[.slice A n c, .int .i64 left] w fun e w' => e = .returned (.int .i64 (-1)) ∧ w = w' := by
  have h := szIntS_c A n c left w hl h1 hm
  rw [if_pos (by omega)] at h
  exact h
set_option maxHeartbeats 1000000 in
theorem toSent_c (cookie slots : Int) (A : Option Addr) (n c : Nat) (l : List Int) (w : World) (hn : l.length = n) (hm : n ≤ 1048576) (hr : Reads w w.heap.size 1 A n (ints l)) :
    Calls Try.prog 46 #[.agg #[.int .i64 cookie, .int .i64 slots, .slice A n c]] w fun e w' => ∃ g, e = .returned (.agg #[.int .i64 cookie, .int .i64 slots, .slice (some ⟨g, 0, none⟩) n n]) ∧ w.heap.size ≤ g ∧ Blk w' g 3 (ints l) ∧ Below w.heap.size w w' := by
  go_enter Try.func46, Try.ntmps46
  go_wp2_with fail
  refine (toIntS_c _ _ _ l _ hn hm (hr.to (by go_grown))).mono ?_
  rintro e w1 ⟨g, rfl, hg, hbk, hb⟩
  obtain ⟨d0, df0, dz0⟩ := own_cell hb (b := w.heap.size + 1) (o := 0) (v := .int .i64 0) (by simp [go_sem]) (by simp [go_sem])
  obtain ⟨d1, df1, dz1⟩ := own_cell hb (b := w.heap.size + 1) (o := 1) (v := .int .i64 0) (by simp [go_sem]) (by simp [go_sem])
  obtain ⟨d2, df2, dz2⟩ := own_cell hb (b := w.heap.size + 1) (o := 2) (v := .slice none 0 0) (by simp [go_sem]) (by simp [go_sem])
  obtain ⟨e0, ef0, ez0⟩ := own_cell hb (b := w.heap.size + 1 + 1) (o := 0) (v := .int .i64 cookie) (by simp [go_sem]) (by simp [go_sem])
  obtain ⟨e1, ef1, ez1⟩ := own_cell hb (b := w.heap.size + 1 + 1) (o := 1) (v := .int .i64 slots) (by simp [go_sem]) (by simp [go_sem])
  obtain ⟨e2, ef2, ez2⟩ := own_cell hb (b := w.heap.size + 1 + 1) (o := 2) (v := .slice none 0 0) (by simp [go_sem]) (by simp [go_sem])
  have k1 : Below w.heap.size w w1 := ext_step (by go_grown) (by go_size) hb
  simp only [World.size_alloc, World.size_setCell] at hg
  clear hb
  go_wp2
  refine bodyPost_ret (v := .agg #[.int .i64 cookie, .int .i64 slots, .slice (some ⟨g, 0, none⟩) n n]) (by simp [results, Try.results46, go_sem, d0, d1, d2, e0, e1, e2]) rfl ?_
  exact ⟨g, rfl, by omega, by repeat (first | (with_reducible exact hbk) | refine Blk.far ?_ (by simp; omega) _), by go_grown⟩
theorem info_Sent : (Try.prog.info? 52).map (fun i => (i.zero, i.size, i.bytes)) = some (some (.agg #[.int .i64 0, .int .i64 0, .slice none 0 0]), 3, 40) := by kernel_rfl
set_option maxRecDepth 100000 in
set_option maxHeartbeats 2000000 in
/-- Waiting packets that came in are copied, their buffers into rows of the call's own. -/
theorem toSentS_c (A : Option Addr) (n c : Nat) (L : List SentH) (w : World) (hn : L.length = n) (hm : n ≤ 1048576) (hm2 : totB L ≤ 1048576) (hr : Reads w w.heap.size 3 A n (L.flatMap SentH.cells)) (hi : InRd w w.heap.size L) :
    Calls Try.prog 25 #[.slice A n c] w fun e w' => ∃ g L', e = .returned (.slice (some ⟨g, 0, none⟩) n n) ∧ L'.map SentH.v = L.map SentH.v ∧ w.heap.size ≤ g ∧ Blk w' g 52 (L'.flatMap SentH.cells) ∧ InOwn w' w.heap.size L' ∧ Below w.heap.size w w' := by
  obtain ⟨i0, hi0, hz0, hz1, hz2⟩ := info_parts info_Sent
  have hmk := fun W => run_make_rowN (P := Try.prog) 34 52 i0 _ 3 40 Try.underlying34 hi0 hz0 hz1 hz2 n n (Nat.le_refl _) (by omega) (by omega) W
  have HN := Lib.hid hn
  clear hn hi0 hz0 hz1 hz2
  have hsz0 := madeCells_len (.agg #[.int .i64 0, .int .i64 0, .slice none 0 0] : Value).cells (n * 3)
  have HZ := Lib.hid hsz0
  generalize (madeCells (.agg #[.int .i64 0, .int .i64 0, .slice none 0 0] : Value).cells (n * 3)).toList = z at *
  clear hsz0
  go_enter Try.func25, Try.ntmps25
  go_wp2
  go_loopw [4] (fun i wr => ∃ (k : Nat) (L' : List SentH) (cs : List Value), k ≤ n ∧ i = .int .i64 k ∧ Below w.heap.size w wr ∧ Blk wr w.heap.size 52 cs ∧ Hid (cs.length = n * 3) ∧ Hid (cs.take (k * 3) = L'.flatMap SentH.cells) ∧ Hid (L'.length = k ∧ L'.map SentH.v = (L.take k).map SentH.v) ∧ InOwn wr (w.heap.size + 1) L') (fun i _ => n - (intOf i).toNat)
  case atStart => exact ⟨0, [], z, Nat.zero_le _, rfl, by go_grown, Blk.new _ _ _, HZ, by simp [Hid], by simp [Hid], InOwn.nil _ _⟩
  case round =>
    obtain ⟨k, L', cs, hk, rfl, hbw, hblk, hcl, htk, hL, hown⟩ := hrel
    have hsz := hbw.size
    have hgl := hblk.lt
    by_cases hlt : k < n
    · obtain ⟨b, o, x, rfl, hbl, hx, hc⟩ := hr.el (fun _ => rfl) (by decide) HN.out hlt
      have c0 := (hbw.cell (p := ⟨b, o + k * 3, none⟩) hbl).trans (by simpa using hc 0 _ rfl)
      have c1 := (hbw.cell (p := ⟨b, o + k * 3 + 1, none⟩) hbl).trans (by simpa using hc 1 _ rfl)
      have c2 := (hbw.cell (p := ⟨b, o + k * 3 + 2, none⟩) hbl).trans (by simpa using hc 2 _ rfl)
      have hxm := List.mem_of_getElem? hx
      have hxn := totB_mem hxm
      have hxr := (hi x hxm).2.to hbw
      have hxl := (hi x hxm).1
      have HX := Lib.hid hx
      clear hx hc
      obtain ⟨v0, g0⟩ := hblk.get (i := k * 3) (by rw [hcl.out]; omega)
      obtain ⟨v1, g1⟩ := hblk.get (i := k * 3 + 1) (by rw [hcl.out]; omega)
      obtain ⟨v2, g2⟩ := hblk.get (i := k * 3 + 2) (by rw [hcl.out]; omega)
      go_wp2_with (go_at_call 46; refine (toSent_c _ _ _ _ _ x.bufs _ hxl (by omega) hxr).mono ?_; rintro e w1 ⟨g, rfl, hg, hbg, hb1⟩; have hk1 : Below w.heap.size w w1 := ext_step hbw hbw.size hb1; have hbk := hblk.ext hb1; have d0 := (hb1.cell (p := ⟨w.heap.size, k * 3, none⟩) hgl).trans g0; have d1 := (hb1.cell (p := ⟨w.heap.size, k * 3 + 1, none⟩) hgl).trans g1; have d2 := (hb1.cell (p := ⟨w.heap.size, k * 3 + 2, none⟩) hgl).trans g2; have e0 := hbk.frozen (k * 3); have e1 := hbk.frozen (k * 3 + 1); have e2 := hbk.frozen (k * 3 + 2); have hgl1 := hbk.lt; have hown1 := hown.ext hb1; have hlw := fun y hy g hg => (hown.lt (x := y) hy (g := g) hg).2; clear hb1)
      have hnew : w1.ownsRow (w.heap.size + 1) 3 1 (.slice (some ⟨g, 0, none⟩) x.n x.n) x.n (ints x.bufs) := hbg.own (by omega) (by rw [ints_len, hxl]) (by unfold maxLen; omega) rfl
      have hcol : ∀ y ∈ L', ∀ g1, y.ob = some g1 → (⟨x.cookie, x.slots, some ⟨g, 0, none⟩, x.n, x.n, x.bufs⟩ : SentH).ob = some g1 → False := by
        intro y hy g1 hg1 hg2
        have h1 := hlw y hy g1 hg1
        have h2 : g = g1 := by simpa [SentH.ob, Value.ownBlock] using hg2
        omega
      have hown2 := hown1.snoc (x := ⟨x.cookie, x.slots, some ⟨g, 0, none⟩, x.n, x.n, x.bufs⟩) hxl hnew hcol
      have hne : ∀ y ∈ L' ++ [(⟨x.cookie, x.slots, some ⟨g, 0, none⟩, x.n, x.n, x.bufs⟩ : SentH)], y.ob ≠ some w.heap.size := fun y hy e => by have := hown2.lt hy e; omega
      have hT : Hid ((setsAt cs (k * 3) (SentH.cells ⟨x.cookie, x.slots, some ⟨g, 0, none⟩, x.n, x.n, x.bufs⟩)).take ((k + 1) * 3) = (L' ++ [(⟨x.cookie, x.slots, some ⟨g, 0, none⟩, x.n, x.n, x.bufs⟩ : SentH)]).flatMap SentH.cells) := take_snoc (cells := SentH.cells) (y := ⟨x.cookie, x.slots, some ⟨g, 0, none⟩, x.n, x.n, x.bufs⟩) (fun _ => rfl) hL.out.1 hcl.out hlt htk.out
      go_roundw
      case rel => exact ⟨k + 1, L' ++ [⟨x.cookie, x.slots, some ⟨g, 0, none⟩, x.n, x.n, x.bufs⟩], setsAt cs (k * 3) (SentH.cells ⟨x.cookie, x.slots, some ⟨g, 0, none⟩, x.n, x.n, x.bufs⟩), by omega, by go_num, (Below.setCell (Below.setCell (Below.setCell hk1 (by simp) _) (by simp) _) (by simp) _), ((hbk.set_ _ _).set_ _ _).set_ _ _, by rw [Hid, setsAt_len]; exact hcl.out, hT, ⟨by simp [hL.out.1], by rw [take_next HX.out, List.map_append, List.map_append, hL.out.2]; rfl⟩, ((hown2.set hne _).set hne _).set hne _⟩
      case measure => simp [intOf]; omega
    · go_wp2
      go_ret
      have hkn : k = n := by omega
      have h2 := hL.out
      have h1 := htk.out
      rw [List.take_of_length_le (by rw [hcl.out, hkn]; exact Nat.le_refl _)] at h1
      rw [List.take_of_length_le (by rw [HN.out]; omega)] at h2
      rw [h1] at hblk
      exact ⟨_, L', rfl, h2.2, Nat.le_refl _, hblk, hown.lower (by omega), hbw⟩
set_option maxRecDepth 100000 in
set_option maxHeartbeats 4000000 in
theorem toTxQueue_c (rb rs rh rt pb ps pc : Int) (Ap : Option Addr) (np cp : Nat) (free : List Int) (As : Option Addr) (ns cs : Nat) (L : List SentH) (next : Int) (w : World) (hn1 : free.length = np) (hr1 : Reads w w.heap.size 1 Ap np (ints free)) (hn2 : L.length = ns) (hr2 : Reads w w.heap.size 3 As ns (L.flatMap SentH.cells)) (hi : InRd w w.heap.size L) (hm : np + ns + totB L ≤ 1048576) :
    Calls Try.prog 7 #[.agg #[.int .i64 rb, .int .i64 rs, .int .i64 rh, .int .i64 rt, .int .i64 pb, .int .i64 ps, .int .i64 pc, .slice Ap np cp, .slice As ns cs, .int .i64 next]] w fun e w' => ∃ H : TxH, e = .returned (.agg #[.int .i64 H.rb, .int .i64 H.rs, .int .i64 H.rh, .int .i64 H.rt, .int .i64 H.pb, .int .i64 H.ps, .int .i64 H.pc, .slice H.Ap H.np H.cp, .slice H.As H.ns H.cs, .int .i64 H.next]) ∧ H.v = ⟨rb, rs, rh, rt, pb, ps, pc, free, L.map SentH.v, next⟩ ∧ TxO w' w.heap.size H ∧ Below w.heap.size w w' := by
  have r_p := hr1
  have hn_p := hn1
  go_enter Try.func7, Try.ntmps7
  go_wp2_with fail
  have k0 : Below w.heap.size w (((w.alloc (.cells #[.int .i64 rb, .int .i64 rs, .int .i64 rh, .int .i64 rt, .int .i64 pb, .int .i64 ps, .int .i64 pc, .slice Ap np cp, .slice As ns cs, .int .i64 next] 29)).alloc (.cells #[.int .i64 0, .int .i64 0, .int .i64 0, .int .i64 0, .int .i64 0, .int .i64 0, .int .i64 0, .slice none 0 0, .slice none 0 0, .int .i64 0] 36)).alloc (.cells #[.int .i64 0, .int .i64 0, .int .i64 0, .int .i64 0, .int .i64 0, .int .i64 0, .int .i64 0, .slice none 0 0, .slice none 0 0, .int .i64 0] 36)) := by go_grown
  have bl0 : w.heap.size < (((w.alloc (.cells #[.int .i64 rb, .int .i64 rs, .int .i64 rh, .int .i64 rt, .int .i64 pb, .int .i64 ps, .int .i64 pc, .slice Ap np cp, .slice As ns cs, .int .i64 next] 29)).alloc (.cells #[.int .i64 0, .int .i64 0, .int .i64 0, .int .i64 0, .int .i64 0, .int .i64 0, .int .i64 0, .slice none 0 0, .slice none 0 0, .int .i64 0] 36)).alloc (.cells #[.int .i64 0, .int .i64 0, .int .i64 0, .int .i64 0, .int .i64 0, .int .i64 0, .int .i64 0, .slice none 0 0, .slice none 0 0, .int .i64 0] 36)).heap.size := by go_size
  have hk0 : Blk (((w.alloc (.cells #[.int .i64 rb, .int .i64 rs, .int .i64 rh, .int .i64 rt, .int .i64 pb, .int .i64 ps, .int .i64 pc, .slice Ap np cp, .slice As ns cs, .int .i64 next] 29)).alloc (.cells #[.int .i64 0, .int .i64 0, .int .i64 0, .int .i64 0, .int .i64 0, .int .i64 0, .int .i64 0, .slice none 0 0, .slice none 0 0, .int .i64 0] 36)).alloc (.cells #[.int .i64 0, .int .i64 0, .int .i64 0, .int .i64 0, .int .i64 0, .int .i64 0, .int .i64 0, .slice none 0 0, .slice none 0 0, .int .i64 0] 36)) (w.heap.size) 29 [.int .i64 rb, .int .i64 rs, .int .i64 rh, .int .i64 rt, .int .i64 pb, .int .i64 ps, .int .i64 pc, .slice Ap np cp, .slice As ns cs, .int .i64 next] := by simpa using ((Blk.new w 29 [.int .i64 rb, .int .i64 rs, .int .i64 rh, .int .i64 rt, .int .i64 pb, .int .i64 ps, .int .i64 pc, .slice Ap np cp, .slice As ns cs, .int .i64 next]).alloc (.cells #[.int .i64 0, .int .i64 0, .int .i64 0, .int .i64 0, .int .i64 0, .int .i64 0, .int .i64 0, .slice none 0 0, .slice none 0 0, .int .i64 0] 36)).alloc (.cells #[.int .i64 0, .int .i64 0, .int .i64 0, .int .i64 0, .int .i64 0, .int .i64 0, .int .i64 0, .slice none 0 0, .slice none 0 0, .int .i64 0] 36)
  have bl1 : w.heap.size + 1 < (((w.alloc (.cells #[.int .i64 rb, .int .i64 rs, .int .i64 rh, .int .i64 rt, .int .i64 pb, .int .i64 ps, .int .i64 pc, .slice Ap np cp, .slice As ns cs, .int .i64 next] 29)).alloc (.cells #[.int .i64 0, .int .i64 0, .int .i64 0, .int .i64 0, .int .i64 0, .int .i64 0, .int .i64 0, .slice none 0 0, .slice none 0 0, .int .i64 0] 36)).alloc (.cells #[.int .i64 0, .int .i64 0, .int .i64 0, .int .i64 0, .int .i64 0, .int .i64 0, .int .i64 0, .slice none 0 0, .slice none 0 0, .int .i64 0] 36)).heap.size := by go_size
  have hk1 : Blk (((w.alloc (.cells #[.int .i64 rb, .int .i64 rs, .int .i64 rh, .int .i64 rt, .int .i64 pb, .int .i64 ps, .int .i64 pc, .slice Ap np cp, .slice As ns cs, .int .i64 next] 29)).alloc (.cells #[.int .i64 0, .int .i64 0, .int .i64 0, .int .i64 0, .int .i64 0, .int .i64 0, .int .i64 0, .slice none 0 0, .slice none 0 0, .int .i64 0] 36)).alloc (.cells #[.int .i64 0, .int .i64 0, .int .i64 0, .int .i64 0, .int .i64 0, .int .i64 0, .int .i64 0, .slice none 0 0, .slice none 0 0, .int .i64 0] 36)) (w.heap.size + 1) 36 [.int .i64 0, .int .i64 0, .int .i64 0, .int .i64 0, .int .i64 0, .int .i64 0, .int .i64 0, .slice none 0 0, .slice none 0 0, .int .i64 0] := by simpa using (Blk.new (w.alloc (.cells #[.int .i64 rb, .int .i64 rs, .int .i64 rh, .int .i64 rt, .int .i64 pb, .int .i64 ps, .int .i64 pc, .slice Ap np cp, .slice As ns cs, .int .i64 next] 29)) 36 [.int .i64 0, .int .i64 0, .int .i64 0, .int .i64 0, .int .i64 0, .int .i64 0, .int .i64 0, .slice none 0 0, .slice none 0 0, .int .i64 0]).alloc (.cells #[.int .i64 0, .int .i64 0, .int .i64 0, .int .i64 0, .int .i64 0, .int .i64 0, .int .i64 0, .slice none 0 0, .slice none 0 0, .int .i64 0] 36)
  have bl2 : w.heap.size + 1 + 1 < (((w.alloc (.cells #[.int .i64 rb, .int .i64 rs, .int .i64 rh, .int .i64 rt, .int .i64 pb, .int .i64 ps, .int .i64 pc, .slice Ap np cp, .slice As ns cs, .int .i64 next] 29)).alloc (.cells #[.int .i64 0, .int .i64 0, .int .i64 0, .int .i64 0, .int .i64 0, .int .i64 0, .int .i64 0, .slice none 0 0, .slice none 0 0, .int .i64 0] 36)).alloc (.cells #[.int .i64 0, .int .i64 0, .int .i64 0, .int .i64 0, .int .i64 0, .int .i64 0, .int .i64 0, .slice none 0 0, .slice none 0 0, .int .i64 0] 36)).heap.size := by go_size
  have hk2 : Blk (((w.alloc (.cells #[.int .i64 rb, .int .i64 rs, .int .i64 rh, .int .i64 rt, .int .i64 pb, .int .i64 ps, .int .i64 pc, .slice Ap np cp, .slice As ns cs, .int .i64 next] 29)).alloc (.cells #[.int .i64 0, .int .i64 0, .int .i64 0, .int .i64 0, .int .i64 0, .int .i64 0, .int .i64 0, .slice none 0 0, .slice none 0 0, .int .i64 0] 36)).alloc (.cells #[.int .i64 0, .int .i64 0, .int .i64 0, .int .i64 0, .int .i64 0, .int .i64 0, .int .i64 0, .slice none 0 0, .slice none 0 0, .int .i64 0] 36)) (w.heap.size + 1 + 1) 36 [.int .i64 0, .int .i64 0, .int .i64 0, .int .i64 0, .int .i64 0, .int .i64 0, .int .i64 0, .slice none 0 0, .slice none 0 0, .int .i64 0] := by simpa using Blk.new ((w.alloc (.cells #[.int .i64 rb, .int .i64 rs, .int .i64 rh, .int .i64 rt, .int .i64 pb, .int .i64 ps, .int .i64 pc, .slice Ap np cp, .slice As ns cs, .int .i64 next] 29)).alloc (.cells #[.int .i64 0, .int .i64 0, .int .i64 0, .int .i64 0, .int .i64 0, .int .i64 0, .int .i64 0, .slice none 0 0, .slice none 0 0, .int .i64 0] 36)) 36 [.int .i64 0, .int .i64 0, .int .i64 0, .int .i64 0, .int .i64 0, .int .i64 0, .int .i64 0, .slice none 0 0, .slice none 0 0, .int .i64 0]
  have r_p := r_p.below k0
  have p0 := k0.size
  generalize hW0 : (((w.alloc (.cells #[.int .i64 rb, .int .i64 rs, .int .i64 rh, .int .i64 rt, .int .i64 pb, .int .i64 ps, .int .i64 pc, .slice Ap np cp, .slice As ns cs, .int .i64 next] 29)).alloc (.cells #[.int .i64 0, .int .i64 0, .int .i64 0, .int .i64 0, .int .i64 0, .int .i64 0, .int .i64 0, .slice none 0 0, .slice none 0 0, .int .i64 0] 36)).alloc (.cells #[.int .i64 0, .int .i64 0, .int .i64 0, .int .i64 0, .int .i64 0, .int .i64 0, .int .i64 0, .slice none 0 0, .slice none 0 0, .int .i64 0] 36)) = w0 at *
  clear hW0
  refine (toRing_c _ _ _ _ _).mono ?_
  rintro e w1 ⟨rfl, hb⟩
  have k1 : Below w.heap.size w w1 := ext_step k0 (by omega) hb
  have p1 := hb.size
  replace hk0 := hk0.ext hb
  replace hk1 := hk1.ext hb
  replace hk2 := hk2.ext hb
  have bl0 := Nat.lt_of_lt_of_le bl0 hb.size
  have bl1 := Nat.lt_of_lt_of_le bl1 hb.size
  have bl2 := Nat.lt_of_lt_of_le bl2 hb.size
  replace r_p := r_p.below (hb.mono (by omega))
  clear hb
  have bx2_0 := hk2.at_ 0 _ rfl
  have fz2_0 := hk2.frozen 0
  have bx2_1 := hk2.at_ 1 _ rfl
  have fz2_1 := hk2.frozen 1
  have bx2_2 := hk2.at_ 2 _ rfl
  have fz2_2 := hk2.frozen 2
  have bx2_3 := hk2.at_ 3 _ rfl
  have fz2_3 := hk2.frozen 3
  have bx2_4 := hk2.at_ 4 _ rfl
  have fz2_4 := hk2.frozen 4
  have bx2_5 := hk2.at_ 5 _ rfl
  have fz2_5 := hk2.frozen 5
  have bx2_6 := hk2.at_ 6 _ rfl
  have fz2_6 := hk2.frozen 6
  have bx2_7 := hk2.at_ 7 _ rfl
  have fz2_7 := hk2.frozen 7
  have bx2_8 := hk2.at_ 8 _ rfl
  have fz2_8 := hk2.frozen 8
  have bx2_9 := hk2.at_ 9 _ rfl
  have fz2_9 := hk2.frozen 9
  have bx0_0 := hk0.at_ 0 _ rfl
  have bx0_1 := hk0.at_ 1 _ rfl
  have bx0_2 := hk0.at_ 2 _ rfl
  have bx0_3 := hk0.at_ 3 _ rfl
  have bx0_4 := hk0.at_ 4 _ rfl
  have bx0_5 := hk0.at_ 5 _ rfl
  have bx0_6 := hk0.at_ 6 _ rfl
  have bx0_7 := hk0.at_ 7 _ rfl
  have bx0_8 := hk0.at_ 8 _ rfl
  have bx0_9 := hk0.at_ 9 _ rfl
  go_wp2_with fail
  have hc : ChgA (w.heap.size + 1 + 1) w1 (w1.setCell ⟨w.heap.size + 1 + 1, 0, none⟩ (.int .i64 rb)) := (ChgA.refl _ _).set _ _
  have hko := hk2
  replace hk0 := hk0.chgA hc (by omega)
  replace hk1 := hk1.chgA hc (by omega)
  replace hk2 : Blk (w1.setCell ⟨w.heap.size + 1 + 1, 0, none⟩ (.int .i64 rb)) (w.heap.size + 1 + 1) 36 [.int .i64 rb, .int .i64 0, .int .i64 0, .int .i64 0, .int .i64 0, .int .i64 0, .int .i64 0, .slice none 0 0, .slice none 0 0, .int .i64 0] := hk2.set_ 0 _
  have k2 : Below w.heap.size w (w1.setCell ⟨w.heap.size + 1 + 1, 0, none⟩ (.int .i64 rb)) := hc.below (by omega) k1
  have p2 : (w1.setCell ⟨w.heap.size + 1 + 1, 0, none⟩ (.int .i64 rb)).heap.size = w1.heap.size := hc.size
  have bl0 := Nat.lt_of_lt_of_le bl0 (Nat.le_of_eq p2.symm)
  have bl1 := Nat.lt_of_lt_of_le bl1 (Nat.le_of_eq p2.symm)
  have bl2 := Nat.lt_of_lt_of_le bl2 (Nat.le_of_eq p2.symm)
  replace r_p := r_p.below (hc.below (by omega) (Below.refl _ _))
  generalize hW0 : (w1.setCell ⟨w.heap.size + 1 + 1, 0, none⟩ (.int .i64 rb)) = w2 at *
  clear hW0 hc hko
  clear bx2_0 fz2_0 bx2_1 fz2_1 bx2_2 fz2_2 bx2_3 fz2_3 bx2_4 fz2_4 bx2_5 fz2_5 bx2_6 fz2_6 bx2_7 fz2_7 bx2_8 fz2_8 bx2_9 fz2_9 bx0_0 bx0_1 bx0_2 bx0_3 bx0_4 bx0_5 bx0_6 bx0_7 bx0_8 bx0_9
  have hc : ChgA (w.heap.size + 1 + 1) w2 (w2.setCell ⟨w.heap.size + 1 + 1, 1, none⟩ (.int .i64 rs)) := (ChgA.refl _ _).set _ _
  have hko := hk2
  replace hk0 := hk0.chgA hc (by omega)
  replace hk1 := hk1.chgA hc (by omega)
  replace hk2 : Blk (w2.setCell ⟨w.heap.size + 1 + 1, 1, none⟩ (.int .i64 rs)) (w.heap.size + 1 + 1) 36 [.int .i64 rb, .int .i64 rs, .int .i64 0, .int .i64 0, .int .i64 0, .int .i64 0, .int .i64 0, .slice none 0 0, .slice none 0 0, .int .i64 0] := hk2.set_ 1 _
  have k3 : Below w.heap.size w (w2.setCell ⟨w.heap.size + 1 + 1, 1, none⟩ (.int .i64 rs)) := hc.below (by omega) k2
  have p3 : (w2.setCell ⟨w.heap.size + 1 + 1, 1, none⟩ (.int .i64 rs)).heap.size = w2.heap.size := hc.size
  have bl0 := Nat.lt_of_lt_of_le bl0 (Nat.le_of_eq p3.symm)
  have bl1 := Nat.lt_of_lt_of_le bl1 (Nat.le_of_eq p3.symm)
  have bl2 := Nat.lt_of_lt_of_le bl2 (Nat.le_of_eq p3.symm)
  replace r_p := r_p.below (hc.below (by omega) (Below.refl _ _))
  generalize hW0 : (w2.setCell ⟨w.heap.size + 1 + 1, 1, none⟩ (.int .i64 rs)) = w3 at *
  clear hW0 hc hko
  have hc : ChgA (w.heap.size + 1 + 1) w3 (w3.setCell ⟨w.heap.size + 1 + 1, 2, none⟩ (.int .i64 rh)) := (ChgA.refl _ _).set _ _
  have hko := hk2
  replace hk0 := hk0.chgA hc (by omega)
  replace hk1 := hk1.chgA hc (by omega)
  replace hk2 : Blk (w3.setCell ⟨w.heap.size + 1 + 1, 2, none⟩ (.int .i64 rh)) (w.heap.size + 1 + 1) 36 [.int .i64 rb, .int .i64 rs, .int .i64 rh, .int .i64 0, .int .i64 0, .int .i64 0, .int .i64 0, .slice none 0 0, .slice none 0 0, .int .i64 0] := hk2.set_ 2 _
  have k4 : Below w.heap.size w (w3.setCell ⟨w.heap.size + 1 + 1, 2, none⟩ (.int .i64 rh)) := hc.below (by omega) k3
  have p4 : (w3.setCell ⟨w.heap.size + 1 + 1, 2, none⟩ (.int .i64 rh)).heap.size = w3.heap.size := hc.size
  have bl0 := Nat.lt_of_lt_of_le bl0 (Nat.le_of_eq p4.symm)
  have bl1 := Nat.lt_of_lt_of_le bl1 (Nat.le_of_eq p4.symm)
  have bl2 := Nat.lt_of_lt_of_le bl2 (Nat.le_of_eq p4.symm)
  replace r_p := r_p.below (hc.below (by omega) (Below.refl _ _))
  generalize hW0 : (w3.setCell ⟨w.heap.size + 1 + 1, 2, none⟩ (.int .i64 rh)) = w4 at *
  clear hW0 hc hko
  have hc : ChgA (w.heap.size + 1 + 1) w4 (w4.setCell ⟨w.heap.size + 1 + 1, 3, none⟩ (.int .i64 rt)) := (ChgA.refl _ _).set _ _
  have hko := hk2
  replace hk0 := hk0.chgA hc (by omega)
  replace hk1 := hk1.chgA hc (by omega)
  replace hk2 : Blk (w4.setCell ⟨w.heap.size + 1 + 1, 3, none⟩ (.int .i64 rt)) (w.heap.size + 1 + 1) 36 [.int .i64 rb, .int .i64 rs, .int .i64 rh, .int .i64 rt, .int .i64 0, .int .i64 0, .int .i64 0, .slice none 0 0, .slice none 0 0, .int .i64 0] := hk2.set_ 3 _
  have k5 : Below w.heap.size w (w4.setCell ⟨w.heap.size + 1 + 1, 3, none⟩ (.int .i64 rt)) := hc.below (by omega) k4
  have p5 : (w4.setCell ⟨w.heap.size + 1 + 1, 3, none⟩ (.int .i64 rt)).heap.size = w4.heap.size := hc.size
  have bl0 := Nat.lt_of_lt_of_le bl0 (Nat.le_of_eq p5.symm)
  have bl1 := Nat.lt_of_lt_of_le bl1 (Nat.le_of_eq p5.symm)
  have bl2 := Nat.lt_of_lt_of_le bl2 (Nat.le_of_eq p5.symm)
  replace r_p := r_p.below (hc.below (by omega) (Below.refl _ _))
  generalize hW0 : (w4.setCell ⟨w.heap.size + 1 + 1, 3, none⟩ (.int .i64 rt)) = w5 at *
  clear hW0 hc hko
  have bx0_4 := hk0.at_ 4 _ rfl
  have bx0_5 := hk0.at_ 5 _ rfl
  have bx0_6 := hk0.at_ 6 _ rfl
  have bx0_7 := hk0.at_ 7 _ rfl
  go_wp2_with fail
  refine (toPool_c _ _ _ _ _ _ free _ hn1 (by omega) (r_p.more (by omega))).mono ?_
  rintro e w6 ⟨g_p, rfl, hg_p, b_p, hb⟩
  have k6 : Below w.heap.size w w6 := ext_step k5 (by omega) hb
  have p6 := hb.size
  replace hk0 := hk0.ext hb
  replace hk1 := hk1.ext hb
  replace hk2 := hk2.ext hb
  clear bx0_4 bx0_5 bx0_6 bx0_7
  have bl0 := Nat.lt_of_lt_of_le bl0 hb.size
  have bl1 := Nat.lt_of_lt_of_le bl1 hb.size
  have bl2 := Nat.lt_of_lt_of_le bl2 hb.size
  replace r_p := r_p.below (hb.mono (by omega))
  have o_q := b_p.own (base := w5.heap.size) (size := 1) (n := np) hg_p (by rw [ints_len, hn1]) (by unfold maxLen; omega) rfl
  have r_q := Reads.of_own o_q
  have u_q := fun k hk => (o_q.lt k hk).2
  clear hb
  have bx2_0 := hk2.at_ 0 _ rfl
  have fz2_0 := hk2.frozen 0
  have bx2_1 := hk2.at_ 1 _ rfl
  have fz2_1 := hk2.frozen 1
  have bx2_2 := hk2.at_ 2 _ rfl
  have fz2_2 := hk2.frozen 2
  have bx2_3 := hk2.at_ 3 _ rfl
  have fz2_3 := hk2.frozen 3
  have bx2_4 := hk2.at_ 4 _ rfl
  have fz2_4 := hk2.frozen 4
  have bx2_5 := hk2.at_ 5 _ rfl
  have fz2_5 := hk2.frozen 5
  have bx2_6 := hk2.at_ 6 _ rfl
  have fz2_6 := hk2.frozen 6
  have bx2_7 := hk2.at_ 7 _ rfl
  have fz2_7 := hk2.frozen 7
  have bx2_8 := hk2.at_ 8 _ rfl
  have fz2_8 := hk2.frozen 8
  have bx2_9 := hk2.at_ 9 _ rfl
  have fz2_9 := hk2.frozen 9
  have bx0_0 := hk0.at_ 0 _ rfl
  have bx0_1 := hk0.at_ 1 _ rfl
  have bx0_2 := hk0.at_ 2 _ rfl
  have bx0_3 := hk0.at_ 3 _ rfl
  have bx0_4 := hk0.at_ 4 _ rfl
  have bx0_5 := hk0.at_ 5 _ rfl
  have bx0_6 := hk0.at_ 6 _ rfl
  have bx0_7 := hk0.at_ 7 _ rfl
  have bx0_8 := hk0.at_ 8 _ rfl
  have bx0_9 := hk0.at_ 9 _ rfl
  go_wp2_with fail
  have hc : ChgA (w.heap.size + 1 + 1) w6 (w6.setCell ⟨w.heap.size + 1 + 1, 4, none⟩ (.int .i64 pb)) := (ChgA.refl _ _).set _ _
  have hko := hk2
  replace hk0 := hk0.chgA hc (by omega)
  replace hk1 := hk1.chgA hc (by omega)
  replace hk2 : Blk (w6.setCell ⟨w.heap.size + 1 + 1, 4, none⟩ (.int .i64 pb)) (w.heap.size + 1 + 1) 36 [.int .i64 rb, .int .i64 rs, .int .i64 rh, .int .i64 rt, .int .i64 pb, .int .i64 0, .int .i64 0, .slice none 0 0, .slice none 0 0, .int .i64 0] := hk2.set_ 4 _
  have k7 : Below w.heap.size w (w6.setCell ⟨w.heap.size + 1 + 1, 4, none⟩ (.int .i64 pb)) := hc.below (by omega) k6
  have p7 : (w6.setCell ⟨w.heap.size + 1 + 1, 4, none⟩ (.int .i64 pb)).heap.size = w6.heap.size := hc.size
  have bl0 := Nat.lt_of_lt_of_le bl0 (Nat.le_of_eq p7.symm)
  have bl1 := Nat.lt_of_lt_of_le bl1 (Nat.le_of_eq p7.symm)
  have bl2 := Nat.lt_of_lt_of_le bl2 (Nat.le_of_eq p7.symm)
  replace r_p := r_p.below (hc.below (by omega) (Below.refl _ _))
  replace o_q := own_chgA o_q hc (by first | exact own_ty o_q hko (by decide) | exact fun k hk => by have h1 := o_q.lt k hk; omega | exact fun k hk => by have h1 := u_q k hk; omega)
  replace r_q := Reads.of_own o_q
  generalize hW0 : (w6.setCell ⟨w.heap.size + 1 + 1, 4, none⟩ (.int .i64 pb)) = w7 at *
  clear hW0 hc hko
  clear bx2_0 fz2_0 bx2_1 fz2_1 bx2_2 fz2_2 bx2_3 fz2_3 bx2_4 fz2_4 bx2_5 fz2_5 bx2_6 fz2_6 bx2_7 fz2_7 bx2_8 fz2_8 bx2_9 fz2_9 bx0_0 bx0_1 bx0_2 bx0_3 bx0_4 bx0_5 bx0_6 bx0_7 bx0_8 bx0_9
  have hc : ChgA (w.heap.size + 1 + 1) w7 (w7.setCell ⟨w.heap.size + 1 + 1, 5, none⟩ (.int .i64 ps)) := (ChgA.refl _ _).set _ _
  have hko := hk2
  replace hk0 := hk0.chgA hc (by omega)
  replace hk1 := hk1.chgA hc (by omega)
  replace hk2 : Blk (w7.setCell ⟨w.heap.size + 1 + 1, 5, none⟩ (.int .i64 ps)) (w.heap.size + 1 + 1) 36 [.int .i64 rb, .int .i64 rs, .int .i64 rh, .int .i64 rt, .int .i64 pb, .int .i64 ps, .int .i64 0, .slice none 0 0, .slice none 0 0, .int .i64 0] := hk2.set_ 5 _
  have k8 : Below w.heap.size w (w7.setCell ⟨w.heap.size + 1 + 1, 5, none⟩ (.int .i64 ps)) := hc.below (by omega) k7
  have p8 : (w7.setCell ⟨w.heap.size + 1 + 1, 5, none⟩ (.int .i64 ps)).heap.size = w7.heap.size := hc.size
  have bl0 := Nat.lt_of_lt_of_le bl0 (Nat.le_of_eq p8.symm)
  have bl1 := Nat.lt_of_lt_of_le bl1 (Nat.le_of_eq p8.symm)
  have bl2 := Nat.lt_of_lt_of_le bl2 (Nat.le_of_eq p8.symm)
  replace r_p := r_p.below (hc.below (by omega) (Below.refl _ _))
  replace o_q := own_chgA o_q hc (by first | exact own_ty o_q hko (by decide) | exact fun k hk => by have h1 := o_q.lt k hk; omega | exact fun k hk => by have h1 := u_q k hk; omega)
  replace r_q := Reads.of_own o_q
  generalize hW0 : (w7.setCell ⟨w.heap.size + 1 + 1, 5, none⟩ (.int .i64 ps)) = w8 at *
  clear hW0 hc hko
  have hc : ChgA (w.heap.size + 1 + 1) w8 (w8.setCell ⟨w.heap.size + 1 + 1, 6, none⟩ (.int .i64 pc)) := (ChgA.refl _ _).set _ _
  have hko := hk2
  replace hk0 := hk0.chgA hc (by omega)
  replace hk1 := hk1.chgA hc (by omega)
  replace hk2 : Blk (w8.setCell ⟨w.heap.size + 1 + 1, 6, none⟩ (.int .i64 pc)) (w.heap.size + 1 + 1) 36 [.int .i64 rb, .int .i64 rs, .int .i64 rh, .int .i64 rt, .int .i64 pb, .int .i64 ps, .int .i64 pc, .slice none 0 0, .slice none 0 0, .int .i64 0] := hk2.set_ 6 _
  have k9 : Below w.heap.size w (w8.setCell ⟨w.heap.size + 1 + 1, 6, none⟩ (.int .i64 pc)) := hc.below (by omega) k8
  have p9 : (w8.setCell ⟨w.heap.size + 1 + 1, 6, none⟩ (.int .i64 pc)).heap.size = w8.heap.size := hc.size
  have bl0 := Nat.lt_of_lt_of_le bl0 (Nat.le_of_eq p9.symm)
  have bl1 := Nat.lt_of_lt_of_le bl1 (Nat.le_of_eq p9.symm)
  have bl2 := Nat.lt_of_lt_of_le bl2 (Nat.le_of_eq p9.symm)
  replace r_p := r_p.below (hc.below (by omega) (Below.refl _ _))
  replace o_q := own_chgA o_q hc (by first | exact own_ty o_q hko (by decide) | exact fun k hk => by have h1 := o_q.lt k hk; omega | exact fun k hk => by have h1 := u_q k hk; omega)
  replace r_q := Reads.of_own o_q
  generalize hW0 : (w8.setCell ⟨w.heap.size + 1 + 1, 6, none⟩ (.int .i64 pc)) = w9 at *
  clear hW0 hc hko
  have hc : ChgA (w.heap.size + 1 + 1) w9 (w9.setCell ⟨w.heap.size + 1 + 1, 7, none⟩ (.slice (some ⟨g_p, 0, none⟩) np np)) := (ChgA.refl _ _).set _ _
  have hko := hk2
  replace hk0 := hk0.chgA hc (by omega)
  replace hk1 := hk1.chgA hc (by omega)
  replace hk2 : Blk (w9.setCell ⟨w.heap.size + 1 + 1, 7, none⟩ (.slice (some ⟨g_p, 0, none⟩) np np)) (w.heap.size + 1 + 1) 36 [.int .i64 rb, .int .i64 rs, .int .i64 rh, .int .i64 rt, .int .i64 pb, .int .i64 ps, .int .i64 pc, .slice (some ⟨g_p, 0, none⟩) np np, .slice none 0 0, .int .i64 0] := hk2.set_ 7 _
  have k10 : Below w.heap.size w (w9.setCell ⟨w.heap.size + 1 + 1, 7, none⟩ (.slice (some ⟨g_p, 0, none⟩) np np)) := hc.below (by omega) k9
  have p10 : (w9.setCell ⟨w.heap.size + 1 + 1, 7, none⟩ (.slice (some ⟨g_p, 0, none⟩) np np)).heap.size = w9.heap.size := hc.size
  have bl0 := Nat.lt_of_lt_of_le bl0 (Nat.le_of_eq p10.symm)
  have bl1 := Nat.lt_of_lt_of_le bl1 (Nat.le_of_eq p10.symm)
  have bl2 := Nat.lt_of_lt_of_le bl2 (Nat.le_of_eq p10.symm)
  replace r_p := r_p.below (hc.below (by omega) (Below.refl _ _))
  replace o_q := own_chgA o_q hc (by first | exact own_ty o_q hko (by decide) | exact fun k hk => by have h1 := o_q.lt k hk; omega | exact fun k hk => by have h1 := u_q k hk; omega)
  replace r_q := Reads.of_own o_q
  generalize hW0 : (w9.setCell ⟨w.heap.size + 1 + 1, 7, none⟩ (.slice (some ⟨g_p, 0, none⟩) np np)) = w10 at *
  clear hW0 hc hko
  have bx0_8 := hk0.at_ 8 _ rfl
  have hiz := hi.to k10
  have hrz := hr2.to k10
  go_wp2_with fail
  refine (toSentS_c _ _ _ L _ hn2 (by omega) (by omega) hrz hiz).mono ?_
  rintro e w11 ⟨g_s, L', rfl, hL, hg_s, b_s, hio, hb⟩
  have k11 : Below w.heap.size w w11 := ext_step k10 (by omega) hb
  have p11 := hb.size
  replace hk0 := hk0.ext hb
  replace hk1 := hk1.ext hb
  replace hk2 := hk2.ext hb
  clear bx0_8
  have bl0 := Nat.lt_of_lt_of_le bl0 hb.size
  have bl1 := Nat.lt_of_lt_of_le bl1 hb.size
  have bl2 := Nat.lt_of_lt_of_le bl2 hb.size
  replace r_p := r_p.below (hb.mono (by omega))
  replace r_q := r_q.below (hb.mono (by omega))
  replace o_q := own_ext o_q hb
  have hll := (map_v_len hL).trans hn2
  have o_s := b_s.own (base := w10.heap.size) (size := 3) (n := ns) hg_s (by rw [flatMap_len _ 3 (fun _ => rfl), hll]) (by unfold maxLen; omega) rfl
  have r_s := Reads.of_own o_s
  have u_s := fun k hk => (o_s.lt k hk).2
  have hap : ∀ x ∈ L', ∀ g, x.ob = some g → (Value.slice (some ⟨g_p, 0, none⟩) np np).ownBlock = some g → False := fun x hx g h1 h2 => by have h3 := hio.lt hx h1; have h4 := u_q g h2; omega
  clear hb
  have bx2_0 := hk2.at_ 0 _ rfl
  have fz2_0 := hk2.frozen 0
  have bx2_1 := hk2.at_ 1 _ rfl
  have fz2_1 := hk2.frozen 1
  have bx2_2 := hk2.at_ 2 _ rfl
  have fz2_2 := hk2.frozen 2
  have bx2_3 := hk2.at_ 3 _ rfl
  have fz2_3 := hk2.frozen 3
  have bx2_4 := hk2.at_ 4 _ rfl
  have fz2_4 := hk2.frozen 4
  have bx2_5 := hk2.at_ 5 _ rfl
  have fz2_5 := hk2.frozen 5
  have bx2_6 := hk2.at_ 6 _ rfl
  have fz2_6 := hk2.frozen 6
  have bx2_7 := hk2.at_ 7 _ rfl
  have fz2_7 := hk2.frozen 7
  have bx2_8 := hk2.at_ 8 _ rfl
  have fz2_8 := hk2.frozen 8
  have bx2_9 := hk2.at_ 9 _ rfl
  have fz2_9 := hk2.frozen 9
  have bx0_0 := hk0.at_ 0 _ rfl
  have bx0_1 := hk0.at_ 1 _ rfl
  have bx0_2 := hk0.at_ 2 _ rfl
  have bx0_3 := hk0.at_ 3 _ rfl
  have bx0_4 := hk0.at_ 4 _ rfl
  have bx0_5 := hk0.at_ 5 _ rfl
  have bx0_6 := hk0.at_ 6 _ rfl
  have bx0_7 := hk0.at_ 7 _ rfl
  have bx0_8 := hk0.at_ 8 _ rfl
  have bx0_9 := hk0.at_ 9 _ rfl
  have bx1_0 := hk1.at_ 0 _ rfl
  have fz1_0 := hk1.frozen 0
  have bx1_1 := hk1.at_ 1 _ rfl
  have fz1_1 := hk1.frozen 1
  have bx1_2 := hk1.at_ 2 _ rfl
  have fz1_2 := hk1.frozen 2
  have bx1_3 := hk1.at_ 3 _ rfl
  have fz1_3 := hk1.frozen 3
  have bx1_4 := hk1.at_ 4 _ rfl
  have fz1_4 := hk1.frozen 4
  have bx1_5 := hk1.at_ 5 _ rfl
  have fz1_5 := hk1.frozen 5
  have bx1_6 := hk1.at_ 6 _ rfl
  have fz1_6 := hk1.frozen 6
  have bx1_7 := hk1.at_ 7 _ rfl
  have fz1_7 := hk1.frozen 7
  have bx1_8 := hk1.at_ 8 _ rfl
  have fz1_8 := hk1.frozen 8
  have bx1_9 := hk1.at_ 9 _ rfl
  have fz1_9 := hk1.frozen 9
  go_wp2_with fail
  have hc : ChgA (w.heap.size + 1 + 1) w11 (w11.setCell ⟨w.heap.size + 1 + 1, 8, none⟩ (.slice (some ⟨g_s, 0, none⟩) ns ns)) := (ChgA.refl _ _).set _ _
  have hko := hk2
  replace hk0 := hk0.chgA hc (by omega)
  replace hk1 := hk1.chgA hc (by omega)
  replace hk2 : Blk (w11.setCell ⟨w.heap.size + 1 + 1, 8, none⟩ (.slice (some ⟨g_s, 0, none⟩) ns ns)) (w.heap.size + 1 + 1) 36 [.int .i64 rb, .int .i64 rs, .int .i64 rh, .int .i64 rt, .int .i64 pb, .int .i64 ps, .int .i64 pc, .slice (some ⟨g_p, 0, none⟩) np np, .slice (some ⟨g_s, 0, none⟩) ns ns, .int .i64 0] := hk2.set_ 8 _
  have k12 : Below w.heap.size w (w11.setCell ⟨w.heap.size + 1 + 1, 8, none⟩ (.slice (some ⟨g_s, 0, none⟩) ns ns)) := hc.below (by omega) k11
  have p12 : (w11.setCell ⟨w.heap.size + 1 + 1, 8, none⟩ (.slice (some ⟨g_s, 0, none⟩) ns ns)).heap.size = w11.heap.size := hc.size
  have bl0 := Nat.lt_of_lt_of_le bl0 (Nat.le_of_eq p12.symm)
  have bl1 := Nat.lt_of_lt_of_le bl1 (Nat.le_of_eq p12.symm)
  have bl2 := Nat.lt_of_lt_of_le bl2 (Nat.le_of_eq p12.symm)
  replace r_p := r_p.below (hc.below (by omega) (Below.refl _ _))
  replace o_q := own_chgA o_q hc (by first | exact own_ty o_q hko (by decide) | exact fun k hk => by have h1 := o_q.lt k hk; omega | exact fun k hk => by have h1 := u_q k hk; omega)
  replace r_q := Reads.of_own o_q
  replace o_s := own_chgA o_s hc (by first | exact own_ty o_s hko (by decide) | exact fun k hk => by have h1 := o_s.lt k hk; omega | exact fun k hk => by have h1 := u_s k hk; omega)
  replace r_s := Reads.of_own o_s
  replace hio := hio.chgA hc (by omega)
  generalize hW0 : (w11.setCell ⟨w.heap.size + 1 + 1, 8, none⟩ (.slice (some ⟨g_s, 0, none⟩) ns ns)) = w12 at *
  clear hW0 hc hko
  clear bx2_0 fz2_0 bx2_1 fz2_1 bx2_2 fz2_2 bx2_3 fz2_3 bx2_4 fz2_4 bx2_5 fz2_5 bx2_6 fz2_6 bx2_7 fz2_7 bx2_8 fz2_8 bx2_9 fz2_9 bx0_0 bx0_1 bx0_2 bx0_3 bx0_4 bx0_5 bx0_6 bx0_7 bx0_8 bx0_9 bx1_0 fz1_0 bx1_1 fz1_1 bx1_2 fz1_2 bx1_3 fz1_3 bx1_4 fz1_4 bx1_5 fz1_5 bx1_6 fz1_6 bx1_7 fz1_7 bx1_8 fz1_8 bx1_9 fz1_9
  have hc : ChgA (w.heap.size + 1 + 1) w12 (w12.setCell ⟨w.heap.size + 1 + 1, 9, none⟩ (.int .i64 next)) := (ChgA.refl _ _).set _ _
  have hko := hk2
  replace hk0 := hk0.chgA hc (by omega)
  replace hk1 := hk1.chgA hc (by omega)
  replace hk2 : Blk (w12.setCell ⟨w.heap.size + 1 + 1, 9, none⟩ (.int .i64 next)) (w.heap.size + 1 + 1) 36 [.int .i64 rb, .int .i64 rs, .int .i64 rh, .int .i64 rt, .int .i64 pb, .int .i64 ps, .int .i64 pc, .slice (some ⟨g_p, 0, none⟩) np np, .slice (some ⟨g_s, 0, none⟩) ns ns, .int .i64 next] := hk2.set_ 9 _
  have k13 : Below w.heap.size w (w12.setCell ⟨w.heap.size + 1 + 1, 9, none⟩ (.int .i64 next)) := hc.below (by omega) k12
  have p13 : (w12.setCell ⟨w.heap.size + 1 + 1, 9, none⟩ (.int .i64 next)).heap.size = w12.heap.size := hc.size
  have bl0 := Nat.lt_of_lt_of_le bl0 (Nat.le_of_eq p13.symm)
  have bl1 := Nat.lt_of_lt_of_le bl1 (Nat.le_of_eq p13.symm)
  have bl2 := Nat.lt_of_lt_of_le bl2 (Nat.le_of_eq p13.symm)
  replace r_p := r_p.below (hc.below (by omega) (Below.refl _ _))
  replace o_q := own_chgA o_q hc (by first | exact own_ty o_q hko (by decide) | exact fun k hk => by have h1 := o_q.lt k hk; omega | exact fun k hk => by have h1 := u_q k hk; omega)
  replace r_q := Reads.of_own o_q
  replace o_s := own_chgA o_s hc (by first | exact own_ty o_s hko (by decide) | exact fun k hk => by have h1 := o_s.lt k hk; omega | exact fun k hk => by have h1 := u_s k hk; omega)
  replace r_s := Reads.of_own o_s
  replace hio := hio.chgA hc (by omega)
  generalize hW0 : (w12.setCell ⟨w.heap.size + 1 + 1, 9, none⟩ (.int .i64 next)) = w13 at *
  clear hW0 hc hko
  have hko := hk1
  have hcc := ChgA.refl (w.heap.size + 1) w13
  obtain ⟨w14_0, hW0⟩ : ∃ W, W = w13.setCell ⟨w.heap.size + 1, 0, none⟩ (.int .i64 rb) := ⟨_, rfl⟩
  replace hcc : ChgA (w.heap.size + 1) w13 w14_0 := by rw [hW0]; exact hcc.set _ _
  replace hk1 : Blk w14_0 (w.heap.size + 1) 36 [.int .i64 rb, .int .i64 0, .int .i64 0, .int .i64 0, .int .i64 0, .int .i64 0, .int .i64 0, .slice none 0 0, .slice none 0 0, .int .i64 0] := by rw [hW0]; exact hk1.set_ 0 _
  rw [← hW0]
  clear hW0
  obtain ⟨w14_1, hW0⟩ : ∃ W, W = w14_0.setCell ⟨w.heap.size + 1, 1, none⟩ (.int .i64 rs) := ⟨_, rfl⟩
  replace hcc : ChgA (w.heap.size + 1) w13 w14_1 := by rw [hW0]; exact hcc.set _ _
  replace hk1 : Blk w14_1 (w.heap.size + 1) 36 [.int .i64 rb, .int .i64 rs, .int .i64 0, .int .i64 0, .int .i64 0, .int .i64 0, .int .i64 0, .slice none 0 0, .slice none 0 0, .int .i64 0] := by rw [hW0]; exact hk1.set_ 1 _
  rw [← hW0]
  clear hW0
  obtain ⟨w14_2, hW0⟩ : ∃ W, W = w14_1.setCell ⟨w.heap.size + 1, 2, none⟩ (.int .i64 rh) := ⟨_, rfl⟩
  replace hcc : ChgA (w.heap.size + 1) w13 w14_2 := by rw [hW0]; exact hcc.set _ _
  replace hk1 : Blk w14_2 (w.heap.size + 1) 36 [.int .i64 rb, .int .i64 rs, .int .i64 rh, .int .i64 0, .int .i64 0, .int .i64 0, .int .i64 0, .slice none 0 0, .slice none 0 0, .int .i64 0] := by rw [hW0]; exact hk1.set_ 2 _
  rw [← hW0]
  clear hW0
  obtain ⟨w14_3, hW0⟩ : ∃ W, W = w14_2.setCell ⟨w.heap.size + 1, 3, none⟩ (.int .i64 rt) := ⟨_, rfl⟩
  replace hcc : ChgA (w.heap.size + 1) w13 w14_3 := by rw [hW0]; exact hcc.set _ _
  replace hk1 : Blk w14_3 (w.heap.size + 1) 36 [.int .i64 rb, .int .i64 rs, .int .i64 rh, .int .i64 rt, .int .i64 0, .int .i64 0, .int .i64 0, .slice none 0 0, .slice none 0 0, .int .i64 0] := by rw [hW0]; exact hk1.set_ 3 _
  rw [← hW0]
  clear hW0
  obtain ⟨w14_4, hW0⟩ : ∃ W, W = w14_3.setCell ⟨w.heap.size + 1, 4, none⟩ (.int .i64 pb) := ⟨_, rfl⟩
  replace hcc : ChgA (w.heap.size + 1) w13 w14_4 := by rw [hW0]; exact hcc.set _ _
  replace hk1 : Blk w14_4 (w.heap.size + 1) 36 [.int .i64 rb, .int .i64 rs, .int .i64 rh, .int .i64 rt, .int .i64 pb, .int .i64 0, .int .i64 0, .slice none 0 0, .slice none 0 0, .int .i64 0] := by rw [hW0]; exact hk1.set_ 4 _
  rw [← hW0]
  clear hW0
  obtain ⟨w14_5, hW0⟩ : ∃ W, W = w14_4.setCell ⟨w.heap.size + 1, 5, none⟩ (.int .i64 ps) := ⟨_, rfl⟩
  replace hcc : ChgA (w.heap.size + 1) w13 w14_5 := by rw [hW0]; exact hcc.set _ _
  replace hk1 : Blk w14_5 (w.heap.size + 1) 36 [.int .i64 rb, .int .i64 rs, .int .i64 rh, .int .i64 rt, .int .i64 pb, .int .i64 ps, .int .i64 0, .slice none 0 0, .slice none 0 0, .int .i64 0] := by rw [hW0]; exact hk1.set_ 5 _
  rw [← hW0]
  clear hW0
  obtain ⟨w14_6, hW0⟩ : ∃ W, W = w14_5.setCell ⟨w.heap.size + 1, 6, none⟩ (.int .i64 pc) := ⟨_, rfl⟩
  replace hcc : ChgA (w.heap.size + 1) w13 w14_6 := by rw [hW0]; exact hcc.set _ _
  replace hk1 : Blk w14_6 (w.heap.size + 1) 36 [.int .i64 rb, .int .i64 rs, .int .i64 rh, .int .i64 rt, .int .i64 pb, .int .i64 ps, .int .i64 pc, .slice none 0 0, .slice none 0 0, .int .i64 0] := by rw [hW0]; exact hk1.set_ 6 _
  rw [← hW0]
  clear hW0
  obtain ⟨w14_7, hW0⟩ : ∃ W, W = w14_6.setCell ⟨w.heap.size + 1, 7, none⟩ (.slice (some ⟨g_p, 0, none⟩) np np) := ⟨_, rfl⟩
  replace hcc : ChgA (w.heap.size + 1) w13 w14_7 := by rw [hW0]; exact hcc.set _ _
  replace hk1 : Blk w14_7 (w.heap.size + 1) 36 [.int .i64 rb, .int .i64 rs, .int .i64 rh, .int .i64 rt, .int .i64 pb, .int .i64 ps, .int .i64 pc, .slice (some ⟨g_p, 0, none⟩) np np, .slice none 0 0, .int .i64 0] := by rw [hW0]; exact hk1.set_ 7 _
  rw [← hW0]
  clear hW0
  obtain ⟨w14_8, hW0⟩ : ∃ W, W = w14_7.setCell ⟨w.heap.size + 1, 8, none⟩ (.slice (some ⟨g_s, 0, none⟩) ns ns) := ⟨_, rfl⟩
  replace hcc : ChgA (w.heap.size + 1) w13 w14_8 := by rw [hW0]; exact hcc.set _ _
  replace hk1 : Blk w14_8 (w.heap.size + 1) 36 [.int .i64 rb, .int .i64 rs, .int .i64 rh, .int .i64 rt, .int .i64 pb, .int .i64 ps, .int .i64 pc, .slice (some ⟨g_p, 0, none⟩) np np, .slice (some ⟨g_s, 0, none⟩) ns ns, .int .i64 0] := by rw [hW0]; exact hk1.set_ 8 _
  rw [← hW0]
  clear hW0
  obtain ⟨w14, hW0⟩ : ∃ W, W = w14_8.setCell ⟨w.heap.size + 1, 9, none⟩ (.int .i64 next) := ⟨_, rfl⟩
  replace hcc : ChgA (w.heap.size + 1) w13 w14 := by rw [hW0]; exact hcc.set _ _
  replace hk1 : Blk w14 (w.heap.size + 1) 36 [.int .i64 rb, .int .i64 rs, .int .i64 rh, .int .i64 rt, .int .i64 pb, .int .i64 ps, .int .i64 pc, .slice (some ⟨g_p, 0, none⟩) np np, .slice (some ⟨g_s, 0, none⟩) ns ns, .int .i64 next] := by rw [hW0]; exact hk1.set_ 9 _
  rw [← hW0]
  clear hW0
  have hc := hcc
  replace o_q := own_chgA o_q hc (own_ty o_q hko (by decide))
  replace o_s := own_chgA o_s hc (own_ty o_s hko (by decide))
  replace hio := hio.chgA hc (by omega)
  replace hk0 := hk0.chgA hc (by omega)
  replace hk2 := hk2.chgA hc (by omega)
  have k14 := hc.below (by omega) k13
  have p14 := hc.size
  replace bl0 := Nat.lt_of_lt_of_le bl0 (Nat.le_of_eq p14.symm)
  replace bl1 := Nat.lt_of_lt_of_le bl1 (Nat.le_of_eq p14.symm)
  replace bl2 := Nat.lt_of_lt_of_le bl2 (Nat.le_of_eq p14.symm)
  clear hc hcc
  have hv := loadVar_blk (P := Try.prog) hk1 (n := 10) rfl (by simp [go_sem]) (by simp [go_sem])
  refine bodyPost_ret (v := .agg #[.int .i64 rb, .int .i64 rs, .int .i64 rh, .int .i64 rt, .int .i64 pb, .int .i64 ps, .int .i64 pc, .slice (some ⟨g_p, 0, none⟩) np np, .slice (some ⟨g_s, 0, none⟩) ns ns, .int .i64 next]) (by simp [results, Try.results7, asAddr, Result.andThen, hv]) rfl ?_
  exact ⟨⟨rb, rs, rh, rt, pb, ps, pc, some ⟨g_p, 0, none⟩, np, np, free, some ⟨g_s, 0, none⟩, ns, ns, L', next⟩, rfl, by simp only [TxH.v, hL], ⟨⟨hn1, own_base o_q (by omega)⟩, ⟨hll, own_base o_s (by omega)⟩, hio.lower (by omega), hap⟩, k14⟩
end Go.Proofs.Ytnkcomclhmlefaa
