/- Copies of waiting packets and of queues: impl. -/
import Derived.Test.YtnkcomclhmlefaaTxA2
import Derived.Deep.RegionHeld3
namespace Go.Proofs.Ytnkcomclhmlefaa
set_option linter.unusedSimpArgs false
set_option linter.unusedVariables false
open Go.RowKit Go.ChangeShapes Go.WideShapes
theorem own_apart {w : World} {b1 b2 s1 s2 n1 n2 : Nat} {e1 e2 : TypeId} {v1 v2 : Value} {x1 x2 : List Value} (h1 : w.ownsRow b1 e1 s1 v1 n1 x1) (h2 : w.ownsRow b2 e2 s2 v2 n2 x2) (hne : e1 ≠ e2) : ∀ k, v1.ownBlock = some k → v2.ownBlock = some k → False := by
  intro k hk1 hk2
  rcases h2.2 with ⟨hv, _⟩ | ⟨g, cap, cur, hv, hg, hh, r⟩
  · subst hv; cases hk2
  · have hgk : g = k := by subst hv; simpa [Value.ownBlock] using hk2
    subst hgk
    exact own_ty h1 (b := g) (T := e2) (cs := cur.toList) (by unfold Blk; simpa using hh) hne g hk1 rfl
theorem InOwn.grow {w w1 : World} {base b2 s2 n : Nat} {L : List SentH} {v : Value} {xs : List Value} (h : InOwn w base L) (ho : w.ownsRow b2 52 s2 v n xs) (hg : w.grownBy w1 v.ownBlock) : InOwn w1 base L :=
  h.far hg fun x hx g h1 h2 => own_apart (h.1 x hx).2 ho (by decide) g h1 h2
theorem flat_snocS (L : List SentH) (y : SentH) : (L ++ [y]).flatMap SentH.cells = L.flatMap SentH.cells ++ y.cells := by simp
theorem oneC (x : SentH) : ∀ u ∈ x.cells, u.oneCell' = true := by
  intro u hu
  simp only [SentH.cells, List.mem_cons, List.not_mem_nil, or_false] at hu
  rcases hu with rfl | rfl | rfl <;> rfl
theorem new_readsS {size n : Nat} (w : World) (xs : List Value) (e : TypeId) (h : xs.length = n * size) : Reads (w.alloc (.cells xs.toArray e)) (w.heap.size + 1) size (some ⟨w.heap.size, 0, none⟩) n xs := by
  have := (Blk.new w e xs).reads (n := n) (size := size) h
  simpa using this
set_option maxRecDepth 100000 in
set_option maxHeartbeats 2000000 in
theorem copySent_c (A : Option Addr) (n c : Nat) (L : List SentH) (w : World) (hn : L.length = n) (hm : n ≤ 1048576) (hm2 : totB L ≤ 1048576) (hr : Reads w w.heap.size 3 A n (L.flatMap SentH.cells)) (hi : InRd w w.heap.size L) :
    Calls Try.prog 35 #[.slice A n c] w fun e w' => ∃ A' c' L', e = .returned (.slice A' n c') ∧ L'.map SentH.v = L.map SentH.v ∧ w'.ownsRow w.heap.size 52 3 (.slice A' n c') n (L'.flatMap SentH.cells) ∧ InOwn w' w.heap.size L' ∧ Below w.heap.size w w' := by
  obtain ⟨i0, hi0, hz0, hz1, hz2⟩ := info_parts info_Sent
  have HN := Lib.hid hn
  clear hn
  go_enter Try.func35, Try.ntmps35
  go_wp2
  go_loopw [3, 9] (fun v i wr => ∃ (k : Nat) (A' : Option Addr) (c' : Nat) (L' : List SentH), k ≤ n ∧ i = .int .i64 k ∧ v = .slice A' k c' ∧ Below w.heap.size w wr ∧ Hid (L'.length = k ∧ L'.map SentH.v = (L.take k).map SentH.v) ∧ wr.ownsRow w.heap.size 52 3 (.slice A' k c') k (L'.flatMap SentH.cells) ∧ InOwn wr w.heap.size L') (fun _ i _ => n - (intOf i).toNat)
  case atStart => exact ⟨0, _, 0, [], Nat.zero_le _, rfl, rfl, by go_grown, ⟨rfl, rfl⟩, own_empty (Blk.new _ _ []) (Nat.le_refl _), InOwn.nil _ _⟩
  case round =>
    obtain ⟨k, A', c', L', hk, rfl, rfl, hbw, hL, hown, iO⟩ := hrel
    have hsz := hbw.size
    by_cases hlt : k < n
    · obtain ⟨b, o, x, rfl, hbl, hx, hc⟩ := hr.el (fun _ => rfl) (by decide) HN.out hlt
      have hR : wr.rangeAt b (o + k * 3) [.int .i64 x.cookie, .int .i64 x.slots, .slice x.A x.n x.c] := range_below hc hbw hbl
      have hxm := List.mem_of_getElem? hx
      have hxn := totB_mem hxm
      have hxr := (hi x hxm).2
      have hxl := (hi x hxm).1
      have HX := Lib.hid hx
      clear hx hc
      have hlo := fun g hg => (hown.lt g hg).2
      go_wp2_with (first | (with_reducible_and_instances show wpList _ _ _ (⟨_, .load 52 (.tmp 11), _, _, _, _⟩ :: _) _ _; refine wpList_load_mid rfl _ _ rfl _ _ (by simp [go_sem]) [.int .i64 x.cookie, .int .i64 x.slots, .slice x.A x.n x.c] _ hR Try.underlying52 rfl infoZ_Sent ?_) | (with_reducible_and_instances show wpList _ _ _ (⟨_, .store 52 (.tmp 5) (.tmp 12), _, _, _, _⟩ :: _) _ _; refine wpList_store_new (w := wr) (t := 52) (zs := [.int .i64 0, .int .i64 0, .slice none 0 0]) rfl _ _ _ rfl [.int .i64 x.cookie, .int .i64 x.slots, .slice x.A x.n x.c] (by simp [go_sem]) (by simp [go_sem]) rfl infoZ_Sent (oneS x) ?_; intro W1 hkr hbW hs1; have kW : Below w.heap.size w W1 := ext_step hbw hsz hbW; have s0 := hkr.at_ 0 _ rfl; have s1 := hkr.at_ 1 _ rfl; have s2 := hkr.at_ 2 _ rfl; have hown := own_ext hown hbW; have iO := iO.ext hbW; clear hR))
      have hdr : Below W1.heap.size W1 W1.drew := (Below.refl _ _).drew
      have s0' := ccell hdr _ _ _ s0
      have s1' := ccell hdr _ _ _ s1
      have s2' := ccell hdr _ _ _ s2
      have hownD := own_ext hown hdr
      have iOD := iO.ext hdr
      have kD : Below w.heap.size w W1.drew := ext_step kW kW.size hdr
      have hsD := hxr.to kD
      clear hdr
      go_region_held3 (fun w' => w'.cell? ⟨wr.heap.size, 0, none⟩ = some (.int .i64 x.cookie) ∧ w'.cell? ⟨wr.heap.size, 1, none⟩ = some (.int .i64 x.slots) ∧ w'.cell? ⟨wr.heap.size, 2, none⟩ = some (.slice x.A x.n x.c)) (first | exact ⟨s0, s1, s2⟩ | exact ⟨s0', s1', s2'⟩ | exact ⟨(World.cell?_alloc_lt _ _ _ (cell_block_lt s0)).trans s0, (World.cell?_alloc_lt _ _ _ (cell_block_lt s1)).trans s1, (World.cell?_alloc_lt _ _ _ (cell_block_lt s2)).trans s2⟩ | (refine ⟨?_, ?_, ?_⟩ <;> simp [go_sem, *]; done))
        (first
          | (go_at_call 51; refine (copyInts_c x.A x.n x.c x.bufs _ hxl (by omega) hsD).mono ?_; rintro e w2 ⟨v2, rfl, ho2, hb⟩; have s0 := ccell hb _ _ _ s0'; have s1 := ccell hb _ _ _ s1'; have s2 := ccell hb _ _ _ s2'; obtain ⟨A2, c2, rfl, _, _, _⟩ := own_form ho2; have hown2 := own_ext hownD hb; have k2 := ext_step kD kD.size hb; have hq2 := fun g hg => (ho2.lt g hg).1; have iO2 := (iOD.ext hb).snoc (x := ⟨x.cookie, x.slots, A2, x.n, c2, x.bufs⟩) hxl (own_base ho2 kD.size) (fun z hz g h1 h2 => by have h3 := (iOD.lt hz h1).2; have h4 := hq2 g h2; omega); have hk2s := k2.size; clear hb)
          | (refine step_append_any _ (by rfl) _ _ 34 (by rfl) w.heap.size 52 i0 (.agg #[.int .i64 0, .int .i64 0, .slice none 0 0]) 3 40 Try.underlying34 hi0 hz0 hz1 hz2 rfl (by decide) _ k (L'.flatMap SentH.cells) (by rfl) (hown2.alloc _) (w2.heap.size + 1) (some ⟨w2.heap.size, 0, none⟩) 1 1 (SentH.cells ⟨x.cookie, x.slots, A2, x.n, c2, x.bufs⟩) (by rfl) (new_readsS _ _ _ rfl) (oneC _) (by unfold maxLen; omega) (by omega) (by simp; omega) ?_; intro v3 w3 hown3 hg3 hat3; have s0 := cell_ne hg3 ((World.cell?_alloc_lt _ _ _ (cell_block_lt s0)).trans s0) (fun e => by have := hlo _ e; omega); have s1 := cell_ne hg3 ((World.cell?_alloc_lt _ _ _ (cell_block_lt s1)).trans s1) (fun e => by have := hlo _ e; omega); have s2 := cell_ne hg3 ((World.cell?_alloc_lt _ _ _ (cell_block_lt s2)).trans s2) (fun e => by have := hlo _ e; omega)))
      have hn3 := flat_snocS L' ⟨x.cookie, x.slots, A2, x.n, c2, x.bufs⟩
      rw [← hn3] at hown3
      have iO3 := (iO2.alloc _).grow (hown2.alloc _) hg3
      have k3 : Below w.heap.size w w3 := below_app (k2.alloc k2.size _) (hown2.alloc _) hg3 (by simp; omega)
      obtain ⟨A3, c3, rfl, _, _, _⟩ := own_form hown3
      go_wp2
      go_roundw
      case rel => exact ⟨k + 1, A3, c3, L' ++ [⟨x.cookie, x.slots, A2, x.n, c2, x.bufs⟩], by omega, by go_num, rfl, k3, ⟨by simp [hL.out.1], by rw [take_next HX.out, List.map_append, List.map_append, hL.out.2]; rfl⟩, hown3, iO3⟩
      case measure => simp [intOf]; omega
    · have hkn : k = n := by omega
      subst hkn
      go_wp2
      go_ret
      have h2 := hL.out
      rw [List.take_of_length_le (by rw [HN.out]; omega)] at h2
      exact ⟨A', c', L', rfl, h2.2, hown, iO, hbw⟩
theorem Blk.off {w : World} {g : Nat} {t : TypeId} {cs : List Value} (h : Blk w g t cs) {p : Addr} (hp : g ≠ p.block) (u : Value) : Blk (w.setCell p u) g t cs := (Below.heap_setCell w p u g hp).trans h
theorem chgA_setCells {b : Nat} : ∀ (vs : List Value) (o : Nat) {a w : World}, ChgA b a w → ChgA b a (w.setCells b o vs)
  | [], _, _, _, h => h
  | v :: vs, o, a, w, h => by
    rw [World.setCells]
    exact chgA_setCells vs (o + 1) (h.set _ _)
theorem step_store_blk {P : Program} {ops : Array Oper} {op : Oper} {a : Act} {w : World} {K : Act → World → Prop} {Q : Exit → Act → World → Prop} {E : Prop} {b : Nat} {t : TypeId} {zs : List Value} (hgd : op.guard = none) (ty : TypeId) (x y : Operand) (ho : op.op = .store ty x y)
    (cs : List Value) (hk : Blk w b t zs) (hx : a.eval x = .pointer (some ⟨b, 0, none⟩)) (hy : a.eval y = .agg cs.toArray) (hl : cs.length = zs.length) (hi : (P.info? ty).map (·.size) = some cs.length) (h1 : ∀ v ∈ cs, v.oneCell' = true)
    (h : ∀ W1, Blk W1 b t cs → ChgA b w W1 → K (a.put op.dst undef) W1) : if Region.wanted op (yielded ops a.tmps) = true then Oper.wp P op a w K Q else E := by
  have hw : Region.wanted op (yielded ops a.tmps) = true := by simp [Region.wanted, hgd]
  rw [if_pos hw]
  refine wp_store_mid ty x y ho b 0 cs.toArray hx hy (hk.there_at 0 _ (by simp [hl])) (by simpa using hi) (all_oneCell_toArray h1) ?_
  exact h _ (by simpa using hk.setAll hl) (by simpa using chgA_setCells cs 0 (ChgA.refl b w))
theorem TxO.chgA {w w1 : World} {base b : Nat} {H : TxH} (h : TxO w base H) (hc : ChgA b w w1) (hlt : b < base) : TxO w1 base H :=
  ⟨⟨h.1.1, own_chgA h.1.2 hc fun g hg => by have := h.lt (.inl hg); omega⟩, ⟨h.2.1.1, own_chgA h.2.1.2 hc fun g hg => by have := h.lt (.inr (.inl hg)); omega⟩, h.2.2.1.chgA hc hlt, h.2.2.2⟩
theorem oneQ (rb rs rh rt pb ps pc : Int) (Ap : Option Addr) (np cp : Nat) (As : Option Addr) (ns cs : Nat) (next : Int) : ∀ v ∈ ([.int .i64 rb, .int .i64 rs, .int .i64 rh, .int .i64 rt, .int .i64 pb, .int .i64 ps, .int .i64 pc, .slice Ap np cp, .slice As ns cs, .int .i64 next] : List Value), v.oneCell' = true := by
  intro v hv
  simp only [List.mem_cons, List.not_mem_nil, or_false] at hv
  rcases hv with rfl | rfl | rfl | rfl | rfl | rfl | rfl | rfl | rfl | rfl <;> rfl
theorem infoZ_Tx : (Try.prog.info? 36).map (·.size) = some 10 := by kernel_rfl
theorem blk10 {w : World} {g : Nat} {T : TypeId} {v0 v1 v2 v3 v4 v5 v6 v7 v8 v9 : Value} (h : Blk w g T [v0, v1, v2, v3, v4, v5, v6, v7, v8, v9]) : w.cell? ⟨g, 0, none⟩ = some v0 ∧ w.cell? ⟨g, 1, none⟩ = some v1 ∧ w.cell? ⟨g, 2, none⟩ = some v2 ∧ w.cell? ⟨g, 3, none⟩ = some v3 ∧ w.cell? ⟨g, 4, none⟩ = some v4 ∧ w.cell? ⟨g, 5, none⟩ = some v5 ∧ w.cell? ⟨g, 6, none⟩ = some v6 ∧ w.cell? ⟨g, 7, none⟩ = some v7 ∧ w.cell? ⟨g, 8, none⟩ = some v8 ∧ w.cell? ⟨g, 9, none⟩ = some v9 := ⟨h.at_ 0 _ rfl, h.at_ 1 _ rfl, h.at_ 2 _ rfl, h.at_ 3 _ rfl, h.at_ 4 _ rfl, h.at_ 5 _ rfl, h.at_ 6 _ rfl, h.at_ 7 _ rfl, h.at_ 8 _ rfl, h.at_ 9 _ rfl⟩
set_option maxRecDepth 100000 in
set_option maxHeartbeats 8000000 in
theorem copyTx_c (rb rs rh rt pb ps pc : Int) (Ap : Option Addr) (np cp : Nat) (free : List Int) (As : Option Addr) (ns cs : Nat) (L : List SentH) (next : Int) (w : World) (hn1 : free.length = np) (hr1 : Reads w w.heap.size 1 Ap np (ints free)) (hn2 : L.length = ns) (hr2 : Reads w w.heap.size 3 As ns (L.flatMap SentH.cells)) (hi : InRd w w.heap.size L) (hm : np + ns + totB L ≤ 1048576) :
    Calls Try.prog 34 #[.agg #[.int .i64 rb, .int .i64 rs, .int .i64 rh, .int .i64 rt, .int .i64 pb, .int .i64 ps, .int .i64 pc, .slice Ap np cp, .slice As ns cs, .int .i64 next]] w fun e w' => ∃ H : TxH, e = .returned (.agg #[.int .i64 H.rb, .int .i64 H.rs, .int .i64 H.rh, .int .i64 H.rt, .int .i64 H.pb, .int .i64 H.ps, .int .i64 H.pc, .slice H.Ap H.np H.cp, .slice H.As H.ns H.cs, .int .i64 H.next]) ∧ H.v = ⟨rb, rs, rh, rt, pb, ps, pc, free, L.map SentH.v, next⟩ ∧ TxO w' w.heap.size H ∧ Below w.heap.size w w' := by
  go_enter Try.func34, Try.ntmps34
  go_wp2_with fail
  have k0 : Below w.heap.size w ((w.alloc (.cells #[.int .i64 rb, .int .i64 rs, .int .i64 rh, .int .i64 rt, .int .i64 pb, .int .i64 ps, .int .i64 pc, .slice Ap np cp, .slice As ns cs, .int .i64 next] 36)).alloc (.cells #[.int .i64 0, .int .i64 0, .int .i64 0, .int .i64 0, .int .i64 0, .int .i64 0, .int .i64 0, .slice none 0 0, .slice none 0 0, .int .i64 0] 36)) := by go_grown
  have bl0 : w.heap.size < ((w.alloc (.cells #[.int .i64 rb, .int .i64 rs, .int .i64 rh, .int .i64 rt, .int .i64 pb, .int .i64 ps, .int .i64 pc, .slice Ap np cp, .slice As ns cs, .int .i64 next] 36)).alloc (.cells #[.int .i64 0, .int .i64 0, .int .i64 0, .int .i64 0, .int .i64 0, .int .i64 0, .int .i64 0, .slice none 0 0, .slice none 0 0, .int .i64 0] 36)).heap.size := by go_size
  have hk0 : Blk ((w.alloc (.cells #[.int .i64 rb, .int .i64 rs, .int .i64 rh, .int .i64 rt, .int .i64 pb, .int .i64 ps, .int .i64 pc, .slice Ap np cp, .slice As ns cs, .int .i64 next] 36)).alloc (.cells #[.int .i64 0, .int .i64 0, .int .i64 0, .int .i64 0, .int .i64 0, .int .i64 0, .int .i64 0, .slice none 0 0, .slice none 0 0, .int .i64 0] 36)) (w.heap.size) 36 [.int .i64 rb, .int .i64 rs, .int .i64 rh, .int .i64 rt, .int .i64 pb, .int .i64 ps, .int .i64 pc, .slice Ap np cp, .slice As ns cs, .int .i64 next] := by simpa using (Blk.new w 36 [.int .i64 rb, .int .i64 rs, .int .i64 rh, .int .i64 rt, .int .i64 pb, .int .i64 ps, .int .i64 pc, .slice Ap np cp, .slice As ns cs, .int .i64 next]).alloc (.cells #[.int .i64 0, .int .i64 0, .int .i64 0, .int .i64 0, .int .i64 0, .int .i64 0, .int .i64 0, .slice none 0 0, .slice none 0 0, .int .i64 0] 36)
  have bl1 : w.heap.size + 1 < ((w.alloc (.cells #[.int .i64 rb, .int .i64 rs, .int .i64 rh, .int .i64 rt, .int .i64 pb, .int .i64 ps, .int .i64 pc, .slice Ap np cp, .slice As ns cs, .int .i64 next] 36)).alloc (.cells #[.int .i64 0, .int .i64 0, .int .i64 0, .int .i64 0, .int .i64 0, .int .i64 0, .int .i64 0, .slice none 0 0, .slice none 0 0, .int .i64 0] 36)).heap.size := by go_size
  have hk1 : Blk ((w.alloc (.cells #[.int .i64 rb, .int .i64 rs, .int .i64 rh, .int .i64 rt, .int .i64 pb, .int .i64 ps, .int .i64 pc, .slice Ap np cp, .slice As ns cs, .int .i64 next] 36)).alloc (.cells #[.int .i64 0, .int .i64 0, .int .i64 0, .int .i64 0, .int .i64 0, .int .i64 0, .int .i64 0, .slice none 0 0, .slice none 0 0, .int .i64 0] 36)) (w.heap.size + 1) 36 [.int .i64 0, .int .i64 0, .int .i64 0, .int .i64 0, .int .i64 0, .int .i64 0, .int .i64 0, .slice none 0 0, .slice none 0 0, .int .i64 0] := by simpa using Blk.new (w.alloc (.cells #[.int .i64 rb, .int .i64 rs, .int .i64 rh, .int .i64 rt, .int .i64 pb, .int .i64 ps, .int .i64 pc, .slice Ap np cp, .slice As ns cs, .int .i64 next] 36)) 36 [.int .i64 0, .int .i64 0, .int .i64 0, .int .i64 0, .int .i64 0, .int .i64 0, .int .i64 0, .slice none 0 0, .slice none 0 0, .int .i64 0]
  have p0 := k0.size
  generalize hW0 : ((w.alloc (.cells #[.int .i64 rb, .int .i64 rs, .int .i64 rh, .int .i64 rt, .int .i64 pb, .int .i64 ps, .int .i64 pc, .slice Ap np cp, .slice As ns cs, .int .i64 next] 36)).alloc (.cells #[.int .i64 0, .int .i64 0, .int .i64 0, .int .i64 0, .int .i64 0, .int .i64 0, .int .i64 0, .slice none 0 0, .slice none 0 0, .int .i64 0] 36)) = w0 at *
  clear hW0
  have hdr : Below w0.heap.size w0 w0.drew := (Below.refl _ _).drew
  have hkD := hk0.ext hdr
  have kD : Below w.heap.size w w0.drew := ext_step k0 p0 hdr
  have hdD := hk1.ext hdr
  have bD0 := hkD.lt
  have bD1 := hdD.lt
  have p0 := hk0.at_ 0 _ rfl
  have p0' := hkD.at_ 0 _ rfl
  have p1 := hk0.at_ 1 _ rfl
  have p1' := hkD.at_ 1 _ rfl
  have p2 := hk0.at_ 2 _ rfl
  have p2' := hkD.at_ 2 _ rfl
  have p3 := hk0.at_ 3 _ rfl
  have p3' := hkD.at_ 3 _ rfl
  have p4 := hk0.at_ 4 _ rfl
  have p4' := hkD.at_ 4 _ rfl
  have p5 := hk0.at_ 5 _ rfl
  have p5' := hkD.at_ 5 _ rfl
  have p6 := hk0.at_ 6 _ rfl
  have p6' := hkD.at_ 6 _ rfl
  have p7 := hk0.at_ 7 _ rfl
  have p7' := hkD.at_ 7 _ rfl
  have p8 := hk0.at_ 8 _ rfl
  have p8' := hkD.at_ 8 _ rfl
  have p9 := hk0.at_ 9 _ rfl
  have p9' := hkD.at_ 9 _ rfl
  clear hdr
  go_region_held3 (fun w' => w'.cell? ⟨w.heap.size, 0, none⟩ = some (.int .i64 rb) ∧ w'.cell? ⟨w.heap.size, 1, none⟩ = some (.int .i64 rs) ∧ w'.cell? ⟨w.heap.size, 2, none⟩ = some (.int .i64 rh) ∧ w'.cell? ⟨w.heap.size, 3, none⟩ = some (.int .i64 rt) ∧ w'.cell? ⟨w.heap.size, 4, none⟩ = some (.int .i64 pb) ∧ w'.cell? ⟨w.heap.size, 5, none⟩ = some (.int .i64 ps) ∧ w'.cell? ⟨w.heap.size, 6, none⟩ = some (.int .i64 pc) ∧ w'.cell? ⟨w.heap.size, 7, none⟩ = some (.slice Ap np cp) ∧ w'.cell? ⟨w.heap.size, 8, none⟩ = some (.slice As ns cs) ∧ w'.cell? ⟨w.heap.size, 9, none⟩ = some (.int .i64 next)) (first | with_reducible exact ⟨p0, p1, p2, p3, p4, p5, p6, p7, p8, p9⟩ | with_reducible exact ⟨p0', p1', p2', p3', p4', p5', p6', p7', p8', p9'⟩ | (refine blk10 (T := 36) ?_; repeat (first | (with_reducible exact hk2) | refine Blk.off ?_ (by simp) _)))
    (first
      | (go_at_call 49; refine (copyPool_c pb ps pc Ap np cp free _ hn1 (by omega) (hr1.to kD)).mono ?_; rintro e w1 ⟨A_p, c_p, rfl, o_p, hb⟩; have hk1 := hkD.ext hb; have hd1 := hdD.ext hb; have bE1 := hd1.lt; replace p0 := hk1.at_ 0 _ rfl; replace p1 := hk1.at_ 1 _ rfl; replace p2 := hk1.at_ 2 _ rfl; replace p3 := hk1.at_ 3 _ rfl; replace p4 := hk1.at_ 4 _ rfl; replace p5 := hk1.at_ 5 _ rfl; replace p6 := hk1.at_ 6 _ rfl; replace p7 := hk1.at_ 7 _ rfl; replace p8 := hk1.at_ 8 _ rfl; replace p9 := hk1.at_ 9 _ rfl; clear p0' p1' p2' p3' p4' p5' p6' p7' p8' p9'; have k1 := ext_step kD kD.size hb; have u_p := fun g hg => (o_p.lt g hg).2; clear hb)
      | (go_at_call 35; refine (copySent_c As ns cs L _ hn2 (by omega) (by omega) (hr2.to k1) (hi.to k1)).mono ?_; rintro e w2 ⟨A_s, c_s, L', rfl, hL, o_s, iO, hb⟩; have hk2 := hk1.ext hb; have hd2 := hd1.ext hb; have bE2 := hd2.lt; replace p0 := hk2.at_ 0 _ rfl; replace p1 := hk2.at_ 1 _ rfl; replace p2 := hk2.at_ 2 _ rfl; replace p3 := hk2.at_ 3 _ rfl; replace p4 := hk2.at_ 4 _ rfl; replace p5 := hk2.at_ 5 _ rfl; replace p6 := hk2.at_ 6 _ rfl; replace p7 := hk2.at_ 7 _ rfl; replace p8 := hk2.at_ 8 _ rfl; replace p9 := hk2.at_ 9 _ rfl; have kF := ext_step k1 k1.size hb; have o_p := own_ext o_p hb; have hap : ∀ x ∈ L', ∀ g, x.ob = some g → (Value.slice A_p np c_p).ownBlock = some g → False := (fun x hx g h1 h2 => by have h3 := (iO.lt hx h1).1; have h4 := u_p g h2; omega); have o_p := own_base o_p (base' := w.heap.size + 1 + 1) (by omega); have o_s := own_base o_s (base' := w.heap.size + 1 + 1) (by omega); have iO := iO.lower (base' := w.heap.size + 1 + 1) (by omega); have d0 := hd2.at_ 0 _ rfl; have df0 := hd2.frozen 0; have d1 := hd2.at_ 1 _ rfl; have df1 := hd2.frozen 1; have d2 := hd2.at_ 2 _ rfl; have df2 := hd2.frozen 2; have d3 := hd2.at_ 3 _ rfl; have df3 := hd2.frozen 3; have d4 := hd2.at_ 4 _ rfl; have df4 := hd2.frozen 4; have d5 := hd2.at_ 5 _ rfl; have df5 := hd2.frozen 5; have d6 := hd2.at_ 6 _ rfl; have df6 := hd2.frozen 6; have d7 := hd2.at_ 7 _ rfl; have df7 := hd2.frozen 7; have d8 := hd2.at_ 8 _ rfl; have df8 := hd2.frozen 8; have d9 := hd2.at_ 9 _ rfl; have df9 := hd2.frozen 9; have hlF := hd2.lt; have hlk := hk2.lt; clear hb u_p))
  have hd3 : Blk _ (w.heap.size + 1) 36 [.int .i64 rb, .int .i64 rs, .int .i64 rh, .int .i64 rt, .int .i64 pb, .int .i64 ps, .int .i64 pc, .slice A_p np c_p, .slice A_s ns c_s, .int .i64 next] := ((((((((((hd2.set_ 0 (.int .i64 rb)).set_ 1 (.int .i64 rs)).set_ 2 (.int .i64 rh)).set_ 3 (.int .i64 rt)).set_ 4 (.int .i64 pb)).set_ 5 (.int .i64 ps)).set_ 6 (.int .i64 pc)).set_ 7 (.slice A_p np c_p)).set_ 8 (.slice A_s ns c_s)).set_ 9 (.int .i64 next))
  have hc3 := (((((((((((ChgA.refl (w.heap.size + 1) w2).set 0 (.int .i64 rb)).set 1 (.int .i64 rs)).set 2 (.int .i64 rh)).set 3 (.int .i64 rt)).set 4 (.int .i64 pb)).set 5 (.int .i64 ps)).set 6 (.int .i64 pc)).set 7 (.slice A_p np c_p)).set 8 (.slice A_s ns c_s)).set 9 (.int .i64 next))
  have hv := loadVar_blk (P := Try.prog) hd3 (n := 10) rfl (by simp [go_sem]) (by simp [go_sem])
  go_wp2
  refine bodyPost_ret (v := .agg #[.int .i64 rb, .int .i64 rs, .int .i64 rh, .int .i64 rt, .int .i64 pb, .int .i64 ps, .int .i64 pc, .slice A_p np c_p, .slice A_s ns c_s, .int .i64 next]) (by simp [results, Try.results34, asAddr, Result.andThen, hv]) rfl ?_
  have hll := (map_v_len hL).trans hn2
  have hO : TxO w2 (w.heap.size + 1 + 1) ⟨rb, rs, rh, rt, pb, ps, pc, A_p, np, c_p, free, A_s, ns, c_s, L', next⟩ := ⟨⟨hn1, o_p⟩, ⟨hll, o_s⟩, iO, hap⟩
  exact ⟨⟨rb, rs, rh, rt, pb, ps, pc, A_p, np, c_p, free, A_s, ns, c_s, L', next⟩, rfl, by simp only [TxH.v, hL], (hO.chgA hc3 (by omega)).lower (by omega), hc3.below (by omega) kF⟩
end Go.Proofs.Ytnkcomclhmlefaa
