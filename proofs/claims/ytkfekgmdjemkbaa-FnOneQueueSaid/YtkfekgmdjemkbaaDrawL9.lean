/- Contract of the reference's draw l09List (up to eight packets). -/
import Derived.Test.YtkfekgmdjemkbaaDrawPk4
import Derived.Test.YtkfekgmdjemkbaaDrawSt2
import Derived.Test.YtkfekgmdjemkbaaConvPks
import Derived.Deep.CutRange
namespace Go.Proofs.Ytkfekgmdjemkbaa
set_option linter.unusedSimpArgs false
set_option linter.unusedVariables false
open Go.RowKit Go.ChangeShapes Go.WideShapes
theorem chgA_setCellsP {b : Nat} : ∀ (vs : List Value) (o : Nat) {a w : World}, ChgA b a w → ChgA b a (w.setCells b o vs)
  | [], _, _, _, h => h
  | v :: vs, o, a, w, h => by
    rw [World.setCells]
    exact chgA_setCellsP vs (o + 1) (h.set _ _)
theorem wpList_store_blkP {P : Program} {ops : Array Oper} {rest : List Oper} {op : Oper} {a : Act} {w : World} {Q : Exit → Act → World → Prop} {b : Nat} {t : TypeId} {zs : List Value} (hgd : op.guard = none) (ty : TypeId) (x y : Operand) (ho : op.op = .store ty x y)
    (cs : List Value) (hk : Blk w b t zs) (hx : a.eval x = .pointer (some ⟨b, 0, none⟩)) (hy : a.eval y = .agg cs.toArray) (hl : cs.length = zs.length) (hi : (P.info? ty).map (·.size) = some cs.length) (h1 : ∀ v ∈ cs, v.oneCell' = true)
    (h : ∀ W1, Blk W1 b t cs → ChgA b w W1 → wpList P ops Q rest (a.put op.dst undef) W1) : wpList P ops Q (op :: rest) a w := by
  refine wpList_store_mid hgd ty x y ho b 0 cs.toArray hx hy (hk.there_at 0 _ (by simp [hl])) (by simpa using hi) (all_oneCell_toArray h1) ?_
  exact h _ (by simpa using hk.setAll hl) (by simpa using chgA_setCellsP cs 0 (ChgA.refl b w))
theorem cur_chgA {w w1 : World} {g b : Nat} {A : Option Addr} {n c : Nat} (h : Cur w g A n c) (hc : ChgA b w w1) (hne : b ≠ g) : Cur w1 g A n c := by
  obtain ⟨i, k, hk, r⟩ := h; exact ⟨i, k, hk.chgA hc (by omega), r⟩
theorem grown_chgA {w w1 w2 : World} {g b : Nat} (h : w.grownBy w1 (some g)) (hc : ChgA b w1 w2) (hb : w.heap.size ≤ b) : w.grownBy w2 (some g) :=
  ⟨hc.os.trans h.os, hc.tape.trans h.tape, hc.output.trans h.output, by rw [hc.size]; exact h.size, fun i hi hne => (hc.other i (by omega)).trans (h.block i hi hne)⟩
theorem onePk (p : Packet) : ∀ v ∈ ([.int .i64 p.dmac, .int .i64 p.smac, .int .i64 p.vlan, .int .i64 p.tos, .int .i64 p.id, .int .i64 p.ttl, .int .i64 p.sip, .int .i64 p.dip, .int .i64 p.seg_kind, .int .i64 p.seg_sport, .int .i64 p.seg_dport, .int .i64 p.seg_seq, .int .i64 p.seg_ack, .int .i64 p.seg_flags, .int .i64 p.seg_win, .string p.seg_body] : List Value), v.oneCell' = true := by
  intro v hv
  simp only [List.mem_cons, List.not_mem_nil, or_false] at hv
  rcases hv with rfl | rfl | rfl | rfl | rfl | rfl | rfl | rfl | rfl | rfl | rfl | rfl | rfl | rfl | rfl | rfl <;> rfl
theorem info_PacketD : (Try.prog.info? 41).map (fun i => (i.zero, i.size, i.bytes)) = some (some (.agg #[.int .i64 0, .int .i64 0, .int .i64 0, .int .i64 0, .int .i64 0, .int .i64 0, .int .i64 0, .int .i64 0, .int .i64 0, .int .i64 0, .int .i64 0, .int .i64 0, .int .i64 0, .int .i64 0, .int .i64 0, .string ByteArray.empty]), 16, 136) := by kernel_rfl
theorem flat_snocPk (l : List Packet) (x : Packet) : (l ++ [x]).flatMap Packet.cells = l.flatMap Packet.cells ++ x.cells := by simp
theorem mem_snoc {lp : List Packet} {p : Packet} (h : Hid (∀ x ∈ lp, superB x = true)) (hp : Hid (superB p = true)) : Hid (∀ x ∈ lp ++ [p], superB x = true) := fun x hx => by
  rcases List.mem_append.1 hx with hx | hx
  · exact h.out x hx
  · simp at hx; subst hx; exact hp.out
theorem sup_seg {p : Packet} (h : superB p = true) : segB p.seg_kind p.seg_sport p.seg_dport p.seg_seq p.seg_ack p.seg_flags p.seg_win p.seg_body = true := by
  simp only [superB, Bool.and_eq_true] at h
  exact h.1.2
theorem sup_bd {p : Packet} (h : superB p = true) : (0 ≤ p.id ∧ p.id ≤ 65535) ∧ (0 ≤ p.seg_seq ∧ p.seg_seq ≤ 4294967295) := by
  have h1 := segB_t (sup_seg h)
  simp only [superB, inB, Bool.and_eq_true, decide_eq_true_eq] at h h1
  omega
theorem sup_id {p : Packet} (h : superB p = true) : superB ⟨p.dmac, p.smac, p.vlan, p.tos, ((p.id + 1) % 65536), p.ttl, p.sip, p.dip, p.seg_kind, p.seg_sport, p.seg_dport, p.seg_seq, p.seg_ack, p.seg_flags, p.seg_win, p.seg_body⟩ = true := by
  simp only [superB, Bool.and_eq_true] at h ⊢
  obtain ⟨⟨⟨⟨⟨⟨⟨⟨⟨a1, a2⟩, a3⟩, a4⟩, a5⟩, a6⟩, a7⟩, a8⟩, a9⟩, a10⟩ := h
  exact ⟨⟨⟨⟨⟨⟨⟨⟨⟨a1, a2⟩, a3⟩, a4⟩, a5⟩, inBi (by omega) (by omega)⟩, a7⟩, a8⟩, a9⟩, a10⟩
theorem sup_seq {p : Packet} (h : superB p = true) (h6 : p.seg_kind = 6) (x : Int) : superB ⟨p.dmac, p.smac, p.vlan, p.tos, p.id, p.ttl, p.sip, p.dip, p.seg_kind, p.seg_sport, p.seg_dport, (x % 4294967296), p.seg_ack, p.seg_flags, p.seg_win, p.seg_body⟩ = true := by
  obtain ⟨⟨b1, b2, b3⟩, ⟨_, b4, b5, b6, b7⟩ | ⟨b4, _⟩⟩ := segB_t (sup_seg h)
  · simp only [superB, Bool.and_eq_true] at h ⊢
    obtain ⟨⟨⟨⟨⟨⟨⟨⟨⟨a1, a2⟩, a3⟩, a4⟩, a5⟩, a6⟩, a7⟩, a8⟩, a9⟩, a10⟩ := h
    refine ⟨⟨⟨⟨⟨⟨⟨⟨⟨a1, a2⟩, a3⟩, a4⟩, a5⟩, a6⟩, a7⟩, a8⟩, ?_⟩, a10⟩
    rw [segB, b1, b2, decide_eq_true (by omega), if_pos h6, inBi (by omega) (by omega), b5, b6, b7]; rfl
  · omega
theorem sup_flags {p : Packet} {fl : Int} {bd : ByteArray} (h : superB p = true) (h6 : p.seg_kind = 6) (hf : fl ∈ [16, 16, 16, 16, 16, 24, 17, (2 : Int)]) (hb : bd.size ≤ 40) : superB ⟨p.dmac, p.smac, p.vlan, p.tos, p.id, p.ttl, p.sip, p.dip, p.seg_kind, p.seg_sport, p.seg_dport, p.seg_seq, p.seg_ack, fl, p.seg_win, bd⟩ = true := by
  have hf2 : 0 ≤ fl ∧ fl ≤ 31 := by simp only [List.mem_cons, List.not_mem_nil, or_false] at hf; omega
  obtain ⟨⟨b1, b2, b3⟩, ⟨_, b4, b5, b6, b7⟩ | ⟨b4, _⟩⟩ := segB_t (sup_seg h)
  · simp only [superB, Bool.and_eq_true] at h ⊢
    obtain ⟨⟨⟨⟨⟨⟨⟨⟨⟨a1, a2⟩, a3⟩, a4⟩, a5⟩, a6⟩, a7⟩, a8⟩, a9⟩, a10⟩ := h
    refine ⟨⟨⟨⟨⟨⟨⟨⟨⟨a1, a2⟩, a3⟩, a4⟩, a5⟩, a6⟩, a7⟩, a8⟩, ?_⟩, ?_⟩
    · rw [segB, b1, b2, decide_eq_true (by omega), if_pos h6, b4, b5, inBi hf2.1 hf2.2, b7]; rfl
    · rw [decide_eq_true (show (bd.size : Int) ≤ 128 by omega)]; rfl
  · omega
/-- Drawn packets: sound ones, one to eight. -/
def DrawLp (g : Nat) (A : Option Addr) (n c : Nat) (w : World) (e : Ending) (w' : World) : Prop := ∃ (lp : List Packet) (A2 : Option Addr) (c2 : Nat), (1 ≤ lp.length ∧ lp.length ≤ 8 ∧ ∀ x ∈ lp, superB x = true) ∧ e = .returned (.slice A2 lp.length c2) ∧ w'.ownsRow w.heap.size 41 16 (.slice A2 lp.length c2) lp.length (lp.flatMap Packet.cells) ∧ Cur w' g A n c ∧ w.grownBy w' (some g)
set_option maxRecDepth 100000 in
set_option maxHeartbeats 8000000 in
theorem l09List_c (g : Nat) (A : Option Addr) (n c : Nat) (l : List Int) (w : World) (hcur : Cur w g A n c) (hn : l.length = n) (hm : n ≤ 1048576) (hr : Reads w g 1 A n (l.flatMap fun x : Int => [Value.int .u8 x])) (hb : ∀ x ∈ l, 0 ≤ x ∧ x ≤ 255) :
    Calls Try.prog 18 #[.pointer (some ⟨g, 0, none⟩), .int .i64 8] w (DrawLp g A n c w) := by
  obtain ⟨i0, hi, hz0, hz1, hz2⟩ := info_parts info_PacketD
  have hlt0 := hcur.lt
  have HN := Lib.hid hn
  clear hn
  go_enter Try.func18, Try.ntmps18
  have q := hcur
  have gg : w.grownBy w (some g) := World.grownBy.refl _ _
  go_wp2_with fail
  obtain ⟨wa, hW0⟩ : ∃ W, W = w.alloc (.cells #[] 41) := ⟨_, rfl⟩
  have kk : Below w.heap.size w wa := by rw [hW0]; exact (Below.refl _ _).alloc (Nat.le_refl _) _
  have hE : Blk wa w.heap.size 41 [] := by rw [hW0]; exact Blk.new _ _ _
  replace gg : w.grownBy wa (some g) := by rw [hW0]; exact grown_al gg _
  rw [← hW0]
  clear hW0
  replace q := cur_below q kk
  clear kk
  have own := own_empty (size := 16) hE (Nat.le_refl _)
  clear hE
  refine (l07Packet40_c g A n c l _ q HN.out hm (reads_cur hr gg hlt0) hb).mono ?_
  rintro e w1 ⟨p, ⟨hp, hbz⟩, rfl, q1, hh⟩
  replace own := own_cur own hh hlt0
  replace gg := grown_trans gg hh
  replace q := q1
  have zz1 := gg.size
  have hub := fun k hk => (own.lt k hk).2
  clear q1 hh hbz
  go_wp2_with (with_reducible_and_instances show wpList _ _ _ (⟨_, .store 41 (.tmp 6) (.tmp 11), _, _, _, _⟩ :: _) _ _; refine wpList_store_new (w := w1) (t := 41) (zs := [.int .i64 0, .int .i64 0, .int .i64 0, .int .i64 0, .int .i64 0, .int .i64 0, .int .i64 0, .int .i64 0, .int .i64 0, .int .i64 0, .int .i64 0, .int .i64 0, .int .i64 0, .int .i64 0, .int .i64 0, .string ⟨#[]⟩]) rfl _ _ _ rfl [.int .i64 p.dmac, .int .i64 p.smac, .int .i64 p.vlan, .int .i64 p.tos, .int .i64 p.id, .int .i64 p.ttl, .int .i64 p.sip, .int .i64 p.dip, .int .i64 p.seg_kind, .int .i64 p.seg_sport, .int .i64 p.seg_dport, .int .i64 p.seg_seq, .int .i64 p.seg_ack, .int .i64 p.seg_flags, .int .i64 p.seg_win, .string p.seg_body] (by simp [go_sem]) (by simp [go_sem]) rfl infoZ_ip (onePk p) ?_; intro wa2 hbp hbW hs1; replace own := own_ext own hbW; replace q := cur_below q hbW; replace gg := only_below gg hbW; have zz := gg.size)
  have nep : some g ≠ some w1.heap.size := fun e => by injection e with e; omega
  have hbg : w1.heap.size ≠ g := by omega
  have hbl : w.heap.size ≤ w1.heap.size := zz1
  have hnb : ∀ k, (Value.slice (some ⟨w.heap.size, 0, none⟩) 0 0).ownBlock = some k → k ≠ w1.heap.size := fun k hk e => by have := hub k hk; omega
  clear hub
  generalize w1.heap.size = bp at *
  refine (l01Below_c g A n c l _ q HN.out hm (reads_cur hr gg hlt0) hb 3 (by omega) (by omega)).mono ?_
  rintro e w2 ⟨s1, ⟨s10, s11⟩, rfl, q1, hh⟩
  replace own := own_cur own hh hlt0
  replace hbp := blk_kept hbp hh nep
  replace gg := grown_trans gg hh
  replace q := q1
  have zz_ := gg.size
  clear q1 hh
  replace zz := zz_
  clear zz_
  have ew1 : IntKind.i64.wrap (s1 * 8) = s1 * 8 := IntWalk.i64_in _ ⟨by omega, by omega⟩
  have ew2 : IntKind.i64.wrap (8 + s1 * 8) = 8 + s1 * 8 := IntWalk.i64_in _ ⟨by omega, by omega⟩
  go_wp2_with fail
  refine (l01Below_c g A n c l _ q HN.out hm (reads_cur hr gg hlt0) hb 8 (by omega) (by omega)).mono ?_
  rintro e w3 ⟨k0, ⟨k00, k01⟩, rfl, q1, hh⟩
  replace own := own_cur own hh hlt0
  replace hbp := blk_kept hbp hh nep
  replace gg := grown_trans gg hh
  replace q := q1
  have zz_ := gg.size
  clear q1 hh
  replace zz := zz_
  clear zz_
  have ew3 : IntKind.i64.wrap (1 + k0) = 1 + k0 := IntWalk.i64_in _ ⟨by omega, by omega⟩
  have HP0 := Lib.hid hp
  clear hp
  go_wp2_with fail
  go_loopw [5, 7, 8] (fun v s i wr => ∃ (k : Int) (lp : List Packet) (j : Nat) (u : Value) (sz : Int) (p : Packet), v = u ∧ s = .int .i64 sz ∧ i = .int .i64 k ∧ (1 ≤ sz ∧ sz ≤ 40) ∧ 0 ≤ k ∧ (j : Int) + k = 1 + k0 ∧ Hid (lp.length = j) ∧ Hid (∀ x ∈ lp, superB x = true) ∧ Hid (superB p = true) ∧ (∀ k, u.ownBlock = some k → k ≠ bp) ∧ Blk wr bp 41 [.int .i64 p.dmac, .int .i64 p.smac, .int .i64 p.vlan, .int .i64 p.tos, .int .i64 p.id, .int .i64 p.ttl, .int .i64 p.sip, .int .i64 p.dip, .int .i64 p.seg_kind, .int .i64 p.seg_sport, .int .i64 p.seg_dport, .int .i64 p.seg_seq, .int .i64 p.seg_ack, .int .i64 p.seg_flags, .int .i64 p.seg_win, .string p.seg_body] ∧ wr.ownsRow w.heap.size 41 16 u j (lp.flatMap Packet.cells) ∧ Cur wr g A n c ∧ w.grownBy wr (some g)) (fun _ _ i _ => (intOf i).toNat)
  case atStart => exact ⟨1 + k0, [], 0, _, 8 + s1 * 8, p, rfl, rfl, rfl, by omega, by omega, by omega, Lib.hid rfl, Lib.hid (by simp), HP0, hnb, hbp, own, q, gg⟩
  case round =>
    clear hbp own q gg HP0
    obtain ⟨k, lp, j, u, sz, p, hu, rfl, rfl, hsz, hk0, hjk, HJ, HLP, HP, hnb, hbp, own, q, gg⟩ := hrel
    have hu := hu.symm
    subst hu
    have zz := gg.size
    have hlb := hbp.lt
    by_cases hlt : 0 < k
    · go_wp2_with fail
      refine (l01Once_c g A n c l _ q HN.out hm (reads_cur hr gg hlt0) hb 5 (by omega) (by omega)).mono ?_
      rintro e w4 ⟨b, rfl, q1, hh⟩
      replace own := own_cur own hh hlt0
      replace hbp := blk_kept hbp hh nep
      replace gg := grown_trans gg hh
      replace q := q1
      have zz_ := gg.size
      clear q1 hh
      replace zz := zz_
      clear zz_
      go_upto_if 25 with fail
      go_cut [] from 24 to 27 (fun wx => ∃ p : Packet, Hid (superB p = true) ∧ Blk wx bp 41 [.int .i64 p.dmac, .int .i64 p.smac, .int .i64 p.vlan, .int .i64 p.tos, .int .i64 p.id, .int .i64 p.ttl, .int .i64 p.sip, .int .i64 p.dip, .int .i64 p.seg_kind, .int .i64 p.seg_sport, .int .i64 p.seg_dport, .int .i64 p.seg_seq, .int .i64 p.seg_ack, .int .i64 p.seg_flags, .int .i64 p.seg_win, .string p.seg_body] ∧ wx.ownsRow w.heap.size 41 16 u j (lp.flatMap Packet.cells) ∧ Cur wx g A n c ∧ w.grownBy wx (some g))
      case first =>
        cases b
        · go_wp2_with fail
          go_meet
          exact ⟨p, HP, hbp, own, q, gg⟩
        · go_wp2_with fail
          refine (l07Packet40_c g A n c l _ q HN.out hm (reads_cur hr gg hlt0) hb).mono ?_
          rintro e w5 ⟨p2, ⟨hp2, hbz2⟩, rfl, q1, hh⟩
          replace own := own_cur own hh hlt0
          replace hbp := blk_kept hbp hh nep
          replace gg := grown_trans gg hh
          replace q := q1
          have zz_ := gg.size
          clear q1 hh
          replace zz := zz_
          clear zz_
          go_wp2_with (with_reducible_and_instances show wpList _ _ _ (⟨_, .store 41 (.tmp 6) (.tmp 27), _, _, _, _⟩ :: _) _ _; refine wpList_store_blkP rfl _ _ _ rfl [.int .i64 p2.dmac, .int .i64 p2.smac, .int .i64 p2.vlan, .int .i64 p2.tos, .int .i64 p2.id, .int .i64 p2.ttl, .int .i64 p2.sip, .int .i64 p2.dip, .int .i64 p2.seg_kind, .int .i64 p2.seg_sport, .int .i64 p2.seg_dport, .int .i64 p2.seg_seq, .int .i64 p2.seg_ack, .int .i64 p2.seg_flags, .int .i64 p2.seg_win, .string p2.seg_body] hbp (by simp [go_sem]) (by simp [go_sem]) rfl infoZ_ip (onePk p2) ?_; intro W2 hb2 hc2)
          go_meet
          exact ⟨p2, Lib.hid hp2, hb2, own_chgA own hc2 hnb, cur_chgA q hc2 hbg, grown_chgA gg hc2 hbl⟩
      case rest =>
        clear hbp own q gg HP b
        obtain ⟨p, HP, hbp, own, q, gg⟩ := hcut
        generalize hW0 : wc = w4 at *
        clear hW0
        replace zz := gg.size
        have lbp := hbp.lt
        replace hlb := lbp
        clear lbp
        go_wp2_with fail
        refine (l01Once_c g A n c l _ q HN.out hm (reads_cur hr gg hlt0) hb 6 (by omega) (by omega)).mono ?_
        rintro e w5 ⟨b, rfl, q1, hh⟩
        replace own := own_cur own hh hlt0
        replace hbp := blk_kept hbp hh nep
        replace gg := grown_trans gg hh
        replace q := q1
        have zz_ := gg.size
        clear q1 hh
        replace zz := zz_
        clear zz_
        go_upto_if 29 with fail
        go_cut [7] from 28 to 32 (fun s7 wx => ∃ sz : Int, s7 = .int .i64 sz ∧ (1 ≤ sz ∧ sz ≤ 40) ∧ Blk wx bp 41 [.int .i64 p.dmac, .int .i64 p.smac, .int .i64 p.vlan, .int .i64 p.tos, .int .i64 p.id, .int .i64 p.ttl, .int .i64 p.sip, .int .i64 p.dip, .int .i64 p.seg_kind, .int .i64 p.seg_sport, .int .i64 p.seg_dport, .int .i64 p.seg_seq, .int .i64 p.seg_ack, .int .i64 p.seg_flags, .int .i64 p.seg_win, .string p.seg_body] ∧ wx.ownsRow w.heap.size 41 16 u j (lp.flatMap Packet.cells) ∧ Cur wx g A n c ∧ w.grownBy wx (some g))
        case first =>
          cases b
          · go_wp2_with fail
            go_meet
            exact ⟨sz, rfl, hsz, hbp, own, q, gg⟩
          · go_wp2_with fail
            refine (l01Below_c g A n c l _ q HN.out hm (reads_cur hr gg hlt0) hb 40 (by omega) (by omega)).mono ?_
            rintro e w6 ⟨y, ⟨y0, y1⟩, rfl, q1, hh⟩
            replace own := own_cur own hh hlt0
            replace hbp := blk_kept hbp hh nep
            replace gg := grown_trans gg hh
            replace q := q1
            have zz_ := gg.size
            clear q1 hh
            replace zz := zz_
            clear zz_
            have ew4 : IntKind.i64.wrap (1 + y) = 1 + y := IntWalk.i64_in _ ⟨by omega, by omega⟩
            go_wp2_with fail
            go_meet
            exact ⟨1 + y, rfl, by omega, hbp, own, q, gg⟩
        case rest =>
          clear hbp own q gg hsz b
          obtain ⟨sz, rfl, hsz, hbp, own, q, gg⟩ := hcut
          generalize hW0 : wc = w5 at *
          clear hW0
          replace zz := gg.size
          have lbp := hbp.lt
          replace hlb := lbp
          clear lbp
          have c8 := hbp.at_ 8 _ rfl
          go_upto_if 36 with fail
          go_cut [] from 33 to 46 (fun wx => ∃ p : Packet, Hid (superB p = true) ∧ Blk wx bp 41 [.int .i64 p.dmac, .int .i64 p.smac, .int .i64 p.vlan, .int .i64 p.tos, .int .i64 p.id, .int .i64 p.ttl, .int .i64 p.sip, .int .i64 p.dip, .int .i64 p.seg_kind, .int .i64 p.seg_sport, .int .i64 p.seg_dport, .int .i64 p.seg_seq, .int .i64 p.seg_ack, .int .i64 p.seg_flags, .int .i64 p.seg_win, .string p.seg_body] ∧ wx.ownsRow w.heap.size 41 16 u j (lp.flatMap Packet.cells) ∧ Cur wx g A n c ∧ w.grownBy wx (some g))
          case first =>
            by_cases h6 : p.seg_kind = 6
            · go_wp2_with fail
              obtain ⟨wl, hW0⟩ : ∃ W, W = w5.alloc (.cells #[.int .i64 16, .int .i64 16, .int .i64 16, .int .i64 16, .int .i64 16, .int .i64 24, .int .i64 17, .int .i64 2] 3) := ⟨_, rfl⟩
              have kk : Below w5.heap.size w5 wl := by rw [hW0]; exact (Below.refl _ _).alloc (Nat.le_refl _) _
              have hpl : Blk wl w5.heap.size 3 [.int .i64 16, .int .i64 16, .int .i64 16, .int .i64 16, .int .i64 16, .int .i64 24, .int .i64 17, .int .i64 2] := by rw [hW0]; exact Blk.new _ _ _
              replace gg : w.grownBy wl (some g) := by rw [hW0]; exact grown_al gg _
              rw [← hW0]
              clear hW0
              replace q := cur_below q kk
              replace own := own_ext own kk
              replace hbp := hbp.ext kk
              clear kk
              refine (l01PickInt_c g A n c l _ q HN.out hm (reads_cur hr gg hlt0) hb _ 8 [16, 16, 16, 16, 16, 24, 17, 2] hpl (by omega) rfl (by omega) (by omega)).mono ?_
              rintro e w6 ⟨fl, i_fl, rfl, q1, hh⟩
              replace own := own_cur own hh hlt0
              replace hbp := blk_kept hbp hh nep
              replace gg := grown_trans gg hh
              replace q := q1
              have zz_ := gg.size
              clear q1 hh
              replace zz := zz_
              clear zz_
              clear hpl c8
              have c13 := hbp.at_ 13 _ rfl
              have f13 := hbp.frozen 13
              have l6 := hbp.lt
              go_wp2_with fail
              obtain ⟨w7, hW0⟩ : ∃ W, W = w6.setCell ⟨bp, 13, none⟩ (.int .i64 fl) := ⟨_, rfl⟩
              have ch_ : ChgA bp w6 w7 := by rw [hW0]; exact (ChgA.refl _ _).set _ _
              replace own := own_chgA own ch_ (fun k hk => hnb k hk)
              replace hbp : Blk w7 bp 41 [.int .i64 p.dmac, .int .i64 p.smac, .int .i64 p.vlan, .int .i64 p.tos, .int .i64 p.id, .int .i64 p.ttl, .int .i64 p.sip, .int .i64 p.dip, .int .i64 p.seg_kind, .int .i64 p.seg_sport, .int .i64 p.seg_dport, .int .i64 p.seg_seq, .int .i64 p.seg_ack, .int .i64 fl, .int .i64 p.seg_win, .string p.seg_body] := by rw [hW0]; exact hbp.set_ 13 (.int .i64 fl)
              replace q : Cur w7 g A n c := by rw [hW0]; exact cur_fr q (p := ⟨bp, 13, none⟩) hbg _
              replace gg : w.grownBy w7 (some g) := by rw [hW0]; exact only_setCell gg (p := ⟨bp, 13, none⟩) (.inr hbl) _
              rw [← hW0]
              clear hW0 ch_
              replace zz := gg.size
              clear c13 f13
              refine (l01Text_c g A n c l _ q HN.out hm (reads_cur hr gg hlt0) hb sz (by omega) (by omega)).mono ?_
              rintro e w8 ⟨bd, hbd, rfl, q1, hh⟩
              replace own := own_cur own hh hlt0
              replace hbp := blk_kept hbp hh nep
              replace gg := grown_trans gg hh
              replace q := q1
              have zz_ := gg.size
              clear q1 hh
              replace zz := zz_
              clear zz_
              have c15 := hbp.at_ 15 _ rfl
              have f15 := hbp.frozen 15
              have l8 := hbp.lt
              go_wp2_with fail
              obtain ⟨w9, hW0⟩ : ∃ W, W = w8.setCell ⟨bp, 15, none⟩ (.string bd) := ⟨_, rfl⟩
              have ch_ : ChgA bp w8 w9 := by rw [hW0]; exact (ChgA.refl _ _).set _ _
              replace own := own_chgA own ch_ (fun k hk => hnb k hk)
              replace hbp : Blk w9 bp 41 [.int .i64 p.dmac, .int .i64 p.smac, .int .i64 p.vlan, .int .i64 p.tos, .int .i64 p.id, .int .i64 p.ttl, .int .i64 p.sip, .int .i64 p.dip, .int .i64 p.seg_kind, .int .i64 p.seg_sport, .int .i64 p.seg_dport, .int .i64 p.seg_seq, .int .i64 p.seg_ack, .int .i64 fl, .int .i64 p.seg_win, .string bd] := by rw [hW0]; exact hbp.set_ 15 (.string bd)
              replace q : Cur w9 g A n c := by rw [hW0]; exact cur_fr q (p := ⟨bp, 15, none⟩) hbg _
              replace gg : w.grownBy w9 (some g) := by rw [hW0]; exact only_setCell gg (p := ⟨bp, 15, none⟩) (.inr hbl) _
              rw [← hW0]
              clear hW0 ch_
              replace zz := gg.size
              go_meet
              exact ⟨⟨p.dmac, p.smac, p.vlan, p.tos, p.id, p.ttl, p.sip, p.dip, p.seg_kind, p.seg_sport, p.seg_dport, p.seg_seq, p.seg_ack, fl, p.seg_win, bd⟩, Lib.hid (sup_flags HP.out h6 i_fl (by omega)), hbp, own, q, gg⟩
            · go_wp2_with fail
              go_meet
              exact ⟨p, HP, hbp, own, q, gg⟩
          case rest =>
            clear hbp own q gg HP c8
            obtain ⟨p, HP, hbp, own, q, gg⟩ := hcut
            generalize hW0 : wc = w6 at *
            clear hW0
            replace zz := gg.size
            have lbp := hbp.lt
            replace hlb := lbp
            clear lbp
            have hR := hbp.range
            have hid := sup_bd HP.out
            have ew5 : IntKind.i64.wrap (p.id + 1) = p.id + 1 := IntWalk.i64_in _ ⟨by omega, by omega⟩
            have htm : (p.id + 1).tmod 65536 = (p.id + 1) % 65536 := Int.tmod_eq_emod_of_nonneg (by omega)
            by_cases h6 : p.seg_kind = 6
            · have H6 := Lib.hid h6
              clear h6
              go_upto_region 15 with (first | (with_reducible_and_instances show wpList _ _ _ (⟨_, .load 41 (.tmp 6), _, _, _, _⟩ :: _) _ _; refine wpList_load_mid rfl _ _ rfl bp 0 (by simp [go_sem]) [.int .i64 p.dmac, .int .i64 p.smac, .int .i64 p.vlan, .int .i64 p.tos, .int .i64 p.id, .int .i64 p.ttl, .int .i64 p.sip, .int .i64 p.dip, .int .i64 p.seg_kind, .int .i64 p.seg_sport, .int .i64 p.seg_dport, .int .i64 p.seg_seq, .int .i64 p.seg_ack, .int .i64 p.seg_flags, .int .i64 p.seg_win, .string p.seg_body] _ hR Try.underlying41 rfl infoZ_ip ?_) | (at_builtin; refine wpList_append_any _ rfl _ _ 33 rfl w.heap.size 41 i0 (.agg #[.int .i64 0, .int .i64 0, .int .i64 0, .int .i64 0, .int .i64 0, .int .i64 0, .int .i64 0, .int .i64 0, .int .i64 0, .int .i64 0, .int .i64 0, .int .i64 0, .int .i64 0, .int .i64 0, .int .i64 0, .string ⟨#[]⟩]) 16 136 Try.underlying33 hi hz0 hz1 hz2 rfl (by decide) _ _ _ rfl (own.alloc _) (w6.heap.size + 1) _ 1 1 (Packet.cells p) rfl (new_readsS _ _ _ rfl) (onePk p) (by unfold maxLen; omega) (by omega) (by simp only [World.size_alloc]; omega) ?_; intro v2 w7 own7 hg7 hat7; have q7 := cur_kept (q.alloc _) hg7 (fun e => by have := (own.lt _ e).1; omega); have hb7 := blk_kept (hbp.alloc _) hg7 (fun e => hnb bp e rfl); have g7 := grown_own (grown_al gg _) (own.alloc _) hg7; have hnb7 : ∀ k, v2.ownBlock = some k → k ≠ bp := (fun k hk e => by rcases hat7 with h8 | h8; exact hnb k (h8 ▸ hk) e; rw [h8] at hk; injection hk with hk; simp only [World.size_alloc] at hk; omega); have c4 := hb7.at_ 4 _ rfl; have f4 := hb7.frozen 4; have c8 := hb7.at_ 8 _ rfl; have l7 := hb7.lt; clear hat7 hg7))
              have h6 := H6.out
              clear hbp own q gg
              replace own := own7
              replace hbp := hb7
              replace q := q7
              replace gg := g7
              replace zz := gg.size
              replace hnb := hnb7
              clear own7 hb7 q7 g7 hR hnb7
              go_wp2_with fail
              obtain ⟨w8, hW0⟩ : ∃ W, W = w7.setCell ⟨bp, 4, none⟩ (.int .i64 ((p.id + 1) % 65536)) := ⟨_, rfl⟩
              have ch_ : ChgA bp w7 w8 := by rw [hW0]; exact (ChgA.refl _ _).set _ _
              replace own := own_chgA own ch_ (fun k hk => hnb k hk)
              replace hbp : Blk w8 bp 41 [.int .i64 p.dmac, .int .i64 p.smac, .int .i64 p.vlan, .int .i64 p.tos, .int .i64 ((p.id + 1) % 65536), .int .i64 p.ttl, .int .i64 p.sip, .int .i64 p.dip, .int .i64 p.seg_kind, .int .i64 p.seg_sport, .int .i64 p.seg_dport, .int .i64 p.seg_seq, .int .i64 p.seg_ack, .int .i64 p.seg_flags, .int .i64 p.seg_win, .string p.seg_body] := by rw [hW0]; exact hbp.set_ 4 (.int .i64 ((p.id + 1) % 65536))
              replace q : Cur w8 g A n c := by rw [hW0]; exact cur_fr q (p := ⟨bp, 4, none⟩) hbg _
              replace gg : w.grownBy w8 (some g) := by rw [hW0]; exact only_setCell gg (p := ⟨bp, 4, none⟩) (.inr hbl) _
              rw [← hW0]
              clear hW0 ch_
              replace zz := gg.size
              clear c4 f4 c8
              refine (l01Once_c g A n c l _ q HN.out hm (reads_cur hr gg hlt0) hb 8 (by omega) (by omega)).mono ?_
              rintro e w9 ⟨b, rfl, q1, hh⟩
              replace own := own_cur own hh hlt0
              replace hbp := blk_kept hbp hh nep
              replace gg := grown_trans gg hh
              replace q := q1
              have zz_ := gg.size
              clear q1 hh
              replace zz := zz_
              clear zz_
              have c11 := hbp.at_ 11 _ rfl
              have c15 := hbp.at_ 15 _ rfl
              have f11 := hbp.frozen 11
              have hbsz := (segB_t (sup_seg HP.out)).1.2.2
              have ew6 : IntKind.i64.wrap (p.seg_seq + (p.seg_body.size : Int)) = p.seg_seq + (p.seg_body.size : Int) := IntWalk.i64_in _ ⟨by omega, by omega⟩
              have htq : (p.seg_seq + (p.seg_body.size : Int)).tmod 4294967296 = (p.seg_seq + (p.seg_body.size : Int)) % 4294967296 := Int.tmod_eq_emod_of_nonneg (by omega)
              cases b
              · go_wp2_with fail
                obtain ⟨w10, hW0⟩ : ∃ W, W = w9.setCell ⟨bp, 11, none⟩ (.int .i64 ((p.seg_seq + (p.seg_body.size : Int)) % 4294967296)) := ⟨_, rfl⟩
                have ch_ : ChgA bp w9 w10 := by rw [hW0]; exact (ChgA.refl _ _).set _ _
                replace own := own_chgA own ch_ (fun k hk => hnb k hk)
                replace hbp : Blk w10 bp 41 [.int .i64 p.dmac, .int .i64 p.smac, .int .i64 p.vlan, .int .i64 p.tos, .int .i64 ((p.id + 1) % 65536), .int .i64 p.ttl, .int .i64 p.sip, .int .i64 p.dip, .int .i64 p.seg_kind, .int .i64 p.seg_sport, .int .i64 p.seg_dport, .int .i64 ((p.seg_seq + (p.seg_body.size : Int)) % 4294967296), .int .i64 p.seg_ack, .int .i64 p.seg_flags, .int .i64 p.seg_win, .string p.seg_body] := by rw [hW0]; exact hbp.set_ 11 (.int .i64 ((p.seg_seq + (p.seg_body.size : Int)) % 4294967296))
                replace q : Cur w10 g A n c := by rw [hW0]; exact cur_fr q (p := ⟨bp, 11, none⟩) hbg _
                replace gg : w.grownBy w10 (some g) := by rw [hW0]; exact only_setCell gg (p := ⟨bp, 11, none⟩) (.inr hbl) _
                rw [← hW0]
                clear hW0 ch_
                replace zz := gg.size
                go_roundw
                case rel => exact ⟨k - 1, lp ++ [p], j + 1, v2, sz, ⟨p.dmac, p.smac, p.vlan, p.tos, ((p.id + 1) % 65536), p.ttl, p.sip, p.dip, p.seg_kind, p.seg_sport, p.seg_dport, ((p.seg_seq + (p.seg_body.size : Int)) % 4294967296), p.seg_ack, p.seg_flags, p.seg_win, p.seg_body⟩, rfl, rfl, by go_num, hsz, by omega, by omega, Lib.hid (by simp [HJ.out]), (mem_snoc HLP HP), Lib.hid (sup_seq (sup_id HP.out) h6 _), hnb, hbp, by rw [flat_snocPk]; exact own, q, gg⟩
                case measure => simp [intOf]; omega
              · go_wp2_with fail
                go_roundw
                case rel => exact ⟨k - 1, lp ++ [p], j + 1, v2, sz, ⟨p.dmac, p.smac, p.vlan, p.tos, ((p.id + 1) % 65536), p.ttl, p.sip, p.dip, p.seg_kind, p.seg_sport, p.seg_dport, p.seg_seq, p.seg_ack, p.seg_flags, p.seg_win, p.seg_body⟩, rfl, rfl, by go_num, hsz, by omega, by omega, Lib.hid (by simp [HJ.out]), (mem_snoc HLP HP), Lib.hid (sup_id HP.out), hnb, hbp, by rw [flat_snocPk]; exact own, q, gg⟩
                case measure => simp [intOf]; omega
            · go_wp2_with (first | (with_reducible_and_instances show wpList _ _ _ (⟨_, .load 41 (.tmp 6), _, _, _, _⟩ :: _) _ _; refine wpList_load_mid rfl _ _ rfl bp 0 (by simp [go_sem]) [.int .i64 p.dmac, .int .i64 p.smac, .int .i64 p.vlan, .int .i64 p.tos, .int .i64 p.id, .int .i64 p.ttl, .int .i64 p.sip, .int .i64 p.dip, .int .i64 p.seg_kind, .int .i64 p.seg_sport, .int .i64 p.seg_dport, .int .i64 p.seg_seq, .int .i64 p.seg_ack, .int .i64 p.seg_flags, .int .i64 p.seg_win, .string p.seg_body] _ hR Try.underlying41 rfl infoZ_ip ?_) | (at_builtin; refine wpList_append_any _ rfl _ _ 33 rfl w.heap.size 41 i0 (.agg #[.int .i64 0, .int .i64 0, .int .i64 0, .int .i64 0, .int .i64 0, .int .i64 0, .int .i64 0, .int .i64 0, .int .i64 0, .int .i64 0, .int .i64 0, .int .i64 0, .int .i64 0, .int .i64 0, .int .i64 0, .string ⟨#[]⟩]) 16 136 Try.underlying33 hi hz0 hz1 hz2 rfl (by decide) _ _ _ rfl (own.alloc _) (w6.heap.size + 1) _ 1 1 (Packet.cells p) rfl (new_readsS _ _ _ rfl) (onePk p) (by unfold maxLen; omega) (by omega) (by simp only [World.size_alloc]; omega) ?_; intro v2 w7 own7 hg7 hat7; have q7 := cur_kept (q.alloc _) hg7 (fun e => by have := (own.lt _ e).1; omega); have hb7 := blk_kept (hbp.alloc _) hg7 (fun e => hnb bp e rfl); have g7 := grown_own (grown_al gg _) (own.alloc _) hg7; have hnb7 : ∀ k, v2.ownBlock = some k → k ≠ bp := (fun k hk e => by rcases hat7 with h8 | h8; exact hnb k (h8 ▸ hk) e; rw [h8] at hk; injection hk with hk; simp only [World.size_alloc] at hk; omega); have c4 := hb7.at_ 4 _ rfl; have f4 := hb7.frozen 4; have c8 := hb7.at_ 8 _ rfl; have l7 := hb7.lt; clear hat7 hg7))
              clear hbp own q gg
              replace own := own7
              replace hbp := hb7
              replace q := q7
              replace gg := g7
              replace zz := gg.size
              replace hnb := hnb7
              clear own7 hb7 q7 g7 hR hnb7
              obtain ⟨w8, hW0⟩ : ∃ W, W = w7.setCell ⟨bp, 4, none⟩ (.int .i64 ((p.id + 1) % 65536)) := ⟨_, rfl⟩
              have ch_ : ChgA bp w7 w8 := by rw [hW0]; exact (ChgA.refl _ _).set _ _
              replace own := own_chgA own ch_ (fun k hk => hnb k hk)
              replace hbp : Blk w8 bp 41 [.int .i64 p.dmac, .int .i64 p.smac, .int .i64 p.vlan, .int .i64 p.tos, .int .i64 ((p.id + 1) % 65536), .int .i64 p.ttl, .int .i64 p.sip, .int .i64 p.dip, .int .i64 p.seg_kind, .int .i64 p.seg_sport, .int .i64 p.seg_dport, .int .i64 p.seg_seq, .int .i64 p.seg_ack, .int .i64 p.seg_flags, .int .i64 p.seg_win, .string p.seg_body] := by rw [hW0]; exact hbp.set_ 4 (.int .i64 ((p.id + 1) % 65536))
              replace q : Cur w8 g A n c := by rw [hW0]; exact cur_fr q (p := ⟨bp, 4, none⟩) hbg _
              replace gg : w.grownBy w8 (some g) := by rw [hW0]; exact only_setCell gg (p := ⟨bp, 4, none⟩) (.inr hbl) _
              rw [← hW0]
              clear hW0 ch_
              replace zz := gg.size
              go_roundw
              case rel => exact ⟨k - 1, lp ++ [p], j + 1, v2, sz, ⟨p.dmac, p.smac, p.vlan, p.tos, ((p.id + 1) % 65536), p.ttl, p.sip, p.dip, p.seg_kind, p.seg_sport, p.seg_dport, p.seg_seq, p.seg_ack, p.seg_flags, p.seg_win, p.seg_body⟩, rfl, rfl, by go_num, hsz, by omega, by omega, Lib.hid (by simp [HJ.out]), (mem_snoc HLP HP), Lib.hid (sup_id HP.out), hnb, hbp, by rw [flat_snocPk]; exact own, q, gg⟩
              case measure => simp [intOf]; omega
    · go_wp2
      go_ret
      obtain ⟨A2, c2, rfl, _, _, _⟩ := own_form own
      have hj := HJ.out
      subst hj
      exact ⟨lp, A2, c2, ⟨by omega, by omega, HLP.out⟩, rfl, own, q, gg⟩
end Go.Proofs.Ytkfekgmdjemkbaa
