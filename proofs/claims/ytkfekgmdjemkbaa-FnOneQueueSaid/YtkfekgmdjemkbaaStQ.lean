/- Contracts: QueuePackets: impl and spec. -/
import Derived.Test.YtkfekgmdjemkbaaStJ
import Derived.Test.YtkfekgmdjemkbaaStK
import Derived.Test.YtkfekgmdjemkbaaConvPks
namespace Go.Proofs.Ytkfekgmdjemkbaa
set_option linter.unusedSimpArgs false
set_option linter.unusedVariables false
open Go.RowKit Go.ChangeShapes Go.WideShapes
/-- The packets that come to a queue. -/
def qpF (rs : List Rule) (l : List Slot) (key : ByteArray) (tb : List Int) (q qq : Int) (p : Packet) : Bool := steerI rs l key tb q p == qq
def qpL (rs : List Rule) (l : List Slot) (key : ByteArray) (tb : List Int) (q qq : Int) (lp : List Packet) : List Packet := if 0 ≤ qq then lp.filter (qpF rs l key tb q qq) else []
theorem filt_next {T : Type} {f : T → Bool} {l : List T} {k : Nat} {x : T} (h : l[k]? = some x) : (l.take (k + 1)).filter f = if f x = true then (l.take k).filter f ++ [x] else (l.take k).filter f := by
  rw [take_next h, List.filter_append]
  by_cases hf : f x = true <;> simp [hf]
theorem filt_len {T : Type} (f : T → Bool) (l : List T) (k : Nat) : ((l.take k).filter f).length ≤ k := Nat.le_trans (List.length_filter_le _ _) (by rw [List.length_take]; omega)
theorem oneL (x : Packet) : ∀ v ∈ ([.int .i64 x.dmac, .int .i64 x.smac, .int .i64 x.vlan, .int .i64 x.tos, .int .i64 x.id, .int .i64 x.ttl, .int .i64 x.sip, .int .i64 x.dip, .int .i64 x.seg_kind, .int .i64 x.seg_sport, .int .i64 x.seg_dport, .int .i64 x.seg_seq, .int .i64 x.seg_ack, .int .i64 x.seg_flags, .int .i64 x.seg_win, .string x.seg_body] : List Value), v.oneCell' = true := by
  intro v hv
  simp only [List.mem_cons, List.not_mem_nil, or_false] at hv
  rcases hv with rfl | rfl | rfl | rfl | rfl | rfl | rfl | rfl | rfl | rfl | rfl | rfl | rfl | rfl | rfl | rfl <;> rfl
set_option maxRecDepth 100000 in
set_option maxHeartbeats 4000000 in
theorem implQueuePackets_c (Ar : Option Addr) (nr cr : Nat) (rs : List Rule) (As : Option Addr) (ns cs : Nat) (l : List Slot) (key : ByteArray) (At : Option Addr) (nt ct : Nat) (tb : List Int) (q : Int) (A : Option Addr) (n c : Nat) (lp : List Packet) (qq : Int) (w : World) (hnr : rs.length = nr) (hmr : nr ≤ 1048576) (hrr : Reads w w.heap.size 9 Ar nr (rs.flatMap Rule.cells)) (hns : l.length = ns) (hms : ns ≤ 1048576) (hrs : Reads w w.heap.size 7 As ns (l.flatMap Slot.cells)) (hnt : tb.length = nt) (hmt : nt ≤ 1048576) (hrt : Reads w w.heap.size 1 At nt (tb.flatMap fun x : Int => [Value.int .i64 x])) (hn : lp.length = n) (hm : n ≤ 1048576) (hr : Reads w w.heap.size 16 A n (lp.flatMap Packet.cells)) (hz : ∀ p ∈ lp, p.seg_body.size ≤ 1048576) :
    Calls Try.prog 7 #[.agg #[.slice Ar nr cr, .slice As ns cs, .string key, .slice At nt ct], .int .i64 q, .slice A n c, .int .i64 qq] w fun e w' => ∃ A' c', e = .returned (.slice A' (qpL rs l key tb q qq lp).length c') ∧ w'.ownsRow w.heap.size 41 16 (.slice A' (qpL rs l key tb q qq lp).length c') (qpL rs l key tb q qq lp).length ((qpL rs l key tb q qq lp).flatMap Packet.cells) ∧ Below w.heap.size w w' := by
  obtain ⟨i0, hi, hz0, hz1, hz2⟩ := info_parts info_Packet
  have HN := Lib.hid hn
  clear hn
  by_cases hq0 : 0 ≤ qq
  · have hq1 : ¬ qq < 0 := by omega
    go_enter Try.func7, Try.ntmps7
    go_wp2
    go_loopw [9, 17] (fun v i wr => ∃ (k : Nat) (A' : Option Addr) (c' m : Nat), k ≤ n ∧ i = .int .i64 k ∧ v = .slice A' m c' ∧ Below w.heap.size w wr ∧ Blk wr w.heap.size 32 [.slice Ar nr cr, .slice As ns cs, .string key, .slice At nt ct] ∧ Hid (m = ((lp.take k).filter (qpF rs l key tb q qq)).length) ∧ wr.ownsRow (w.heap.size + 1) 41 16 (.slice A' m c') m (((lp.take k).filter (qpF rs l key tb q qq)).flatMap Packet.cells)) (fun _ i _ => n - (intOf i).toNat)
    case atStart => exact ⟨0, some ⟨w.heap.size + 1, 0, none⟩, 0, 0, Nat.zero_le _, rfl, rfl, by go_grown, by simpa using (Blk.new w 32 [.slice Ar nr cr, .slice As ns cs, .string key, .slice At nt ct]).alloc _, rfl, own_empty (by simpa using Blk.new (w.alloc _) 41 []) (Nat.le_refl _)⟩
    case round =>
      obtain ⟨k, A', c', m, hk, rfl, rfl, hbw, hbx, hml, hown⟩ := hrel
      have hsz := hbw.size
      have hlx := hbx.lt
      have hmk : m ≤ k := by rw [hml.out]; exact filt_len _ _ _
      by_cases hlt : k < n
      · obtain ⟨b, o, x, rfl, hbl, hx, hc⟩ := hr.el (fun _ => rfl) (by decide) HN.out hlt
        have hR : wr.rangeAt b (o + k * 16) [.int .i64 x.dmac, .int .i64 x.smac, .int .i64 x.vlan, .int .i64 x.tos, .int .i64 x.id, .int .i64 x.ttl, .int .i64 x.sip, .int .i64 x.dip, .int .i64 x.seg_kind, .int .i64 x.seg_sport, .int .i64 x.seg_dport, .int .i64 x.seg_seq, .int .i64 x.seg_ack, .int .i64 x.seg_flags, .int .i64 x.seg_win, .string x.seg_body] := range_below hc hbw hbl
        have hzx := hz x (List.mem_of_getElem? hx)
        have hfn := filt_next (f := qpF rs l key tb q qq) hx
        have hst := (fun (u : World) (h1 : Reads u u.heap.size 9 Ar nr (rs.flatMap Rule.cells)) (h2 : Reads u u.heap.size 7 As ns (l.flatMap Slot.cells)) (h3 : Reads u u.heap.size 1 At nt (tb.flatMap fun x : Int => [Value.int .i64 x])) => implSteerPacket_c Ar nr cr rs As ns cs l key At nt ct tb q u hnr hmr h1 hns hms h2 hnt hmt h3 x hzx)
        obtain ⟨I, hI⟩ : ∃ I, steerI rs l key tb q x = I := ⟨_, rfl⟩
        have hfx : qpF rs l key tb q qq x = (I == qq) := by rw [qpF, hI]
        simp only [hI] at hst
        clear hI hx hc
        by_cases hq : I = qq
        · rw [if_pos (by rw [hfx]; simpa using hq)] at hfn
          have HF := Lib.hid hfn
          have e1 : (I == qq) = true := by simpa using hq
          clear hfn hfx hq
          go_wp2_with (first | (with_reducible_and_instances show wpList _ _ _ (⟨_, .load 41 (.tmp 19), _, _, _, _⟩ :: _) _ _; refine wpList_load_mid rfl _ _ rfl _ _ (by simp [go_sem]) [.int .i64 x.dmac, .int .i64 x.smac, .int .i64 x.vlan, .int .i64 x.tos, .int .i64 x.id, .int .i64 x.ttl, .int .i64 x.sip, .int .i64 x.dip, .int .i64 x.seg_kind, .int .i64 x.seg_sport, .int .i64 x.seg_dport, .int .i64 x.seg_seq, .int .i64 x.seg_ack, .int .i64 x.seg_flags, .int .i64 x.seg_win, .string x.seg_body] _ hR Try.underlying41 rfl infoZ_ip ?_) | (with_reducible_and_instances show wpList _ _ _ (⟨_, .store 41 (.tmp 11) (.tmp 20), _, _, _, _⟩ :: _) _ _; refine wpList_store_new (w := wr) (t := 41) (zs := [.int .i64 0, .int .i64 0, .int .i64 0, .int .i64 0, .int .i64 0, .int .i64 0, .int .i64 0, .int .i64 0, .int .i64 0, .int .i64 0, .int .i64 0, .int .i64 0, .int .i64 0, .int .i64 0, .int .i64 0, .string ⟨#[]⟩]) rfl _ _ _ rfl [.int .i64 x.dmac, .int .i64 x.smac, .int .i64 x.vlan, .int .i64 x.tos, .int .i64 x.id, .int .i64 x.ttl, .int .i64 x.sip, .int .i64 x.dip, .int .i64 x.seg_kind, .int .i64 x.seg_sport, .int .i64 x.seg_dport, .int .i64 x.seg_seq, .int .i64 x.seg_ack, .int .i64 x.seg_flags, .int .i64 x.seg_win, .string x.seg_body] (by simp [go_sem]) (by simp [go_sem]) rfl infoZ_ip (oneL x) ?_; intro W1 hkr hbW hs1; have kW : Below w.heap.size w W1 := ext_step hbw hsz hbW; have hbx := hbx.ext hbW; have s0 := hbx.at_ 0 _ rfl; have s1 := hbx.at_ 1 _ rfl; have s2 := hbx.at_ 2 _ rfl; have s3 := hbx.at_ 3 _ rfl; have hown := own_ext hown hbW; have hP := hkr.range; clear hR) | (with_reducible_and_instances show wpList _ _ _ (⟨_, .load 41 (.tmp 11), _, _, _, _⟩ :: _) _ _; refine wpList_load_mid rfl _ _ rfl _ _ (by simp [go_sem]) [.int .i64 x.dmac, .int .i64 x.smac, .int .i64 x.vlan, .int .i64 x.tos, .int .i64 x.id, .int .i64 x.ttl, .int .i64 x.sip, .int .i64 x.dip, .int .i64 x.seg_kind, .int .i64 x.seg_sport, .int .i64 x.seg_dport, .int .i64 x.seg_seq, .int .i64 x.seg_ack, .int .i64 x.seg_flags, .int .i64 x.seg_win, .string x.seg_body] _ hP Try.underlying41 rfl infoZ_ip ?_) | (go_at_call 8; refine (hst _ (hrr.to kW) (hrs.to kW) (hrt.to kW)).mono ?_; rintro e w2 ⟨rfl, hb2⟩; have k2 : Below w.heap.size w w2 := ext_step kW kW.size hb2; have hbx := hbx.ext hb2; have hown := own_ext hown hb2; have hP := range_ext hP hb2; have hs2 := hb2.size; clear hb2 s0 s1 s2 s3) | (with_reducible_and_instances show wpList _ _ _ (⟨_, .load 41 (.tmp 11), _, _, _, _⟩ :: _) _ _; refine wpList_load_mid rfl _ _ rfl _ _ (by simp [go_sem]) [.int .i64 x.dmac, .int .i64 x.smac, .int .i64 x.vlan, .int .i64 x.tos, .int .i64 x.id, .int .i64 x.ttl, .int .i64 x.sip, .int .i64 x.dip, .int .i64 x.seg_kind, .int .i64 x.seg_sport, .int .i64 x.seg_dport, .int .i64 x.seg_seq, .int .i64 x.seg_ack, .int .i64 x.seg_flags, .int .i64 x.seg_win, .string x.seg_body] _ hP Try.underlying41 rfl infoZ_ip ?_) | (at_builtin; refine wpList_append_own _ rfl _ _ 33 rfl (w.heap.size + 1) 41 i0 (.agg #[.int .i64 0, .int .i64 0, .int .i64 0, .int .i64 0, .int .i64 0, .int .i64 0, .int .i64 0, .int .i64 0, .int .i64 0, .int .i64 0, .int .i64 0, .int .i64 0, .int .i64 0, .int .i64 0, .int .i64 0, .string ByteArray.empty]) 16 136 Try.underlying33 hi hz0 hz1 hz2 rfl (by decide) _ _ _ rfl (hown.alloc _) ⟨w2.heap.size, 0, none⟩ 1 1 [.int .i64 x.dmac, .int .i64 x.smac, .int .i64 x.vlan, .int .i64 x.tos, .int .i64 x.id, .int .i64 x.ttl, .int .i64 x.sip, .int .i64 x.dip, .int .i64 x.seg_kind, .int .i64 x.seg_sport, .int .i64 x.seg_dport, .int .i64 x.seg_seq, .int .i64 x.seg_ack, .int .i64 x.seg_flags, .int .i64 x.seg_win, .string x.seg_body] rfl rfl (cells_new _ _ _) (oneL x) ?c3 ?c4 ?c5 ?_; (case c3 => (unfold maxLen; omega)); (case c4 => omega); (case c5 => (simp only [World.size_alloc]; omega)); intro v1 w5 hown1 hg1 hn1; have hb5 : Below w.heap.size w w5 := below_app (k2.alloc k2.size _) (own_base (hown.alloc _) (by omega)) hg1 (by simp only [World.size_alloc]; omega); have hbx := blk_grown (hbx.alloc _) hg1 (fun e => by have := (hown.lt _ e).1; omega); clear hn1 hg1))
          go_roundw
          obtain ⟨A5, c5, hv5, _⟩ := own_form hown1
          subst hv5
          case rel => exact ⟨k + 1, A5, c5, m + 1, by omega, by go_num, rfl, hb5, hbx, by rw [Hid, HF.out, List.length_append, ← hml.out]; rfl, by rw [HF.out, List.flatMap_append]; simpa [Packet.cells] using hown1⟩
          case measure => simp [intOf]; omega
        · rw [if_neg (by rw [hfx]; simpa using hq)] at hfn
          have HF := Lib.hid hfn
          have e1 : (I == qq) = false := by simpa using hq
          clear hfn hfx
          go_wp2_with (first | (with_reducible_and_instances show wpList _ _ _ (⟨_, .load 41 (.tmp 19), _, _, _, _⟩ :: _) _ _; refine wpList_load_mid rfl _ _ rfl _ _ (by simp [go_sem]) [.int .i64 x.dmac, .int .i64 x.smac, .int .i64 x.vlan, .int .i64 x.tos, .int .i64 x.id, .int .i64 x.ttl, .int .i64 x.sip, .int .i64 x.dip, .int .i64 x.seg_kind, .int .i64 x.seg_sport, .int .i64 x.seg_dport, .int .i64 x.seg_seq, .int .i64 x.seg_ack, .int .i64 x.seg_flags, .int .i64 x.seg_win, .string x.seg_body] _ hR Try.underlying41 rfl infoZ_ip ?_) | (with_reducible_and_instances show wpList _ _ _ (⟨_, .store 41 (.tmp 11) (.tmp 20), _, _, _, _⟩ :: _) _ _; refine wpList_store_new (w := wr) (t := 41) (zs := [.int .i64 0, .int .i64 0, .int .i64 0, .int .i64 0, .int .i64 0, .int .i64 0, .int .i64 0, .int .i64 0, .int .i64 0, .int .i64 0, .int .i64 0, .int .i64 0, .int .i64 0, .int .i64 0, .int .i64 0, .string ⟨#[]⟩]) rfl _ _ _ rfl [.int .i64 x.dmac, .int .i64 x.smac, .int .i64 x.vlan, .int .i64 x.tos, .int .i64 x.id, .int .i64 x.ttl, .int .i64 x.sip, .int .i64 x.dip, .int .i64 x.seg_kind, .int .i64 x.seg_sport, .int .i64 x.seg_dport, .int .i64 x.seg_seq, .int .i64 x.seg_ack, .int .i64 x.seg_flags, .int .i64 x.seg_win, .string x.seg_body] (by simp [go_sem]) (by simp [go_sem]) rfl infoZ_ip (oneL x) ?_; intro W1 hkr hbW hs1; have kW : Below w.heap.size w W1 := ext_step hbw hsz hbW; have hbx := hbx.ext hbW; have s0 := hbx.at_ 0 _ rfl; have s1 := hbx.at_ 1 _ rfl; have s2 := hbx.at_ 2 _ rfl; have s3 := hbx.at_ 3 _ rfl; have hown := own_ext hown hbW; have hP := hkr.range; clear hR) | (with_reducible_and_instances show wpList _ _ _ (⟨_, .load 41 (.tmp 11), _, _, _, _⟩ :: _) _ _; refine wpList_load_mid rfl _ _ rfl _ _ (by simp [go_sem]) [.int .i64 x.dmac, .int .i64 x.smac, .int .i64 x.vlan, .int .i64 x.tos, .int .i64 x.id, .int .i64 x.ttl, .int .i64 x.sip, .int .i64 x.dip, .int .i64 x.seg_kind, .int .i64 x.seg_sport, .int .i64 x.seg_dport, .int .i64 x.seg_seq, .int .i64 x.seg_ack, .int .i64 x.seg_flags, .int .i64 x.seg_win, .string x.seg_body] _ hP Try.underlying41 rfl infoZ_ip ?_) | (go_at_call 8; refine (hst _ (hrr.to kW) (hrs.to kW) (hrt.to kW)).mono ?_; rintro e w2 ⟨rfl, hb2⟩; have k2 : Below w.heap.size w w2 := ext_step kW kW.size hb2; have hbx := hbx.ext hb2; have hown := own_ext hown hb2; have hP := range_ext hP hb2; have hs2 := hb2.size; clear hb2 s0 s1 s2 s3))
          go_roundw
          case rel => exact ⟨k + 1, A', c', m, by omega, by go_num, rfl, k2, hbx, by rw [Hid, HF.out]; exact hml.out, by rw [HF.out]; exact hown⟩
          case measure => simp [intOf]; omega
      · have hkn : k = n := by omega
        subst hkn
        rw [List.take_of_length_le (by rw [HN.out]; exact Nat.le_refl _)] at hml hown
        go_wp2
        go_ret
        have hL : qpL rs l key tb q qq lp = lp.filter (qpF rs l key tb q qq) := if_pos hq0
        rw [hL, ← hml.out]
        exact ⟨A', c', rfl, own_base hown (by omega), hbw⟩
  · have hq1 : qq < 0 := by omega
    go_enter Try.func7, Try.ntmps7
    go_wp2
    go_ret
    rw [show qpL rs l key tb q qq lp = [] from if_neg (by omega)]
    exact ⟨none, 0, rfl, own_nil _ _ _ _, by go_grown⟩
end Go.Proofs.Ytkfekgmdjemkbaa
