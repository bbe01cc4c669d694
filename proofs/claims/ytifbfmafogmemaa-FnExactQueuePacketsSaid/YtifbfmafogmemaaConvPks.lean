/- Contracts of the laws' helpers on lists of packets: sz, to, eq. -/
import Derived.Test.YtifbfmafogmemaaWhole
import Derived.Test.YtifbfmafogmemaaConvPkt
namespace Go.Proofs.Ytifbfmafogmemaa
set_option linter.unusedSimpArgs false
set_option linter.unusedVariables false
open Go.RowKit Go.ChangeShapes Go.WideShapes
theorem infoZ_lp : (Try.prog.info? 25).map (·.size) = some 16 := by kernel_rfl
theorem infoZ_ip : (Try.prog.info? 31).map (·.size) = some 16 := by kernel_rfl
/-- What is left behind the packets' texts; -1: too little. -/
def szPk : List Packet → Int → Int
  | [], left => left
  | p :: ps, left => if (p.seg_body.size : Int) ≤ left then szPk ps (left - p.seg_body.size) else -1
theorem szPk_le : ∀ (l : List Packet) (left : Int), 0 ≤ left → szPk l left ≤ left ∧ -1 ≤ szPk l left
  | [], left, h => by simp only [szPk]; omega
  | p :: ps, left, h => by
    rw [szPk]; split
    · have := szPk_le ps (left - p.seg_body.size) (by omega); omega
    · omega
theorem szPk_el : ∀ {l : List Packet} {left : Int}, 0 ≤ left → 0 ≤ szPk l left → ∀ p ∈ l, (p.seg_body.size : Int) ≤ left
  | [], _, _, _, p, hp => by cases hp
  | q :: ps, left, h0, h, p, hp => by
    rw [szPk] at h
    split at h
    · rcases List.mem_cons.1 hp with rfl | hp
      · assumption
      · have := szPk_el (l := ps) (left := left - q.seg_body.size) (by omega) h p hp; omega
    · omega
set_option maxRecDepth 100000 in
set_option maxHeartbeats 4000000 in
theorem szPacketS_c (A : Option Addr) (n c : Nat) (l : List Packet) (w : World) (hn : l.length = n) (hm : n ≤ 9223372036854775807) (hr : Reads w w.heap.size 16 A n (l.flatMap Packet.cells)) (hb : ∀ x ∈ l, x.seg_body.size ≤ maxLen) (left : Int) (h0 : 0 ≤ left) (h1 : left ≤ 1048576) :
    Calls Try.prog 34 #[.slice A n c, .int .i64 left] w fun e w' => e = .returned (.int .i64 (if left - n < 0 then -1 else szPk l (left - n))) ∧ Below w.heap.size w w' := by
  have HN := Lib.hid hn
  clear hn
  by_cases h : left - n < 0
  · rw [if_pos h]
    go_enter Try.func34, Try.ntmps34
    go_wp2
    go_ret
    exact ⟨rfl, by go_grown⟩
  · rw [if_neg h]
    obtain ⟨L0, hL0⟩ : ∃ L, left - (n : Int) = L := ⟨_, rfl⟩
    have hl0 : 0 ≤ L0 := by omega
    have hl1 : L0 ≤ 1048576 := by omega
    rw [hL0]
    go_enter Try.func34, Try.ntmps34
    go_wp2
    go_loopw [1, 5] (fun lf i wr => ∃ (k : Nat) (lv : Int), k ≤ n ∧ i = .int .i64 k ∧ lf = .int .i64 lv ∧ Below w.heap.size w wr ∧ Hid (0 ≤ lv ∧ lv ≤ 1048576) ∧ Hid (szPk (l.drop k) lv = szPk l L0)) (fun _ i _ => n - (intOf i).toNat)
    case atStart => exact ⟨0, L0, Nat.zero_le _, rfl, rfl, by first | exact Below.refl _ _ | go_grown, ⟨by omega, by omega⟩, rfl⟩
    case round =>
      obtain ⟨k, lv, hk, rfl, rfl, hbw, hlv, hsz⟩ := hrel
      have hsw := hbw.size
      by_cases hlt : k < n
      · obtain ⟨b, o, x, rfl, hbl, hx, hc⟩ := hr.el (fun _ => rfl) (by decide) HN.out hlt
        have hR : wr.rangeAt b (o + k * 16) [.int .i64 x.dmac, .int .i64 x.smac, .int .i64 x.vlan, .int .i64 x.tos, .int .i64 x.id, .int .i64 x.ttl, .int .i64 x.sip, .int .i64 x.dip, .int .i64 x.seg_kind, .int .i64 x.seg_sport, .int .i64 x.seg_dport, .int .i64 x.seg_seq, .int .i64 x.seg_ack, .int .i64 x.seg_flags, .int .i64 x.seg_win, .string x.seg_body] := range_below hc hbw hbl
        have hxb := hb x (List.mem_of_getElem? hx)
        have hdr : l.drop k = x :: l.drop (k + 1) := by
          obtain ⟨h1, h2⟩ := List.getElem?_eq_some_iff.1 hx
          rw [List.drop_eq_getElem_cons h1, h2]
        have hS := hsz.out
        rw [hdr, szPk] at hS
        have hz := fun u => szPacket_c x lv u hxb hlv.out.1 hlv.out.2
        by_cases hc2 : (x.seg_body.size : Int) ≤ lv
        · simp only [if_pos hc2] at hz hS
          have hnn : ¬ lv - (x.seg_body.size : Int) < 0 := by omega
          have HS := Lib.hid hS
          have HL : Hid (0 ≤ lv - (x.seg_body.size : Int) ∧ lv - (x.seg_body.size : Int) ≤ 1048576) := ⟨by omega, by have := hlv.out.2; omega⟩
          clear hS hdr hx hc
          go_wp2_with (first | (with_reducible_and_instances show wpList _ _ _ (⟨_, .load 25 (.tmp 20), _, _, _, _⟩ :: _) _ _; refine wpList_load_mid rfl _ _ rfl _ _ rfl [.int .i64 x.dmac, .int .i64 x.smac, .int .i64 x.vlan, .int .i64 x.tos, .int .i64 x.id, .int .i64 x.ttl, .int .i64 x.sip, .int .i64 x.dip, .int .i64 x.seg_kind, .int .i64 x.seg_sport, .int .i64 x.seg_dport, .int .i64 x.seg_seq, .int .i64 x.seg_ack, .int .i64 x.seg_flags, .int .i64 x.seg_win, .string x.seg_body] _ hR Try.underlying25 rfl infoZ_lp ?_) | (go_at_call 11; refine (hz _).mono ?_; rintro e w1 ⟨rfl, hb1⟩; have hk1 : Below w.heap.size w w1 := ext_step hbw hsw hb1; clear hb1))
          go_roundw
          case rel => exact ⟨k + 1, _, by omega, by go_num, rfl, hk1, HL, HS⟩
          case measure => simp [intOf]; omega
        · simp only [if_neg hc2] at hz hS
          have HS := Lib.hid hS
          clear hS hdr hx hc
          go_wp2_with (first | (with_reducible_and_instances show wpList _ _ _ (⟨_, .load 25 (.tmp 20), _, _, _, _⟩ :: _) _ _; refine wpList_load_mid rfl _ _ rfl _ _ rfl [.int .i64 x.dmac, .int .i64 x.smac, .int .i64 x.vlan, .int .i64 x.tos, .int .i64 x.id, .int .i64 x.ttl, .int .i64 x.sip, .int .i64 x.dip, .int .i64 x.seg_kind, .int .i64 x.seg_sport, .int .i64 x.seg_dport, .int .i64 x.seg_seq, .int .i64 x.seg_ack, .int .i64 x.seg_flags, .int .i64 x.seg_win, .string x.seg_body] _ hR Try.underlying25 rfl infoZ_lp ?_) | (go_at_call 11; refine (hz _).mono ?_; rintro e w1 ⟨rfl, hb1⟩; have hk1 : Below w.heap.size w w1 := ext_step hbw hsw hb1; clear hb1))
          go_ret
          exact ⟨ret_int HS.out, hk1⟩
      · have hkn : k = n := by omega
        subst hkn
        have hS := hsz.out
        rw [List.drop_of_length_le (by rw [HN.out]; exact Nat.le_refl _), szPk] at hS
        have HS := Lib.hid hS
        clear hS
        go_wp2
        go_ret
        exact ⟨ret_int HS.out, hbw⟩
theorem info_Packet : (Try.prog.info? 31).map (fun i => (i.zero, i.size, i.bytes)) = some (some (.agg #[.int .i64 0, .int .i64 0, .int .i64 0, .int .i64 0, .int .i64 0, .int .i64 0, .int .i64 0, .int .i64 0, .int .i64 0, .int .i64 0, .int .i64 0, .int .i64 0, .int .i64 0, .int .i64 0, .int .i64 0, .string ByteArray.empty]), 16, 136) := by kernel_rfl
theorem there16 {w : World} {g o : Nat} {t : TypeId} {cs : List Value} (h : Blk w g t cs) (ho : o + 16 ≤ cs.length) (x : Packet) : w.there g o (#[.int .i64 x.dmac, .int .i64 x.smac, .int .i64 x.vlan, .int .i64 x.tos, .int .i64 x.id, .int .i64 x.ttl, .int .i64 x.sip, .int .i64 x.dip, .int .i64 x.seg_kind, .int .i64 x.seg_sport, .int .i64 x.seg_dport, .int .i64 x.seg_seq, .int .i64 x.seg_ack, .int .i64 x.seg_flags, .int .i64 x.seg_win, .string x.seg_body] : Array Value).size := by
  rw [show (#[.int .i64 x.dmac, .int .i64 x.smac, .int .i64 x.vlan, .int .i64 x.tos, .int .i64 x.id, .int .i64 x.ttl, .int .i64 x.sip, .int .i64 x.dip, .int .i64 x.seg_kind, .int .i64 x.seg_sport, .int .i64 x.seg_dport, .int .i64 x.seg_seq, .int .i64 x.seg_ack, .int .i64 x.seg_flags, .int .i64 x.seg_win, .string x.seg_body] : Array Value).size = 16 from rfl]
  exact h.there_at o 16 ho
theorem infoS_ip (x : Packet) : (Try.prog.info? 31).map (·.size) = some (#[.int .i64 x.dmac, .int .i64 x.smac, .int .i64 x.vlan, .int .i64 x.tos, .int .i64 x.id, .int .i64 x.ttl, .int .i64 x.sip, .int .i64 x.dip, .int .i64 x.seg_kind, .int .i64 x.seg_sport, .int .i64 x.seg_dport, .int .i64 x.seg_seq, .int .i64 x.seg_ack, .int .i64 x.seg_flags, .int .i64 x.seg_win, .string x.seg_body] : Array Value).size := by
  rw [show (#[.int .i64 x.dmac, .int .i64 x.smac, .int .i64 x.vlan, .int .i64 x.tos, .int .i64 x.id, .int .i64 x.ttl, .int .i64 x.sip, .int .i64 x.dip, .int .i64 x.seg_kind, .int .i64 x.seg_sport, .int .i64 x.seg_dport, .int .i64 x.seg_seq, .int .i64 x.seg_ack, .int .i64 x.seg_flags, .int .i64 x.seg_win, .string x.seg_body] : Array Value).size = 16 from rfl]
  exact infoZ_ip
theorem oneP (x : Packet) : (#[.int .i64 x.dmac, .int .i64 x.smac, .int .i64 x.vlan, .int .i64 x.tos, .int .i64 x.id, .int .i64 x.ttl, .int .i64 x.sip, .int .i64 x.dip, .int .i64 x.seg_kind, .int .i64 x.seg_sport, .int .i64 x.seg_dport, .int .i64 x.seg_seq, .int .i64 x.seg_ack, .int .i64 x.seg_flags, .int .i64 x.seg_win, .string x.seg_body] : Array Value).all (·.oneCell') = true := by simp [Value.oneCell']
set_option maxRecDepth 100000 in
set_option maxHeartbeats 400000 in
/-- A slice of packets that came in is copied into a row of the call's own. -/
theorem toPacketS_c (A : Option Addr) (n c : Nat) (l : List Packet) (w : World) (hn : l.length = n) (hm : n ≤ 1048576) (hr : Reads w w.heap.size 16 A n (l.flatMap Packet.cells)) :
    Calls Try.prog 36 #[.slice A n c] w fun e w' => ∃ g, e = .returned (.slice (some ⟨g, 0, none⟩) n n) ∧ w.heap.size ≤ g ∧ Blk w' g 31 (l.flatMap Packet.cells) ∧ Below w.heap.size w w' := by
  obtain ⟨i0, hi, hz0, hz1, hz2⟩ := info_parts info_Packet
  have hmk := fun W => run_make_rowN (P := Try.prog) 74 31 i0 _ 16 136 Try.underlying74 hi hz0 hz1 hz2 n n (Nat.le_refl _) (by omega) (by omega) W
  have HN := Lib.hid hn
  clear hn hi hz0 hz1 hz2
  have hsz0 := madeCells_len (.agg #[.int .i64 0, .int .i64 0, .int .i64 0, .int .i64 0, .int .i64 0, .int .i64 0, .int .i64 0, .int .i64 0, .int .i64 0, .int .i64 0, .int .i64 0, .int .i64 0, .int .i64 0, .int .i64 0, .int .i64 0, .string ByteArray.empty] : Value).cells (n * 16)
  have HZ := Lib.hid hsz0
  generalize (madeCells (.agg #[.int .i64 0, .int .i64 0, .int .i64 0, .int .i64 0, .int .i64 0, .int .i64 0, .int .i64 0, .int .i64 0, .int .i64 0, .int .i64 0, .int .i64 0, .int .i64 0, .int .i64 0, .int .i64 0, .int .i64 0, .string ByteArray.empty] : Value).cells (n * 16)).toList = z at *
  clear hsz0
  go_enter Try.func36, Try.ntmps36
  go_wp2
  go_loopw [4] (fun i wr => ∃ k : Nat, ∃ cs : List Value, k ≤ n ∧ i = .int .i64 k ∧ Below w.heap.size w wr ∧ Blk wr w.heap.size 31 cs ∧ Hid (cs.length = n * 16) ∧ Hid (cs.take (k * 16) = (l.take k).flatMap Packet.cells)) (fun i _ => n - (intOf i).toNat)
  case atStart => exact ⟨0, z, Nat.zero_le _, rfl, by go_grown, Blk.new _ _ _, HZ, by simp [Hid]⟩
  case round =>
    obtain ⟨k, cs, hk, rfl, hbw, hblk, hcl, htk⟩ := hrel
    have hsz := hbw.size
    have hgl := hblk.lt
    by_cases hlt : k < n
    · obtain ⟨b, o, x, rfl, hbl, hx, hc⟩ := hr.el (fun _ => rfl) (by decide) HN.out hlt
      have hR : wr.rangeAt b (o + k * 16) [.int .i64 x.dmac, .int .i64 x.smac, .int .i64 x.vlan, .int .i64 x.tos, .int .i64 x.id, .int .i64 x.ttl, .int .i64 x.sip, .int .i64 x.dip, .int .i64 x.seg_kind, .int .i64 x.seg_sport, .int .i64 x.seg_dport, .int .i64 x.seg_seq, .int .i64 x.seg_ack, .int .i64 x.seg_flags, .int .i64 x.seg_win, .string x.seg_body] := range_below hc hbw hbl
      have HXx := Lib.hid hx
      clear hx hc
      have hl16 : k * 16 + 16 ≤ cs.length := by rw [hcl.out]; have := Nat.mul_le_mul_right 16 (show k + 1 ≤ n by omega); omega
      go_wp2_with (first | (with_reducible_and_instances show wpList _ _ _ (⟨_, .load 25 (.tmp 18), _, _, _, _⟩ :: _) _ _; refine wpList_load_mid rfl _ _ rfl _ _ rfl [.int .i64 x.dmac, .int .i64 x.smac, .int .i64 x.vlan, .int .i64 x.tos, .int .i64 x.id, .int .i64 x.ttl, .int .i64 x.sip, .int .i64 x.dip, .int .i64 x.seg_kind, .int .i64 x.seg_sport, .int .i64 x.seg_dport, .int .i64 x.seg_seq, .int .i64 x.seg_ack, .int .i64 x.seg_flags, .int .i64 x.seg_win, .string x.seg_body] _ hR Try.underlying25 rfl infoZ_lp ?_) | (go_at_call 13; refine (toPacket_c x _).mono ?_; rintro e w1 ⟨rfl, hb1⟩; have hk1 : Below w.heap.size w w1 := ext_step hbw hsz hb1; have hbk := hblk.ext hb1; clear hb1 hR) | (with_reducible_and_instances show wpList _ _ _ (⟨_, .store 31 (.tmp 21) (.tmp 20), _, _, _, _⟩ :: _) _ _; refine wpList_store_mid rfl _ _ _ rfl w.heap.size (k * 16) #[.int .i64 x.dmac, .int .i64 x.smac, .int .i64 x.vlan, .int .i64 x.tos, .int .i64 x.id, .int .i64 x.ttl, .int .i64 x.sip, .int .i64 x.dip, .int .i64 x.seg_kind, .int .i64 x.seg_sport, .int .i64 x.seg_dport, .int .i64 x.seg_seq, .int .i64 x.seg_ack, .int .i64 x.seg_flags, .int .i64 x.seg_win, .string x.seg_body] rfl rfl (there16 hbk hl16 x) (infoS_ip x) (oneP x) ?_))
      go_roundw
      case rel => exact ⟨k + 1, setsAt cs (k * 16) x.cells, by omega, by go_num, below_setCells (Nat.le_refl _) _ _ hk1, hbk.setCells _ _, by rw [Hid, setsAt_len]; exact hcl.out, take_elem (cells := Packet.cells) (fun _ => rfl) HXx.out hcl.out hlt htk.out⟩
      case measure => simp [intOf]; omega
    · go_wp2
      go_ret
      refine ⟨_, rfl, Nat.le_refl _, ?_, hbw⟩
      have h1 := htk.out
      rw [take_all HN.out hlt, List.take_of_length_le (by rw [hcl.out]; exact Nat.mul_le_mul_right _ (by omega))] at h1
      rw [← h1]
      exact hblk
set_option maxRecDepth 100000 in
set_option maxHeartbeats 2000000 in
theorem eqSegment_c (kind : Int) (sport : Int) (dport : Int) (seq : Int) (ack : Int) (flags : Int) (win : Int) (body : ByteArray) (w : World) :
    Calls Try.prog 166 #[.agg #[.int .i64 kind, .int .i64 sport, .int .i64 dport, .int .i64 seq, .int .i64 ack, .int .i64 flags, .int .i64 win, .string body], .agg #[.int .i64 kind, .int .i64 sport, .int .i64 dport, .int .i64 seq, .int .i64 ack, .int .i64 flags, .int .i64 win, .string body]] w fun e w' => e = .returned (.bool true) ∧ Below w.heap.size w w' := by
  go_enter Try.func166, Try.ntmps166
  go_wp2
  go_ret
  exact ⟨rfl, by go_grown⟩
set_option maxRecDepth 100000 in
set_option maxHeartbeats 4000000 in
theorem eqPacket_c (p : Packet) (w : World) :
    Calls Try.prog 107 #[.agg #[.int .i64 p.dmac, .int .i64 p.smac, .int .i64 p.vlan, .int .i64 p.tos, .int .i64 p.id, .int .i64 p.ttl, .int .i64 p.sip, .int .i64 p.dip, .int .i64 p.seg_kind, .int .i64 p.seg_sport, .int .i64 p.seg_dport, .int .i64 p.seg_seq, .int .i64 p.seg_ack, .int .i64 p.seg_flags, .int .i64 p.seg_win, .string p.seg_body], .agg #[.int .i64 p.dmac, .int .i64 p.smac, .int .i64 p.vlan, .int .i64 p.tos, .int .i64 p.id, .int .i64 p.ttl, .int .i64 p.sip, .int .i64 p.dip, .int .i64 p.seg_kind, .int .i64 p.seg_sport, .int .i64 p.seg_dport, .int .i64 p.seg_seq, .int .i64 p.seg_ack, .int .i64 p.seg_flags, .int .i64 p.seg_win, .string p.seg_body]] w fun e w' => e = .returned (.bool true) ∧ Below w.heap.size w w' := by
  go_enter Try.func107, Try.ntmps107
  go_wp2_with fail
  have k0 : Below w.heap.size w ((w.alloc (.cells #[.int .i64 p.dmac, .int .i64 p.smac, .int .i64 p.vlan, .int .i64 p.tos, .int .i64 p.id, .int .i64 p.ttl, .int .i64 p.sip, .int .i64 p.dip, .int .i64 p.seg_kind, .int .i64 p.seg_sport, .int .i64 p.seg_dport, .int .i64 p.seg_seq, .int .i64 p.seg_ack, .int .i64 p.seg_flags, .int .i64 p.seg_win, .string p.seg_body] 31)).alloc (.cells #[.int .i64 p.dmac, .int .i64 p.smac, .int .i64 p.vlan, .int .i64 p.tos, .int .i64 p.id, .int .i64 p.ttl, .int .i64 p.sip, .int .i64 p.dip, .int .i64 p.seg_kind, .int .i64 p.seg_sport, .int .i64 p.seg_dport, .int .i64 p.seg_seq, .int .i64 p.seg_ack, .int .i64 p.seg_flags, .int .i64 p.seg_win, .string p.seg_body] 31)) := by go_grown
  have bl0 : w.heap.size < ((w.alloc (.cells #[.int .i64 p.dmac, .int .i64 p.smac, .int .i64 p.vlan, .int .i64 p.tos, .int .i64 p.id, .int .i64 p.ttl, .int .i64 p.sip, .int .i64 p.dip, .int .i64 p.seg_kind, .int .i64 p.seg_sport, .int .i64 p.seg_dport, .int .i64 p.seg_seq, .int .i64 p.seg_ack, .int .i64 p.seg_flags, .int .i64 p.seg_win, .string p.seg_body] 31)).alloc (.cells #[.int .i64 p.dmac, .int .i64 p.smac, .int .i64 p.vlan, .int .i64 p.tos, .int .i64 p.id, .int .i64 p.ttl, .int .i64 p.sip, .int .i64 p.dip, .int .i64 p.seg_kind, .int .i64 p.seg_sport, .int .i64 p.seg_dport, .int .i64 p.seg_seq, .int .i64 p.seg_ack, .int .i64 p.seg_flags, .int .i64 p.seg_win, .string p.seg_body] 31)).heap.size := by go_size
  have hk0 : Blk ((w.alloc (.cells #[.int .i64 p.dmac, .int .i64 p.smac, .int .i64 p.vlan, .int .i64 p.tos, .int .i64 p.id, .int .i64 p.ttl, .int .i64 p.sip, .int .i64 p.dip, .int .i64 p.seg_kind, .int .i64 p.seg_sport, .int .i64 p.seg_dport, .int .i64 p.seg_seq, .int .i64 p.seg_ack, .int .i64 p.seg_flags, .int .i64 p.seg_win, .string p.seg_body] 31)).alloc (.cells #[.int .i64 p.dmac, .int .i64 p.smac, .int .i64 p.vlan, .int .i64 p.tos, .int .i64 p.id, .int .i64 p.ttl, .int .i64 p.sip, .int .i64 p.dip, .int .i64 p.seg_kind, .int .i64 p.seg_sport, .int .i64 p.seg_dport, .int .i64 p.seg_seq, .int .i64 p.seg_ack, .int .i64 p.seg_flags, .int .i64 p.seg_win, .string p.seg_body] 31)) (w.heap.size) 31 [.int .i64 p.dmac, .int .i64 p.smac, .int .i64 p.vlan, .int .i64 p.tos, .int .i64 p.id, .int .i64 p.ttl, .int .i64 p.sip, .int .i64 p.dip, .int .i64 p.seg_kind, .int .i64 p.seg_sport, .int .i64 p.seg_dport, .int .i64 p.seg_seq, .int .i64 p.seg_ack, .int .i64 p.seg_flags, .int .i64 p.seg_win, .string p.seg_body] := by simpa using (Blk.new w 31 [.int .i64 p.dmac, .int .i64 p.smac, .int .i64 p.vlan, .int .i64 p.tos, .int .i64 p.id, .int .i64 p.ttl, .int .i64 p.sip, .int .i64 p.dip, .int .i64 p.seg_kind, .int .i64 p.seg_sport, .int .i64 p.seg_dport, .int .i64 p.seg_seq, .int .i64 p.seg_ack, .int .i64 p.seg_flags, .int .i64 p.seg_win, .string p.seg_body]).alloc (.cells #[.int .i64 p.dmac, .int .i64 p.smac, .int .i64 p.vlan, .int .i64 p.tos, .int .i64 p.id, .int .i64 p.ttl, .int .i64 p.sip, .int .i64 p.dip, .int .i64 p.seg_kind, .int .i64 p.seg_sport, .int .i64 p.seg_dport, .int .i64 p.seg_seq, .int .i64 p.seg_ack, .int .i64 p.seg_flags, .int .i64 p.seg_win, .string p.seg_body] 31)
  have bl1 : w.heap.size + 1 < ((w.alloc (.cells #[.int .i64 p.dmac, .int .i64 p.smac, .int .i64 p.vlan, .int .i64 p.tos, .int .i64 p.id, .int .i64 p.ttl, .int .i64 p.sip, .int .i64 p.dip, .int .i64 p.seg_kind, .int .i64 p.seg_sport, .int .i64 p.seg_dport, .int .i64 p.seg_seq, .int .i64 p.seg_ack, .int .i64 p.seg_flags, .int .i64 p.seg_win, .string p.seg_body] 31)).alloc (.cells #[.int .i64 p.dmac, .int .i64 p.smac, .int .i64 p.vlan, .int .i64 p.tos, .int .i64 p.id, .int .i64 p.ttl, .int .i64 p.sip, .int .i64 p.dip, .int .i64 p.seg_kind, .int .i64 p.seg_sport, .int .i64 p.seg_dport, .int .i64 p.seg_seq, .int .i64 p.seg_ack, .int .i64 p.seg_flags, .int .i64 p.seg_win, .string p.seg_body] 31)).heap.size := by go_size
  have hk1 : Blk ((w.alloc (.cells #[.int .i64 p.dmac, .int .i64 p.smac, .int .i64 p.vlan, .int .i64 p.tos, .int .i64 p.id, .int .i64 p.ttl, .int .i64 p.sip, .int .i64 p.dip, .int .i64 p.seg_kind, .int .i64 p.seg_sport, .int .i64 p.seg_dport, .int .i64 p.seg_seq, .int .i64 p.seg_ack, .int .i64 p.seg_flags, .int .i64 p.seg_win, .string p.seg_body] 31)).alloc (.cells #[.int .i64 p.dmac, .int .i64 p.smac, .int .i64 p.vlan, .int .i64 p.tos, .int .i64 p.id, .int .i64 p.ttl, .int .i64 p.sip, .int .i64 p.dip, .int .i64 p.seg_kind, .int .i64 p.seg_sport, .int .i64 p.seg_dport, .int .i64 p.seg_seq, .int .i64 p.seg_ack, .int .i64 p.seg_flags, .int .i64 p.seg_win, .string p.seg_body] 31)) (w.heap.size + 1) 31 [.int .i64 p.dmac, .int .i64 p.smac, .int .i64 p.vlan, .int .i64 p.tos, .int .i64 p.id, .int .i64 p.ttl, .int .i64 p.sip, .int .i64 p.dip, .int .i64 p.seg_kind, .int .i64 p.seg_sport, .int .i64 p.seg_dport, .int .i64 p.seg_seq, .int .i64 p.seg_ack, .int .i64 p.seg_flags, .int .i64 p.seg_win, .string p.seg_body] := by simpa using Blk.new (w.alloc (.cells #[.int .i64 p.dmac, .int .i64 p.smac, .int .i64 p.vlan, .int .i64 p.tos, .int .i64 p.id, .int .i64 p.ttl, .int .i64 p.sip, .int .i64 p.dip, .int .i64 p.seg_kind, .int .i64 p.seg_sport, .int .i64 p.seg_dport, .int .i64 p.seg_seq, .int .i64 p.seg_ack, .int .i64 p.seg_flags, .int .i64 p.seg_win, .string p.seg_body] 31)) 31 [.int .i64 p.dmac, .int .i64 p.smac, .int .i64 p.vlan, .int .i64 p.tos, .int .i64 p.id, .int .i64 p.ttl, .int .i64 p.sip, .int .i64 p.dip, .int .i64 p.seg_kind, .int .i64 p.seg_sport, .int .i64 p.seg_dport, .int .i64 p.seg_seq, .int .i64 p.seg_ack, .int .i64 p.seg_flags, .int .i64 p.seg_win, .string p.seg_body]
  have p0 := k0.size
  generalize hW0 : ((w.alloc (.cells #[.int .i64 p.dmac, .int .i64 p.smac, .int .i64 p.vlan, .int .i64 p.tos, .int .i64 p.id, .int .i64 p.ttl, .int .i64 p.sip, .int .i64 p.dip, .int .i64 p.seg_kind, .int .i64 p.seg_sport, .int .i64 p.seg_dport, .int .i64 p.seg_seq, .int .i64 p.seg_ack, .int .i64 p.seg_flags, .int .i64 p.seg_win, .string p.seg_body] 31)).alloc (.cells #[.int .i64 p.dmac, .int .i64 p.smac, .int .i64 p.vlan, .int .i64 p.tos, .int .i64 p.id, .int .i64 p.ttl, .int .i64 p.sip, .int .i64 p.dip, .int .i64 p.seg_kind, .int .i64 p.seg_sport, .int .i64 p.seg_dport, .int .i64 p.seg_seq, .int .i64 p.seg_ack, .int .i64 p.seg_flags, .int .i64 p.seg_win, .string p.seg_body] 31)) = w0 at *
  clear hW0
  refine (eqSegment_c p.seg_kind p.seg_sport p.seg_dport p.seg_seq p.seg_ack p.seg_flags p.seg_win p.seg_body _).mono ?_
  rintro e w1 ⟨rfl, hb⟩
  have k1 : Below w.heap.size w w1 := ext_step k0 (by omega) hb
  have p1 := hb.size
  replace hk0 := hk0.ext hb
  replace hk1 := hk1.ext hb
  have bl0 := Nat.lt_of_lt_of_le bl0 hb.size
  have bl1 := Nat.lt_of_lt_of_le bl1 hb.size
  clear hb
  go_wp2
  go_ret
  exact ⟨rfl, k1⟩
end Go.Proofs.Ytifbfmafogmemaa
