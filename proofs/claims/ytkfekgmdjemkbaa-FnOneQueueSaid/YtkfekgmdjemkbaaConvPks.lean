/- Contracts of the laws' helpers on lists of packets: sz, to, eq. -/
import Derived.Test.YtkfekgmdjemkbaaWhole
import Derived.Test.YtkfekgmdjemkbaaConvPkt
namespace Go.Proofs.Ytkfekgmdjemkbaa
set_option linter.unusedSimpArgs false
set_option linter.unusedVariables false
open Go.RowKit Go.ChangeShapes Go.WideShapes
theorem infoZ_ip : (Try.prog.info? 41).map (·.size) = some 16 := by kernel_rfl
/-- What is left behind the packets' texts; -1: too little. -/
def szPk : List Packet → Int → Int
  | [], left => left
  | p :: ps, left => if (p.seg_body.size : Int) ≤ left then szPk ps (left - p.seg_body.size) else -1
theorem szPk_le : ∀ (l : List Packet) (left : Int), 0 ≤ left → szPk l left ≤ left ∧ -1 ≤ szPk l left
  | [], left, h => by simp only [szPk]; omega
  | p :: ps, left, h => by
    rw [szPk]; split
    · have := szPk_le ps (left - p.seg_body.size) (by omega); omega
    · omega
theorem szPk_el : ∀ {l : List Packet} {left : Int}, 0 ≤ left → 0 ≤ szPk l left → ∀ p ∈ l, (p.seg_body.size : Int) ≤ left
  | [], _, _, _, p, hp => by cases hp
  | q :: ps, left, h0, h, p, hp => by
    rw [szPk] at h
    split at h
    · rcases List.mem_cons.1 hp with rfl | hp
      · assumption
      · have := szPk_el (l := ps) (left := left - q.seg_body.size) (by omega) h p hp; omega
    · omega
theorem info_Packet : (Try.prog.info? 41).map (fun i => (i.zero, i.size, i.bytes)) = some (some (.agg #[.int .i64 0, .int .i64 0, .int .i64 0, .int .i64 0, .int .i64 0, .int .i64 0, .int .i64 0, .int .i64 0, .int .i64 0, .int .i64 0, .int .i64 0, .int .i64 0, .int .i64 0, .int .i64 0, .int .i64 0, .string ByteArray.empty]), 16, 136) := by kernel_rfl
theorem there16 {w : World} {g o : Nat} {t : TypeId} {cs : List Value} (h : Blk w g t cs) (ho : o + 16 ≤ cs.length) (x : Packet) : w.there g o (#[.int .i64 x.dmac, .int .i64 x.smac, .int .i64 x.vlan, .int .i64 x.tos, .int .i64 x.id, .int .i64 x.ttl, .int .i64 x.sip, .int .i64 x.dip, .int .i64 x.seg_kind, .int .i64 x.seg_sport, .int .i64 x.seg_dport, .int .i64 x.seg_seq, .int .i64 x.seg_ack, .int .i64 x.seg_flags, .int .i64 x.seg_win, .string x.seg_body] : Array Value).size := by
  rw [show (#[.int .i64 x.dmac, .int .i64 x.smac, .int .i64 x.vlan, .int .i64 x.tos, .int .i64 x.id, .int .i64 x.ttl, .int .i64 x.sip, .int .i64 x.dip, .int .i64 x.seg_kind, .int .i64 x.seg_sport, .int .i64 x.seg_dport, .int .i64 x.seg_seq, .int .i64 x.seg_ack, .int .i64 x.seg_flags, .int .i64 x.seg_win, .string x.seg_body] : Array Value).size = 16 from rfl]
  exact h.there_at o 16 ho
theorem infoS_ip (x : Packet) : (Try.prog.info? 41).map (·.size) = some (#[.int .i64 x.dmac, .int .i64 x.smac, .int .i64 x.vlan, .int .i64 x.tos, .int .i64 x.id, .int .i64 x.ttl, .int .i64 x.sip, .int .i64 x.dip, .int .i64 x.seg_kind, .int .i64 x.seg_sport, .int .i64 x.seg_dport, .int .i64 x.seg_seq, .int .i64 x.seg_ack, .int .i64 x.seg_flags, .int .i64 x.seg_win, .string x.seg_body] : Array Value).size := by
  rw [show (#[.int .i64 x.dmac, .int .i64 x.smac, .int .i64 x.vlan, .int .i64 x.tos, .int .i64 x.id, .int .i64 x.ttl, .int .i64 x.sip, .int .i64 x.dip, .int .i64 x.seg_kind, .int .i64 x.seg_sport, .int .i64 x.seg_dport, .int .i64 x.seg_seq, .int .i64 x.seg_ack, .int .i64 x.seg_flags, .int .i64 x.seg_win, .string x.seg_body] : Array Value).size = 16 from rfl]
  exact infoZ_ip
theorem oneP (x : Packet) : (#[.int .i64 x.dmac, .int .i64 x.smac, .int .i64 x.vlan, .int .i64 x.tos, .int .i64 x.id, .int .i64 x.ttl, .int .i64 x.sip, .int .i64 x.dip, .int .i64 x.seg_kind, .int .i64 x.seg_sport, .int .i64 x.seg_dport, .int .i64 x.seg_seq, .int .i64 x.seg_ack, .int .i64 x.seg_flags, .int .i64 x.seg_win, .string x.seg_body] : Array Value).all (·.oneCell') = true := by simp [Value.oneCell']
end Go.Proofs.Ytkfekgmdjemkbaa
