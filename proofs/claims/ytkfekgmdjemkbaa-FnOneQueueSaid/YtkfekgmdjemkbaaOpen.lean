/- What a reading of each parameter's cells gives: structs and slices that come in. Printed by wip/gen/open.py. -/
import Derived.Test.YtkfekgmdjemkbaaMem
namespace Go.Proofs.Ytkfekgmdjemkbaa
set_option linter.unusedSimpArgs false
set_option linter.unusedVariables false
open Go.RowKit Go.ChangeShapes Go.WideShapes
variable {H : Type} {enc : TypeId × Value → H} {w : World} {base : Nat} {spare : Nat → Bool} {held : Bool}
theorem cells_int : Try.prog.cellsOf 3 = 1 := by kernel_rfl
theorem cells_bool : Try.prog.cellsOf 4 = 1 := by kernel_rfl
theorem cells_string : Try.prog.cellsOf 9 = 1 := by kernel_rfl
def SlInt (w : World) (A : Option Addr) (n c : Nat) (l : List Int) : Prop := SlOf (fun x : Int => [Value.int .i64 x]) 1 w A n c l ∧ ∀ x ∈ l, I64 x
theorem read_slint {fuel : Nat} {cs : List Value} {x : DataW H × List MemPlace} (h : DataW.trod enc Try.prog w base spare held fuel 28 cs = some x) :
    ∃ (A : Option Addr) (n c : Nat) (l : List Int), cs = [.slice A n c] ∧ SlInt w A n c l := by
  exact read_slOf Try.underlying28 cells_int (fun x : Int => [Value.int .i64 x]) I64 (fun _ => rfl) (by decide) (fun h => by
    obtain ⟨n, e, _, wn⟩ := DataW.trod_int Try.underlying3 h
    exact ⟨n, e, i64_of_wf wn⟩) h
theorem cells_slint : Try.prog.cellsOf 28 = 1 := by kernel_rfl
structure Piece where
  at_ : Int
  ln : Int
def Piece.cells (x : Piece) : List Value := [.int .i64 x.at_, .int .i64 x.ln]
def Piece.ok (x : Piece) : Prop := I64 x.at_ ∧ I64 x.ln
structure Mapping where
  dom : Int
  vir : Int
  phy : Int
  wr : Bool
def Mapping.cells (x : Mapping) : List Value := [.int .i64 x.dom, .int .i64 x.vir, .int .i64 x.phy, .bool x.wr]
def Mapping.ok (x : Mapping) : Prop := I64 x.dom ∧ I64 x.vir ∧ I64 x.phy
structure Desc where
  op : Int
  fl : Int
  ln : Int
  at_ : Int
  sz : Int
  ck : Int
def Desc.cells (x : Desc) : List Value := [.int .i64 x.op, .int .i64 x.fl, .int .i64 x.ln, .int .i64 x.at_, .int .i64 x.sz, .int .i64 x.ck]
def Desc.ok (x : Desc) : Prop := I64 x.op ∧ I64 x.fl ∧ I64 x.ln ∧ I64 x.at_ ∧ I64 x.sz ∧ I64 x.ck
structure Slot where
  state : Int
  flow_kind : Int
  flow_sip : Int
  flow_dip : Int
  flow_sport : Int
  flow_dport : Int
  queue : Int
def Slot.cells (x : Slot) : List Value := [.int .i64 x.state, .int .i64 x.flow_kind, .int .i64 x.flow_sip, .int .i64 x.flow_dip, .int .i64 x.flow_sport, .int .i64 x.flow_dport, .int .i64 x.queue]
def Slot.ok (x : Slot) : Prop := I64 x.state ∧ I64 x.flow_kind ∧ I64 x.flow_sip ∧ I64 x.flow_dip ∧ I64 x.flow_sport ∧ I64 x.flow_dport ∧ I64 x.queue
structure Rule where
  prio : Int
  kind : Int
  sip : Int
  sbits : Int
  fport : Int
  lport : Int
  vlan : Int
  action : Int
  queue : Int
def Rule.cells (x : Rule) : List Value := [.int .i64 x.prio, .int .i64 x.kind, .int .i64 x.sip, .int .i64 x.sbits, .int .i64 x.fport, .int .i64 x.lport, .int .i64 x.vlan, .int .i64 x.action, .int .i64 x.queue]
def Rule.ok (x : Rule) : Prop := I64 x.prio ∧ I64 x.kind ∧ I64 x.sip ∧ I64 x.sbits ∧ I64 x.fport ∧ I64 x.lport ∧ I64 x.vlan ∧ I64 x.action ∧ I64 x.queue
structure Packet where
  dmac : Int
  smac : Int
  vlan : Int
  tos : Int
  id : Int
  ttl : Int
  sip : Int
  dip : Int
  seg_kind : Int
  seg_sport : Int
  seg_dport : Int
  seg_seq : Int
  seg_ack : Int
  seg_flags : Int
  seg_win : Int
  seg_body : ByteArray
def Packet.cells (x : Packet) : List Value := [.int .i64 x.dmac, .int .i64 x.smac, .int .i64 x.vlan, .int .i64 x.tos, .int .i64 x.id, .int .i64 x.ttl, .int .i64 x.sip, .int .i64 x.dip, .int .i64 x.seg_kind, .int .i64 x.seg_sport, .int .i64 x.seg_dport, .int .i64 x.seg_seq, .int .i64 x.seg_ack, .int .i64 x.seg_flags, .int .i64 x.seg_win, .string x.seg_body]
def Packet.ok (x : Packet) : Prop := I64 x.dmac ∧ I64 x.smac ∧ I64 x.vlan ∧ I64 x.tos ∧ I64 x.id ∧ I64 x.ttl ∧ I64 x.sip ∧ I64 x.dip ∧ I64 x.seg_kind ∧ I64 x.seg_sport ∧ I64 x.seg_dport ∧ I64 x.seg_seq ∧ I64 x.seg_ack ∧ I64 x.seg_flags ∧ I64 x.seg_win ∧ x.seg_body.size ≤ maxLen
end Go.Proofs.Ytkfekgmdjemkbaa
