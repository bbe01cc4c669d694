/- What a reading of each parameter's cells gives: structs and slices that come in. Printed by wip/gen/open.py. -/
import Derived.Test.YtifbfmafogmemaaMem
namespace Go.Proofs.Ytifbfmafogmemaa
set_option linter.unusedSimpArgs false
set_option linter.unusedVariables false
open Go.RowKit Go.ChangeShapes Go.WideShapes
variable {H : Type} {enc : TypeId × Value → H} {w : World} {base : Nat} {spare : Nat → Bool} {held : Bool}
theorem cells_int : Try.prog.cellsOf 3 = 1 := by kernel_rfl
theorem cells_bool : Try.prog.cellsOf 4 = 1 := by kernel_rfl
theorem cells_string : Try.prog.cellsOf 9 = 1 := by kernel_rfl
def SlInt (w : World) (A : Option Addr) (n c : Nat) (l : List Int) : Prop := SlOf (fun x : Int => [Value.int .i64 x]) 1 w A n c l ∧ ∀ x ∈ l, I64 x
theorem read_slint {fuel : Nat} {cs : List Value} {x : DataW H × List MemPlace} (h : DataW.trod enc Try.prog w base spare held fuel 45 cs = some x) :
    ∃ (A : Option Addr) (n c : Nat) (l : List Int), cs = [.slice A n c] ∧ SlInt w A n c l := by
  exact read_slOf Try.underlying45 cells_int (fun x : Int => [Value.int .i64 x]) I64 (fun _ => rfl) (by decide) (fun h => by
    obtain ⟨n, e, _, wn⟩ := DataW.trod_int Try.underlying3 h
    exact ⟨n, e, i64_of_wf wn⟩) h
theorem cells_slint : Try.prog.cellsOf 45 = 1 := by kernel_rfl
structure Piece where
  at_ : Int
  ln : Int
def Piece.cells (x : Piece) : List Value := [.int .i64 x.at_, .int .i64 x.ln]
def Piece.ok (x : Piece) : Prop := I64 x.at_ ∧ I64 x.ln
structure Mapping where
  dom : Int
  vir : Int
  phy : Int
  wr : Bool
def Mapping.cells (x : Mapping) : List Value := [.int .i64 x.dom, .int .i64 x.vir, .int .i64 x.phy, .bool x.wr]
def Mapping.ok (x : Mapping) : Prop := I64 x.dom ∧ I64 x.vir ∧ I64 x.phy
structure Desc where
  op : Int
  fl : Int
  ln : Int
  at_ : Int
  sz : Int
  ck : Int
def Desc.cells (x : Desc) : List Value := [.int .i64 x.op, .int .i64 x.fl, .int .i64 x.ln, .int .i64 x.at_, .int .i64 x.sz, .int .i64 x.ck]
def Desc.ok (x : Desc) : Prop := I64 x.op ∧ I64 x.fl ∧ I64 x.ln ∧ I64 x.at_ ∧ I64 x.sz ∧ I64 x.ck
theorem cells_Flow : Try.prog.cellsOf 137 = 5 := by kernel_rfl
set_option maxRecDepth 100000 in
theorem read_Flow {fuel : Nat} {cs : List Value} {x : DataW H × List MemPlace} (h : DataW.trod enc Try.prog w base spare held fuel 137 cs = some x) :
    ∃ (kind : Int) (sip : Int) (dip : Int) (sport : Int) (dport : Int), cs = [.int .i64 kind, .int .i64 sip, .int .i64 dip, .int .i64 sport, .int .i64 dport] ∧ I64 kind ∧ I64 sip ∧ I64 dip ∧ I64 sport ∧ I64 dport := by
  obtain ⟨xs, n, _, _, hcl, hlen, hg⟩ := DataW.trod_struct Try.underlying137 h
  rw [cells_Flow] at hcl
  have hlen : xs.length = 5 := hlen
  match cs, hcl with
  | [k0, k1, k2, k3, k4], _ =>
    obtain ⟨y0, hy0⟩ : ∃ y, xs[0]? = some y := ⟨_, List.getElem?_eq_getElem (by omega)⟩
    have g0 := hg 0 _ rfl
    rw [hy0] at g0
    simp [cells_int] at g0
    obtain ⟨kind, e0, _, w0⟩ := DataW.trod_int Try.underlying3 g0
    simp at e0; subst e0
    obtain ⟨y1, hy1⟩ : ∃ y, xs[1]? = some y := ⟨_, List.getElem?_eq_getElem (by omega)⟩
    have g1 := hg 1 _ rfl
    rw [hy1] at g1
    simp [cells_int] at g1
    obtain ⟨sip, e1, _, w1⟩ := DataW.trod_int Try.underlying3 g1
    simp at e1; subst e1
    obtain ⟨y2, hy2⟩ : ∃ y, xs[2]? = some y := ⟨_, List.getElem?_eq_getElem (by omega)⟩
    have g2 := hg 2 _ rfl
    rw [hy2] at g2
    simp [cells_int] at g2
    obtain ⟨dip, e2, _, w2⟩ := DataW.trod_int Try.underlying3 g2
    simp at e2; subst e2
    obtain ⟨y3, hy3⟩ : ∃ y, xs[3]? = some y := ⟨_, List.getElem?_eq_getElem (by omega)⟩
    have g3 := hg 3 _ rfl
    rw [hy3] at g3
    simp [cells_int] at g3
    obtain ⟨sport, e3, _, w3⟩ := DataW.trod_int Try.underlying3 g3
    simp at e3; subst e3
    obtain ⟨y4, hy4⟩ : ∃ y, xs[4]? = some y := ⟨_, List.getElem?_eq_getElem (by omega)⟩
    have g4 := hg 4 _ rfl
    rw [hy4] at g4
    simp [cells_int] at g4
    obtain ⟨dport, e4, _, w4⟩ := DataW.trod_int Try.underlying3 g4
    simp at e4; subst e4
    exact ⟨kind, sip, dip, sport, dport, rfl, i64_of_wf w0, i64_of_wf w1, i64_of_wf w2, i64_of_wf w3, i64_of_wf w4⟩
structure Slot where
  state : Int
  flow_kind : Int
  flow_sip : Int
  flow_dip : Int
  flow_sport : Int
  flow_dport : Int
  queue : Int
def Slot.cells (x : Slot) : List Value := [.int .i64 x.state, .int .i64 x.flow_kind, .int .i64 x.flow_sip, .int .i64 x.flow_dip, .int .i64 x.flow_sport, .int .i64 x.flow_dport, .int .i64 x.queue]
def Slot.ok (x : Slot) : Prop := I64 x.state ∧ I64 x.flow_kind ∧ I64 x.flow_sip ∧ I64 x.flow_dip ∧ I64 x.flow_sport ∧ I64 x.flow_dport ∧ I64 x.queue
theorem cells_Slot : Try.prog.cellsOf 192 = 7 := by kernel_rfl
set_option maxRecDepth 100000 in
theorem read_Slot {fuel : Nat} {cs : List Value} {x : DataW H × List MemPlace} (h : DataW.trod enc Try.prog w base spare held fuel 192 cs = some x) :
    ∃ (state : Int) (flow_kind : Int) (flow_sip : Int) (flow_dip : Int) (flow_sport : Int) (flow_dport : Int) (queue : Int), cs = [.int .i64 state, .int .i64 flow_kind, .int .i64 flow_sip, .int .i64 flow_dip, .int .i64 flow_sport, .int .i64 flow_dport, .int .i64 queue] ∧ I64 state ∧ I64 flow_kind ∧ I64 flow_sip ∧ I64 flow_dip ∧ I64 flow_sport ∧ I64 flow_dport ∧ I64 queue := by
  obtain ⟨xs, n, _, _, hcl, hlen, hg⟩ := DataW.trod_struct Try.underlying192 h
  rw [cells_Slot] at hcl
  have hlen : xs.length = 3 := hlen
  match cs, hcl with
  | [k0, k1, k2, k3, k4, k5, k6], _ =>
    obtain ⟨y0, hy0⟩ : ∃ y, xs[0]? = some y := ⟨_, List.getElem?_eq_getElem (by omega)⟩
    have g0 := hg 0 _ rfl
    rw [hy0] at g0
    simp [cells_int] at g0
    obtain ⟨state, e0, _, w0⟩ := DataW.trod_int Try.underlying3 g0
    simp at e0; subst e0
    obtain ⟨y1, hy1⟩ : ∃ y, xs[1]? = some y := ⟨_, List.getElem?_eq_getElem (by omega)⟩
    have g1 := hg 1 _ rfl
    rw [hy1] at g1
    simp [cells_Flow] at g1
    obtain ⟨flow_kind, flow_sip, flow_dip, flow_sport, flow_dport, e1, w1_0, w1_1, w1_2, w1_3, w1_4⟩ := read_Flow g1
    simp at e1; obtain ⟨rfl, rfl, rfl, rfl, rfl⟩ := e1
    obtain ⟨y2, hy2⟩ : ∃ y, xs[2]? = some y := ⟨_, List.getElem?_eq_getElem (by omega)⟩
    have g2 := hg 2 _ rfl
    rw [hy2] at g2
    simp [cells_int] at g2
    obtain ⟨queue, e2, _, w2⟩ := DataW.trod_int Try.underlying3 g2
    simp at e2; subst e2
    exact ⟨state, flow_kind, flow_sip, flow_dip, flow_sport, flow_dport, queue, rfl, i64_of_wf w0, w1_0, w1_1, w1_2, w1_3, w1_4, i64_of_wf w2⟩
def SlSlot (w : World) (A : Option Addr) (n c : Nat) (l : List Slot) : Prop := SlOf Slot.cells 7 w A n c l ∧ ∀ x ∈ l, x.ok
theorem read_slSlot {fuel : Nat} {cs : List Value} {x : DataW H × List MemPlace} (h : DataW.trod enc Try.prog w base spare held fuel 42 cs = some x) :
    ∃ (A : Option Addr) (n c : Nat) (l : List Slot), cs = [.slice A n c] ∧ SlSlot w A n c l := by
  haveI : Inhabited Slot := ⟨⟨0, 0, 0, 0, 0, 0, 0⟩⟩
  exact read_slOf Try.underlying42 cells_Slot Slot.cells Slot.ok (fun _ => rfl) (by decide) (fun h => by
    obtain ⟨state, flow_kind, flow_sip, flow_dip, flow_sport, flow_dport, queue, e, w0, w1, w2, w3, w4, w5, w6⟩ := read_Slot h
    exact ⟨⟨state, flow_kind, flow_sip, flow_dip, flow_sport, flow_dport, queue⟩, e, w0, w1, w2, w3, w4, w5, w6⟩) h
theorem cells_slSlot : Try.prog.cellsOf 42 = 1 := by kernel_rfl
structure Rule where
  prio : Int
  kind : Int
  sip : Int
  sbits : Int
  fport : Int
  lport : Int
  vlan : Int
  action : Int
  queue : Int
def Rule.cells (x : Rule) : List Value := [.int .i64 x.prio, .int .i64 x.kind, .int .i64 x.sip, .int .i64 x.sbits, .int .i64 x.fport, .int .i64 x.lport, .int .i64 x.vlan, .int .i64 x.action, .int .i64 x.queue]
def Rule.ok (x : Rule) : Prop := I64 x.prio ∧ I64 x.kind ∧ I64 x.sip ∧ I64 x.sbits ∧ I64 x.fport ∧ I64 x.lport ∧ I64 x.vlan ∧ I64 x.action ∧ I64 x.queue
theorem cells_Rule : Try.prog.cellsOf 168 = 9 := by kernel_rfl
set_option maxRecDepth 100000 in
theorem read_Rule {fuel : Nat} {cs : List Value} {x : DataW H × List MemPlace} (h : DataW.trod enc Try.prog w base spare held fuel 168 cs = some x) :
    ∃ (prio : Int) (kind : Int) (sip : Int) (sbits : Int) (fport : Int) (lport : Int) (vlan : Int) (action : Int) (queue : Int), cs = [.int .i64 prio, .int .i64 kind, .int .i64 sip, .int .i64 sbits, .int .i64 fport, .int .i64 lport, .int .i64 vlan, .int .i64 action, .int .i64 queue] ∧ I64 prio ∧ I64 kind ∧ I64 sip ∧ I64 sbits ∧ I64 fport ∧ I64 lport ∧ I64 vlan ∧ I64 action ∧ I64 queue := by
  obtain ⟨xs, n, _, _, hcl, hlen, hg⟩ := DataW.trod_struct Try.underlying168 h
  rw [cells_Rule] at hcl
  have hlen : xs.length = 9 := hlen
  match cs, hcl with
  | [k0, k1, k2, k3, k4, k5, k6, k7, k8], _ =>
    obtain ⟨y0, hy0⟩ : ∃ y, xs[0]? = some y := ⟨_, List.getElem?_eq_getElem (by omega)⟩
    have g0 := hg 0 _ rfl
    rw [hy0] at g0
    simp [cells_int] at g0
    obtain ⟨prio, e0, _, w0⟩ := DataW.trod_int Try.underlying3 g0
    simp at e0; subst e0
    obtain ⟨y1, hy1⟩ : ∃ y, xs[1]? = some y := ⟨_, List.getElem?_eq_getElem (by omega)⟩
    have g1 := hg 1 _ rfl
    rw [hy1] at g1
    simp [cells_int] at g1
    obtain ⟨kind, e1, _, w1⟩ := DataW.trod_int Try.underlying3 g1
    simp at e1; subst e1
    obtain ⟨y2, hy2⟩ : ∃ y, xs[2]? = some y := ⟨_, List.getElem?_eq_getElem (by omega)⟩
    have g2 := hg 2 _ rfl
    rw [hy2] at g2
    simp [cells_int] at g2
    obtain ⟨sip, e2, _, w2⟩ := DataW.trod_int Try.underlying3 g2
    simp at e2; subst e2
    obtain ⟨y3, hy3⟩ : ∃ y, xs[3]? = some y := ⟨_, List.getElem?_eq_getElem (by omega)⟩
    have g3 := hg 3 _ rfl
    rw [hy3] at g3
    simp [cells_int] at g3
    obtain ⟨sbits, e3, _, w3⟩ := DataW.trod_int Try.underlying3 g3
    simp at e3; subst e3
    obtain ⟨y4, hy4⟩ : ∃ y, xs[4]? = some y := ⟨_, List.getElem?_eq_getElem (by omega)⟩
    have g4 := hg 4 _ rfl
    rw [hy4] at g4
    simp [cells_int] at g4
    obtain ⟨fport, e4, _, w4⟩ := DataW.trod_int Try.underlying3 g4
    simp at e4; subst e4
    obtain ⟨y5, hy5⟩ : ∃ y, xs[5]? = some y := ⟨_, List.getElem?_eq_getElem (by omega)⟩
    have g5 := hg 5 _ rfl
    rw [hy5] at g5
    simp [cells_int] at g5
    obtain ⟨lport, e5, _, w5⟩ := DataW.trod_int Try.underlying3 g5
    simp at e5; subst e5
    obtain ⟨y6, hy6⟩ : ∃ y, xs[6]? = some y := ⟨_, List.getElem?_eq_getElem (by omega)⟩
    have g6 := hg 6 _ rfl
    rw [hy6] at g6
    simp [cells_int] at g6
    obtain ⟨vlan, e6, _, w6⟩ := DataW.trod_int Try.underlying3 g6
    simp at e6; subst e6
    obtain ⟨y7, hy7⟩ : ∃ y, xs[7]? = some y := ⟨_, List.getElem?_eq_getElem (by omega)⟩
    have g7 := hg 7 _ rfl
    rw [hy7] at g7
    simp [cells_int] at g7
    obtain ⟨action, e7, _, w7⟩ := DataW.trod_int Try.underlying3 g7
    simp at e7; subst e7
    obtain ⟨y8, hy8⟩ : ∃ y, xs[8]? = some y := ⟨_, List.getElem?_eq_getElem (by omega)⟩
    have g8 := hg 8 _ rfl
    rw [hy8] at g8
    simp [cells_int] at g8
    obtain ⟨queue, e8, _, w8⟩ := DataW.trod_int Try.underlying3 g8
    simp at e8; subst e8
    exact ⟨prio, kind, sip, sbits, fport, lport, vlan, action, queue, rfl, i64_of_wf w0, i64_of_wf w1, i64_of_wf w2, i64_of_wf w3, i64_of_wf w4, i64_of_wf w5, i64_of_wf w6, i64_of_wf w7, i64_of_wf w8⟩
def SlRule (w : World) (A : Option Addr) (n c : Nat) (l : List Rule) : Prop := SlOf Rule.cells 9 w A n c l ∧ ∀ x ∈ l, x.ok
theorem read_slRule {fuel : Nat} {cs : List Value} {x : DataW H × List MemPlace} (h : DataW.trod enc Try.prog w base spare held fuel 41 cs = some x) :
    ∃ (A : Option Addr) (n c : Nat) (l : List Rule), cs = [.slice A n c] ∧ SlRule w A n c l := by
  haveI : Inhabited Rule := ⟨⟨0, 0, 0, 0, 0, 0, 0, 0, 0⟩⟩
  exact read_slOf Try.underlying41 cells_Rule Rule.cells Rule.ok (fun _ => rfl) (by decide) (fun h => by
    obtain ⟨prio, kind, sip, sbits, fport, lport, vlan, action, queue, e, w0, w1, w2, w3, w4, w5, w6, w7, w8⟩ := read_Rule h
    exact ⟨⟨prio, kind, sip, sbits, fport, lport, vlan, action, queue⟩, e, w0, w1, w2, w3, w4, w5, w6, w7, w8⟩) h
theorem cells_slRule : Try.prog.cellsOf 41 = 1 := by kernel_rfl
theorem cells_Segment : Try.prog.cellsOf 23 = 8 := by kernel_rfl
set_option maxRecDepth 100000 in
theorem read_Segment {fuel : Nat} {cs : List Value} {x : DataW H × List MemPlace} (h : DataW.trod enc Try.prog w base spare held fuel 23 cs = some x) :
    ∃ (kind : Int) (sport : Int) (dport : Int) (seq : Int) (ack : Int) (flags : Int) (win : Int) (body : ByteArray), cs = [.int .i64 kind, .int .i64 sport, .int .i64 dport, .int .i64 seq, .int .i64 ack, .int .i64 flags, .int .i64 win, .string body] ∧ I64 kind ∧ I64 sport ∧ I64 dport ∧ I64 seq ∧ I64 ack ∧ I64 flags ∧ I64 win ∧ body.size ≤ maxLen := by
  obtain ⟨xs, n, _, _, hcl, hlen, hg⟩ := DataW.trod_struct Try.underlying23 h
  rw [cells_Segment] at hcl
  have hlen : xs.length = 8 := hlen
  match cs, hcl with
  | [k0, k1, k2, k3, k4, k5, k6, k7], _ =>
    obtain ⟨y0, hy0⟩ : ∃ y, xs[0]? = some y := ⟨_, List.getElem?_eq_getElem (by omega)⟩
    have g0 := hg 0 _ rfl
    rw [hy0] at g0
    simp [cells_int] at g0
    obtain ⟨kind, e0, _, w0⟩ := DataW.trod_int Try.underlying3 g0
    simp at e0; subst e0
    obtain ⟨y1, hy1⟩ : ∃ y, xs[1]? = some y := ⟨_, List.getElem?_eq_getElem (by omega)⟩
    have g1 := hg 1 _ rfl
    rw [hy1] at g1
    simp [cells_int] at g1
    obtain ⟨sport, e1, _, w1⟩ := DataW.trod_int Try.underlying3 g1
    simp at e1; subst e1
    obtain ⟨y2, hy2⟩ : ∃ y, xs[2]? = some y := ⟨_, List.getElem?_eq_getElem (by omega)⟩
    have g2 := hg 2 _ rfl
    rw [hy2] at g2
    simp [cells_int] at g2
    obtain ⟨dport, e2, _, w2⟩ := DataW.trod_int Try.underlying3 g2
    simp at e2; subst e2
    obtain ⟨y3, hy3⟩ : ∃ y, xs[3]? = some y := ⟨_, List.getElem?_eq_getElem (by omega)⟩
    have g3 := hg 3 _ rfl
    rw [hy3] at g3
    simp [cells_int] at g3
    obtain ⟨seq, e3, _, w3⟩ := DataW.trod_int Try.underlying3 g3
    simp at e3; subst e3
    obtain ⟨y4, hy4⟩ : ∃ y, xs[4]? = some y := ⟨_, List.getElem?_eq_getElem (by omega)⟩
    have g4 := hg 4 _ rfl
    rw [hy4] at g4
    simp [cells_int] at g4
    obtain ⟨ack, e4, _, w4⟩ := DataW.trod_int Try.underlying3 g4
    simp at e4; subst e4
    obtain ⟨y5, hy5⟩ : ∃ y, xs[5]? = some y := ⟨_, List.getElem?_eq_getElem (by omega)⟩
    have g5 := hg 5 _ rfl
    rw [hy5] at g5
    simp [cells_int] at g5
    obtain ⟨flags, e5, _, w5⟩ := DataW.trod_int Try.underlying3 g5
    simp at e5; subst e5
    obtain ⟨y6, hy6⟩ : ∃ y, xs[6]? = some y := ⟨_, List.getElem?_eq_getElem (by omega)⟩
    have g6 := hg 6 _ rfl
    rw [hy6] at g6
    simp [cells_int] at g6
    obtain ⟨win, e6, _, w6⟩ := DataW.trod_int Try.underlying3 g6
    simp at e6; subst e6
    obtain ⟨y7, hy7⟩ : ∃ y, xs[7]? = some y := ⟨_, List.getElem?_eq_getElem (by omega)⟩
    have g7 := hg 7 _ rfl
    rw [hy7] at g7
    simp [cells_string] at g7
    obtain ⟨body, e7, _, w7⟩ := DataW.trod_string Try.underlying9 g7
    simp at e7; subst e7
    exact ⟨kind, sport, dport, seq, ack, flags, win, body, rfl, i64_of_wf w0, i64_of_wf w1, i64_of_wf w2, i64_of_wf w3, i64_of_wf w4, i64_of_wf w5, i64_of_wf w6, w7⟩
structure Packet where
  dmac : Int
  smac : Int
  vlan : Int
  tos : Int
  id : Int
  ttl : Int
  sip : Int
  dip : Int
  seg_kind : Int
  seg_sport : Int
  seg_dport : Int
  seg_seq : Int
  seg_ack : Int
  seg_flags : Int
  seg_win : Int
  seg_body : ByteArray
def Packet.cells (x : Packet) : List Value := [.int .i64 x.dmac, .int .i64 x.smac, .int .i64 x.vlan, .int .i64 x.tos, .int .i64 x.id, .int .i64 x.ttl, .int .i64 x.sip, .int .i64 x.dip, .int .i64 x.seg_kind, .int .i64 x.seg_sport, .int .i64 x.seg_dport, .int .i64 x.seg_seq, .int .i64 x.seg_ack, .int .i64 x.seg_flags, .int .i64 x.seg_win, .string x.seg_body]
def Packet.ok (x : Packet) : Prop := I64 x.dmac ∧ I64 x.smac ∧ I64 x.vlan ∧ I64 x.tos ∧ I64 x.id ∧ I64 x.ttl ∧ I64 x.sip ∧ I64 x.dip ∧ I64 x.seg_kind ∧ I64 x.seg_sport ∧ I64 x.seg_dport ∧ I64 x.seg_seq ∧ I64 x.seg_ack ∧ I64 x.seg_flags ∧ I64 x.seg_win ∧ x.seg_body.size ≤ maxLen
theorem cells_Packet : Try.prog.cellsOf 25 = 16 := by kernel_rfl
set_option maxRecDepth 100000 in
theorem read_Packet {fuel : Nat} {cs : List Value} {x : DataW H × List MemPlace} (h : DataW.trod enc Try.prog w base spare held fuel 25 cs = some x) :
    ∃ (dmac : Int) (smac : Int) (vlan : Int) (tos : Int) (id : Int) (ttl : Int) (sip : Int) (dip : Int) (seg_kind : Int) (seg_sport : Int) (seg_dport : Int) (seg_seq : Int) (seg_ack : Int) (seg_flags : Int) (seg_win : Int) (seg_body : ByteArray), cs = [.int .i64 dmac, .int .i64 smac, .int .i64 vlan, .int .i64 tos, .int .i64 id, .int .i64 ttl, .int .i64 sip, .int .i64 dip, .int .i64 seg_kind, .int .i64 seg_sport, .int .i64 seg_dport, .int .i64 seg_seq, .int .i64 seg_ack, .int .i64 seg_flags, .int .i64 seg_win, .string seg_body] ∧ I64 dmac ∧ I64 smac ∧ I64 vlan ∧ I64 tos ∧ I64 id ∧ I64 ttl ∧ I64 sip ∧ I64 dip ∧ I64 seg_kind ∧ I64 seg_sport ∧ I64 seg_dport ∧ I64 seg_seq ∧ I64 seg_ack ∧ I64 seg_flags ∧ I64 seg_win ∧ seg_body.size ≤ maxLen := by
  obtain ⟨xs, n, _, _, hcl, hlen, hg⟩ := DataW.trod_struct Try.underlying25 h
  rw [cells_Packet] at hcl
  have hlen : xs.length = 9 := hlen
  match cs, hcl with
  | [k0, k1, k2, k3, k4, k5, k6, k7, k8, k9, k10, k11, k12, k13, k14, k15], _ =>
    obtain ⟨y0, hy0⟩ : ∃ y, xs[0]? = some y := ⟨_, List.getElem?_eq_getElem (by omega)⟩
    have g0 := hg 0 _ rfl
    rw [hy0] at g0
    simp [cells_int] at g0
    obtain ⟨dmac, e0, _, w0⟩ := DataW.trod_int Try.underlying3 g0
    simp at e0; subst e0
    obtain ⟨y1, hy1⟩ : ∃ y, xs[1]? = some y := ⟨_, List.getElem?_eq_getElem (by omega)⟩
    have g1 := hg 1 _ rfl
    rw [hy1] at g1
    simp [cells_int] at g1
    obtain ⟨smac, e1, _, w1⟩ := DataW.trod_int Try.underlying3 g1
    simp at e1; subst e1
    obtain ⟨y2, hy2⟩ : ∃ y, xs[2]? = some y := ⟨_, List.getElem?_eq_getElem (by omega)⟩
    have g2 := hg 2 _ rfl
    rw [hy2] at g2
    simp [cells_int] at g2
    obtain ⟨vlan, e2, _, w2⟩ := DataW.trod_int Try.underlying3 g2
    simp at e2; subst e2
    obtain ⟨y3, hy3⟩ : ∃ y, xs[3]? = some y := ⟨_, List.getElem?_eq_getElem (by omega)⟩
    have g3 := hg 3 _ rfl
    rw [hy3] at g3
    simp [cells_int] at g3
    obtain ⟨tos, e3, _, w3⟩ := DataW.trod_int Try.underlying3 g3
    simp at e3; subst e3
    obtain ⟨y4, hy4⟩ : ∃ y, xs[4]? = some y := ⟨_, List.getElem?_eq_getElem (by omega)⟩
    have g4 := hg 4 _ rfl
    rw [hy4] at g4
    simp [cells_int] at g4
    obtain ⟨id, e4, _, w4⟩ := DataW.trod_int Try.underlying3 g4
    simp at e4; subst e4
    obtain ⟨y5, hy5⟩ : ∃ y, xs[5]? = some y := ⟨_, List.getElem?_eq_getElem (by omega)⟩
    have g5 := hg 5 _ rfl
    rw [hy5] at g5
    simp [cells_int] at g5
    obtain ⟨ttl, e5, _, w5⟩ := DataW.trod_int Try.underlying3 g5
    simp at e5; subst e5
    obtain ⟨y6, hy6⟩ : ∃ y, xs[6]? = some y := ⟨_, List.getElem?_eq_getElem (by omega)⟩
    have g6 := hg 6 _ rfl
    rw [hy6] at g6
    simp [cells_int] at g6
    obtain ⟨sip, e6, _, w6⟩ := DataW.trod_int Try.underlying3 g6
    simp at e6; subst e6
    obtain ⟨y7, hy7⟩ : ∃ y, xs[7]? = some y := ⟨_, List.getElem?_eq_getElem (by omega)⟩
    have g7 := hg 7 _ rfl
    rw [hy7] at g7
    simp [cells_int] at g7
    obtain ⟨dip, e7, _, w7⟩ := DataW.trod_int Try.underlying3 g7
    simp at e7; subst e7
    obtain ⟨y8, hy8⟩ : ∃ y, xs[8]? = some y := ⟨_, List.getElem?_eq_getElem (by omega)⟩
    have g8 := hg 8 _ rfl
    rw [hy8] at g8
    simp [cells_Segment] at g8
    obtain ⟨seg_kind, seg_sport, seg_dport, seg_seq, seg_ack, seg_flags, seg_win, seg_body, e8, w8_0, w8_1, w8_2, w8_3, w8_4, w8_5, w8_6, w8_7⟩ := read_Segment g8
    simp at e8; obtain ⟨rfl, rfl, rfl, rfl, rfl, rfl, rfl, rfl⟩ := e8
    exact ⟨dmac, smac, vlan, tos, id, ttl, sip, dip, seg_kind, seg_sport, seg_dport, seg_seq, seg_ack, seg_flags, seg_win, seg_body, rfl, i64_of_wf w0, i64_of_wf w1, i64_of_wf w2, i64_of_wf w3, i64_of_wf w4, i64_of_wf w5, i64_of_wf w6, i64_of_wf w7, w8_0, w8_1, w8_2, w8_3, w8_4, w8_5, w8_6, w8_7⟩
def SlPacket (w : World) (A : Option Addr) (n c : Nat) (l : List Packet) : Prop := SlOf Packet.cells 16 w A n c l ∧ ∀ x ∈ l, x.ok
theorem read_slPacket {fuel : Nat} {cs : List Value} {x : DataW H × List MemPlace} (h : DataW.trod enc Try.prog w base spare held fuel 72 cs = some x) :
    ∃ (A : Option Addr) (n c : Nat) (l : List Packet), cs = [.slice A n c] ∧ SlPacket w A n c l := by
  haveI : Inhabited Packet := ⟨⟨0, 0, 0, 0, 0, 0, 0, 0, 0, 0, 0, 0, 0, 0, 0, ByteArray.empty⟩⟩
  exact read_slOf Try.underlying72 cells_Packet Packet.cells Packet.ok (fun _ => rfl) (by decide) (fun h => by
    obtain ⟨dmac, smac, vlan, tos, id, ttl, sip, dip, seg_kind, seg_sport, seg_dport, seg_seq, seg_ack, seg_flags, seg_win, seg_body, e, w0, w1, w2, w3, w4, w5, w6, w7, w8, w9, w10, w11, w12, w13, w14, w15⟩ := read_Packet h
    exact ⟨⟨dmac, smac, vlan, tos, id, ttl, sip, dip, seg_kind, seg_sport, seg_dport, seg_seq, seg_ack, seg_flags, seg_win, seg_body⟩, e, w0, w1, w2, w3, w4, w5, w6, w7, w8, w9, w10, w11, w12, w13, w14, w15⟩) h
theorem cells_slPacket : Try.prog.cellsOf 72 = 1 := by kernel_rfl
theorem cells_FlowTable : Try.prog.cellsOf 44 = 1 := by kernel_rfl
set_option maxRecDepth 100000 in
theorem read_FlowTable {fuel : Nat} {cs : List Value} {x : DataW H × List MemPlace} (h : DataW.trod enc Try.prog w base spare held fuel 44 cs = some x) :
    ∃ (Aslots : Option Addr) (nslots cslots : Nat) (lslots : List Slot), cs = [.slice Aslots nslots cslots] ∧ SlSlot w Aslots nslots cslots lslots := by
  obtain ⟨xs, n, _, _, hcl, hlen, hg⟩ := DataW.trod_struct Try.underlying44 h
  rw [cells_FlowTable] at hcl
  have hlen : xs.length = 1 := hlen
  match cs, hcl with
  | [k0], _ =>
    obtain ⟨y0, hy0⟩ : ∃ y, xs[0]? = some y := ⟨_, List.getElem?_eq_getElem (by omega)⟩
    have g0 := hg 0 _ rfl
    rw [hy0] at g0
    simp [cells_slSlot] at g0
    obtain ⟨Aslots, nslots, cslots, lslots, e0, w0⟩ := read_slSlot g0
    simp at e0; subst e0
    exact ⟨Aslots, nslots, cslots, lslots, rfl, w0⟩
theorem cells_Spread : Try.prog.cellsOf 47 = 2 := by kernel_rfl
set_option maxRecDepth 100000 in
theorem read_Spread {fuel : Nat} {cs : List Value} {x : DataW H × List MemPlace} (h : DataW.trod enc Try.prog w base spare held fuel 47 cs = some x) :
    ∃ (key : ByteArray) (Atable : Option Addr) (ntable ctable : Nat) (ltable : List Int), cs = [.string key, .slice Atable ntable ctable] ∧ key.size ≤ maxLen ∧ SlInt w Atable ntable ctable ltable := by
  obtain ⟨xs, n, _, _, hcl, hlen, hg⟩ := DataW.trod_struct Try.underlying47 h
  rw [cells_Spread] at hcl
  have hlen : xs.length = 2 := hlen
  match cs, hcl with
  | [k0, k1], _ =>
    obtain ⟨y0, hy0⟩ : ∃ y, xs[0]? = some y := ⟨_, List.getElem?_eq_getElem (by omega)⟩
    have g0 := hg 0 _ rfl
    rw [hy0] at g0
    simp [cells_string] at g0
    obtain ⟨key, e0, _, w0⟩ := DataW.trod_string Try.underlying9 g0
    simp at e0; subst e0
    obtain ⟨y1, hy1⟩ : ∃ y, xs[1]? = some y := ⟨_, List.getElem?_eq_getElem (by omega)⟩
    have g1 := hg 1 _ rfl
    rw [hy1] at g1
    simp [cells_slint] at g1
    obtain ⟨Atable, ntable, ctable, ltable, e1, w1⟩ := read_slint g1
    simp at e1; subst e1
    exact ⟨key, Atable, ntable, ctable, ltable, rfl, w0, w1⟩
theorem cells_Steering : Try.prog.cellsOf 49 = 4 := by kernel_rfl
set_option maxRecDepth 100000 in
theorem read_Steering {fuel : Nat} {cs : List Value} {x : DataW H × List MemPlace} (h : DataW.trod enc Try.prog w base spare held fuel 49 cs = some x) :
    ∃ (Arules : Option Addr) (nrules crules : Nat) (lrules : List Rule) (Atable_slots : Option Addr) (ntable_slots ctable_slots : Nat) (ltable_slots : List Slot) (spread_key : ByteArray) (Aspread_table : Option Addr) (nspread_table cspread_table : Nat) (lspread_table : List Int), cs = [.slice Arules nrules crules, .slice Atable_slots ntable_slots ctable_slots, .string spread_key, .slice Aspread_table nspread_table cspread_table] ∧ SlRule w Arules nrules crules lrules ∧ SlSlot w Atable_slots ntable_slots ctable_slots ltable_slots ∧ spread_key.size ≤ maxLen ∧ SlInt w Aspread_table nspread_table cspread_table lspread_table := by
  obtain ⟨xs, n, _, _, hcl, hlen, hg⟩ := DataW.trod_struct Try.underlying49 h
  rw [cells_Steering] at hcl
  have hlen : xs.length = 3 := hlen
  match cs, hcl with
  | [k0, k1, k2, k3], _ =>
    obtain ⟨y0, hy0⟩ : ∃ y, xs[0]? = some y := ⟨_, List.getElem?_eq_getElem (by omega)⟩
    have g0 := hg 0 _ rfl
    rw [hy0] at g0
    simp [cells_slRule] at g0
    obtain ⟨Arules, nrules, crules, lrules, e0, w0⟩ := read_slRule g0
    simp at e0; subst e0
    obtain ⟨y1, hy1⟩ : ∃ y, xs[1]? = some y := ⟨_, List.getElem?_eq_getElem (by omega)⟩
    have g1 := hg 1 _ rfl
    rw [hy1] at g1
    simp [cells_FlowTable] at g1
    obtain ⟨Atable_slots, ntable_slots, ctable_slots, ltable_slots, e1, w1_0⟩ := read_FlowTable g1
    simp at e1; subst e1
    obtain ⟨y2, hy2⟩ : ∃ y, xs[2]? = some y := ⟨_, List.getElem?_eq_getElem (by omega)⟩
    have g2 := hg 2 _ rfl
    rw [hy2] at g2
    simp [cells_Spread] at g2
    obtain ⟨spread_key, Aspread_table, nspread_table, cspread_table, lspread_table, e2, w2_0, w2_1⟩ := read_Spread g2
    simp at e2; obtain ⟨rfl, rfl⟩ := e2
    exact ⟨Arules, nrules, crules, lrules, Atable_slots, ntable_slots, ctable_slots, ltable_slots, spread_key, Aspread_table, nspread_table, cspread_table, lspread_table, rfl, w0, w1_0, w2_0, w2_1⟩
end Go.Proofs.Ytifbfmafogmemaa
