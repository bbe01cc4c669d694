/- Plain words on steering: rules, flow tables, spreads. -/
import Derived.Test.YtkfekgmdjemkbaaPktOk
namespace Go.Proofs.Ytkfekgmdjemkbaa
set_option linter.unusedSimpArgs false
set_option linter.unusedVariables false
open Go.RowKit Go.ChangeShapes Go.WideShapes
structure Flow where
  kind : Int
  sip : Int
  dip : Int
  sport : Int
  dport : Int
def Flow.cells (x : Flow) : List Value := [.int .i64 x.kind, .int .i64 x.sip, .int .i64 x.dip, .int .i64 x.sport, .int .i64 x.dport]
def Flow.ok (x : Flow) : Prop := I64 x.kind ∧ I64 x.sip ∧ I64 x.dip ∧ I64 x.sport ∧ I64 x.dport
theorem flow_iff (a b : Flow) : (a.kind = b.kind ∧ a.sip = b.sip ∧ a.dip = b.dip ∧ a.sport = b.sport ∧ a.dport = b.dport) ↔ a = b := by
  cases a; cases b; simp
instance : DecidableEq Flow := fun a b => decidable_of_iff _ (flow_iff a b)
def Slot.flow (x : Slot) : Flow := ⟨x.flow_kind, x.flow_sip, x.flow_dip, x.flow_sport, x.flow_dport⟩
def zeroF : Flow := ⟨0, 0, 0, 0, 0⟩
def zeroS : Slot := ⟨0, 0, 0, 0, 0, 0, 0⟩
def ruleB (r : Rule) : Bool := inB r.prio 0 1000 && (decide (r.kind = 0) || decide (r.kind = 6) || decide (r.kind = 17)) && inB r.sip 0 4294967295 && inB r.sbits 0 32 && decide (0 ≤ r.fport) && decide (r.fport ≤ r.lport) && decide (r.lport ≤ 65535) && inB r.vlan (-2) 4095 && ((decide (r.action = 0) && inB r.queue 0 3) || (decide (r.action = 1) && decide (r.queue = 0)))
def rulesB (l : List Rule) : Bool := l.all ruleB && decide (l.length ≤ 12)
/-- The packet's fields match the rule's. -/
def hitR (r : Rule) (p : Packet) : Bool := (decide (r.kind = 0) || decide (r.kind = p.seg_kind)) && decide (r.sip / 2 ^ (32 - r.sbits).toNat = p.sip / 2 ^ (32 - r.sbits).toNat) && inB p.seg_dport r.fport r.lport && (decide (r.vlan = -2) || decide (r.vlan = p.vlan))
def matB (r : Rule) (p : Packet) : Bool := ruleB r && superB p && hitR r p
def prioAt (l : List Rule) (k : Int) : Int := match l[k.toNat]? with | some r => r.prio | none => 0
/-- The best rule of the first k. -/
def bestR (l : List Rule) (p : Packet) : Nat → Int
  | 0 => -1
  | k + 1 => match l[k]? with
    | some r => if matB r p = true ∧ (bestR l p k < 0 ∨ r.prio < prioAt l (bestR l p k)) then (k : Int) else bestR l p k
    | none => bestR l p k
def ruleI (l : List Rule) (p : Packet) : Int := if rulesB l = true then bestR l p l.length else -1
theorem bestR_bd (l : List Rule) (p : Packet) : ∀ k, -1 ≤ bestR l p k ∧ bestR l p k < (k : Int) ∧ bestR l p k < (l.length : Int)
  | 0 => by simp only [bestR]; omega
  | k + 1 => by
    have := bestR_bd l p k
    rw [bestR]
    split
    · rename_i r hr
      have hk := (List.getElem?_eq_some_iff.1 hr).1
      split <;> omega
    · omega
theorem ruleB_t {r : Rule} (h : ruleB r = true) : 0 ≤ r.prio ∧ r.prio ≤ 1000 ∧ 0 ≤ r.sip ∧ r.sip ≤ 4294967295 ∧ 0 ≤ r.sbits ∧ r.sbits ≤ 32 ∧ ((r.action = 0 ∧ 0 ≤ r.queue ∧ r.queue ≤ 3) ∨ (r.action = 1 ∧ r.queue = 0)) := by
  simp only [ruleB, inB, Bool.and_eq_true, Bool.or_eq_true, decide_eq_true_eq] at h
  omega
theorem rulesB_el {l : List Rule} (h : rulesB l = true) {r : Rule} (hr : r ∈ l) : ruleB r = true := by
  rw [rulesB, Bool.and_eq_true, List.all_eq_true] at h
  exact h.1 r hr
/-- Slot k of a table. -/
def slt (l : List Slot) (k : Nat) : Slot := l[k]?.getD zeroS
def homeI (f : Flow) : Nat := ((f.kind % 8 + f.sip % 8 + f.dip % 8 + f.sport % 8 + f.dport % 8) % 8).toNat
theorem homeI_lt (f : Flow) : homeI f < 8 := by unfold homeI; omega
def way (f : Flow) (k : Nat) : Nat := (homeI f + k) % 8
theorem way_lt (f : Flow) (k : Nat) : way f k < 8 := Nat.mod_lt _ (by decide)
theorem way_on (f : Flow) {i : Nat} (h : i < 8) : ∃ k, k < 8 ∧ way f k = i := by
  have := homeI_lt f
  exact ⟨(i + 8 - homeI f) % 8, Nat.mod_lt _ (by decide), by unfold way; omega⟩
theorem way_inj (f : Flow) {a b : Nat} (ha : a < 8) (hb : b < 8) (h : way f a = way f b) : a = b := by unfold way at h; omega
/-- A used slot of a flow. -/
def hitF (f : Flow) (x : Slot) : Bool := decide (x.state = 1) && decide (x.flow = f)
/-- The search along the way, from step k. -/
def fndG (l : List Slot) (f : Flow) : Nat → Nat → Int
  | 0, _ => -1
  | n + 1, k => if (slt l (way f k)).state = 0 then -1 else if hitF f (slt l (way f k)) = true then (way f k : Int) else fndG l f n (k + 1)
def fndI (l : List Slot) (f : Flow) : Int := fndG l f 8 0
/-- The first used slot of a flow. -/
def soI (l : List Slot) (f : Flow) : Int := if l.findIdx (hitF f) < l.length then (l.findIdx (hitF f) : Nat) else -1
/-- No empty slot stands on the way ahead of slot i. -/
def cleanG (l : List Slot) (f : Flow) (i : Nat) : Nat → Nat → Bool
  | 0, _ => true
  | n + 1, k => if way f k = i then true else if (slt l (way f k)).state = 0 then false else cleanG l f i n (k + 1)
def cleanB (l : List Slot) (f : Flow) (i : Nat) : Bool := cleanG l f i 8 0
def slot0 (x : Slot) : Bool := inB x.state 0 2 && inB x.queue 0 3 && (decide (x.state = 1) || (decide (x.flow = zeroF) && decide (x.queue = 0)))
/-- Slot i is as the reference asks. -/
def slotB (l : List Slot) (i : Nat) : Bool := slot0 (slt l i) && (!decide ((slt l i).state = 1) || decide (fndI l (slt l i).flow = i))
/-- Slot i is as the program asks. -/
def slotJ (l : List Slot) (i : Nat) : Bool := slot0 (slt l i) && (!decide ((slt l i).state = 1) || (decide (soI l (slt l i).flow = i) && cleanB l (slt l i).flow i))
def slotsR (q : List Slot → Nat → Bool) (l : List Slot) (k : Nat) : Bool := (List.range k).all (q l)
def tableB (l : List Slot) : Bool := decide (l.length = 8) && slotsR slotB l 8
theorem slotsR_next (q : List Slot → Nat → Bool) (l : List Slot) (k : Nat) : slotsR q l (k + 1) = (slotsR q l k && q l k) := by
  simp [slotsR, List.range_succ, List.all_append]
theorem slotsR_el {q : List Slot → Nat → Bool} {l : List Slot} {n k : Nat} (h : slotsR q l n = true) (hk : k < n) : q l k = true := by
  rw [slotsR, List.all_eq_true] at h
  exact h k (List.mem_range.2 hk)
theorem slotsR_bad {q : List Slot → Nat → Bool} {l : List Slot} {n k : Nat} (h : q l k = false) (hk : k < n) : slotsR q l n = false := by
  cases e : slotsR q l n
  · rfl
  · rw [slotsR_el e hk] at h; exact absurd h (by decide)
theorem slt_get {l : List Slot} {k : Nat} {x : Slot} (h : l[k]? = some x) : slt l k = x := by rw [slt, h]; rfl
theorem slt_some {l : List Slot} {k : Nat} (h : k < l.length) : l[k]? = some (slt l k) := by rw [slt, List.getElem?_eq_getElem h]; rfl
theorem fndG_clean {l : List Slot} {f : Flow} {i : Nat} (hi : hitF f (slt l i) = true) (hu : ∀ j, hitF f (slt l j) = true → j < 8 → j = i) {k0 : Nat} (h0 : way f k0 = i) (h8 : k0 < 8) :
    ∀ n k, k + n = 8 → k ≤ k0 → fndG l f n k = if cleanG l f i n k = true then (i : Int) else -1
  | 0, k, h1, h2 => by omega
  | n + 1, k, h1, h2 => by
    rw [fndG, cleanG]
    by_cases e : way f k = i
    · rw [if_pos e, e]
      have h3 : (slt l i).state = 1 := by
        rw [hitF, Bool.and_eq_true, decide_eq_true_eq] at hi; exact hi.1
      rw [if_neg (by omega), if_pos hi]; simp
    · rw [if_neg e]
      by_cases e2 : (slt l (way f k)).state = 0
      · rw [if_pos e2, if_pos e2]; simp
      · rw [if_neg e2, if_neg e2]
        have h3 : ¬ hitF f (slt l (way f k)) = true := fun h => e (hu _ h (way_lt _ _))
        rw [if_neg h3]
        have : k ≠ k0 := fun h => e (h ▸ h0)
        exact fndG_clean hi hu h0 h8 n (k + 1) (by omega) (by omega)
theorem fndI_clean {l : List Slot} {f : Flow} {i : Nat} (h8 : i < 8) (hi : hitF f (slt l i) = true) (hu : ∀ j, hitF f (slt l j) = true → j < 8 → j = i) : fndI l f = if cleanB l f i = true then (i : Int) else -1 := by
  obtain ⟨k0, hk, h0⟩ := way_on f h8
  exact fndG_clean hi hu h0 hk 8 0 rfl (by omega)
theorem soI_at {l : List Slot} {f : Flow} {k : Nat} {x : Slot} (h : (l.take k).all (fun y => !hitF f y) = true) (hx : l[k]? = some x) (hh : hitF f x = true) : soI l f = k := by
  have hk : k < l.length := (List.getElem?_eq_some_iff.1 hx).1
  have hxe : l[k] = x := (List.getElem?_eq_some_iff.1 hx).2
  have : l.findIdx (hitF f) = k := by
    rw [List.findIdx_eq hk]
    refine ⟨by rw [hxe]; exact hh, fun j hj => ?_⟩
    rw [List.all_eq_true] at h
    have := h l[j] (by rw [List.mem_take_iff_getElem]; exact ⟨j, by omega, rfl⟩)
    simpa using this
  rw [soI, this, if_pos hk]
theorem soI_none {l : List Slot} {f : Flow} (h : l.all (fun y => !hitF f y) = true) : soI l f = -1 := by
  have : l.findIdx (hitF f) = l.length := by
    rw [List.findIdx_eq_length]
    intro x hx
    rw [List.all_eq_true] at h
    simpa using h x hx
  rw [soI, this, if_neg (by omega)]
theorem soI_cases (l : List Slot) (f : Flow) : (soI l f = -1 ∧ ∀ i, i < l.length → hitF f (slt l i) = false) ∨ ∃ k : Nat, soI l f = k ∧ k < l.length ∧ hitF f (slt l k) = true := by
  by_cases h : l.findIdx (hitF f) < l.length
  · refine .inr ⟨_, by rw [soI, if_pos h], h, ?_⟩
    rw [slt, List.getElem?_eq_getElem h]
    exact List.findIdx_getElem
  · refine .inl ⟨by rw [soI, if_neg h], fun i hi => ?_⟩
    have he : l.findIdx (hitF f) = l.length := by
      have := List.findIdx_le_length (p := hitF f) (xs := l); omega
    rw [List.findIdx_eq_length] at he
    have := he _ (List.mem_of_getElem? (slt_some hi))
    simpa using this
theorem soI_uniq {l : List Slot} {f : Flow} {i : Nat} (h8 : i < l.length) (hi : hitF f (slt l i) = true) (hu : ∀ j, hitF f (slt l j) = true → j < l.length → j = i) : soI l f = i := by
  rcases soI_cases l f with ⟨_, h⟩ | ⟨k, h1, h2, h3⟩
  · rw [h i h8] at hi; exact absurd hi (by decide)
  · rw [h1, hu k h3 h2]
theorem used_hit {l : List Slot} {i : Nat} (h : (slt l i).state = 1) : hitF (slt l i).flow (slt l i) = true := by simp [hitF, h]
theorem hit_t {f : Flow} {x : Slot} (h : hitF f x = true) : x.state = 1 ∧ x.flow = f := by simpa [hitF] using h
theorem slots_same {l : List Slot} (hl : l.length = 8) : slotsR slotJ l 8 = slotsR slotB l 8 := by
  have hB : slotsR slotB l 8 = true → ∀ i j, i < 8 → j < 8 → (slt l i).state = 1 → hitF (slt l i).flow (slt l j) = true → j = i := by
    intro h i j hi hj h1 h2
    have a1 := slotsR_el h hi
    have a2 := slotsR_el h hj
    obtain ⟨s2, f2⟩ := hit_t h2
    simp only [slotB, h1, s2, f2, Bool.and_eq_true, decide_true, Bool.not_true, Bool.false_or, decide_eq_true_eq] at a1 a2
    omega
  have hJ : slotsR slotJ l 8 = true → ∀ i j, i < 8 → j < 8 → (slt l i).state = 1 → hitF (slt l i).flow (slt l j) = true → j = i := by
    intro h i j hi hj h1 h2
    have a1 := slotsR_el h hi
    have a2 := slotsR_el h hj
    obtain ⟨s2, f2⟩ := hit_t h2
    simp only [slotJ, h1, s2, f2, Bool.and_eq_true, decide_true, Bool.not_true, Bool.false_or, decide_eq_true_eq] at a1 a2
    omega
  have key : (∀ i j, i < 8 → j < 8 → (slt l i).state = 1 → hitF (slt l i).flow (slt l j) = true → j = i) → ∀ i, i < 8 → slotJ l i = slotB l i := by
    intro hu i hi
    rw [slotJ, slotB]
    congr 1
    by_cases h1 : (slt l i).state = 1
    · have hh := used_hit h1
      have e1 := soI_uniq (f := (slt l i).flow) (by omega) hh (fun j hj hl2 => hu i j hi (by omega) h1 hj)
      have e2 := fndI_clean hi hh (fun j hj hl2 => hu i j hi hl2 h1 hj)
      rw [e1, e2]
      cases cleanB l (slt l i).flow i <;> simp <;> omega
    · simp [h1]
  cases e1 : slotsR slotJ l 8
  · cases e2 : slotsR slotB l 8
    · rfl
    · rw [slotsR, List.all_eq_true] at e2
      have : slotsR slotJ l 8 = true := by
        rw [slotsR, List.all_eq_true]
        intro i hi
        rw [key (hB (by rw [slotsR, List.all_eq_true]; exact e2)) i (List.mem_range.1 hi)]
        exact e2 i hi
      rw [this] at e1; exact absurd e1 (by decide)
  · symm
    have h := e1
    rw [slotsR, List.all_eq_true] at h ⊢
    intro i hi
    rw [← key (hJ e1) i (List.mem_range.1 hi)]
    exact h i hi
theorem tableB_uniq {l : List Slot} (h : tableB l = true) {i j : Nat} {f : Flow} (hi : i < 8) (hj : j < 8) (h1 : hitF f (slt l i) = true) (h2 : hitF f (slt l j) = true) : i = j := by
  rw [tableB, Bool.and_eq_true] at h
  have a1 := slotsR_el h.2 hi
  have a2 := slotsR_el h.2 hj
  obtain ⟨s1, f1⟩ := hit_t h1
  obtain ⟨s2, f2⟩ := hit_t h2
  simp only [slotB, s1, s2, f1, f2, Bool.and_eq_true, decide_true, Bool.not_true, Bool.false_or, decide_eq_true_eq] at a1 a2
  omega
theorem tableB_len {l : List Slot} (h : tableB l = true) : l.length = 8 := by
  rw [tableB, Bool.and_eq_true, decide_eq_true_eq] at h; exact h.1
theorem fndG_none {l : List Slot} {f : Flow} (h : ∀ i, i < 8 → hitF f (slt l i) = false) : ∀ n k, fndG l f n k = -1
  | 0, _ => rfl
  | n + 1, k => by
    rw [fndG]
    split
    · rfl
    · rw [if_neg (by rw [h _ (way_lt _ _)]; decide)]
      exact fndG_none h n (k + 1)
/-- In a valid table both searches find the same slot. -/
theorem so_fnd {l : List Slot} (h : tableB l = true) (f : Flow) : soI l f = fndI l f := by
  have hl := tableB_len h
  rcases soI_cases l f with ⟨h1, h2⟩ | ⟨k, h1, h2, h3⟩
  · rw [h1]; exact (fndG_none (fun i hi => h2 i (by omega)) 8 0).symm
  · have h' := h
    rw [tableB, Bool.and_eq_true] at h'
    have a := slotsR_el h'.2 (show k < 8 by omega)
    obtain ⟨s1, f1⟩ := hit_t h3
    simp only [slotB, s1, f1, Bool.and_eq_true, decide_true, Bool.not_true, Bool.false_or, decide_eq_true_eq] at a
    rw [h1, a.2]
theorem soI_bd (l : List Slot) (f : Flow) : -1 ≤ soI l f ∧ soI l f < (l.length : Int) := by
  rcases soI_cases l f with ⟨h1, _⟩ | ⟨k, h1, h2, _⟩ <;> omega
theorem slot_bd {l : List Slot} (h : tableB l = true) {i : Nat} (hi : i < 8) : 0 ≤ (slt l i).queue ∧ (slt l i).queue ≤ 3 := by
  rw [tableB, Bool.and_eq_true] at h
  have a := slotsR_el h.2 hi
  simp only [slotB, slot0, inB, Bool.and_eq_true, decide_eq_true_eq] at a
  omega
def sizeB (n : Nat) : Bool := decide (n = 1) || decide (n = 2) || decide (n = 4) || decide (n = 8) || decide (n = 16)
def spreadB (key : ByteArray) (l : List Int) (queues : Int) : Bool := inB queues 1 4 && decide (key.size = 16) && sizeB l.length && l.all fun x => inB x 0 (queues - 1)
/-- Rules, slots, key and table of a steering. -/
def steerB (rs : List Rule) (l : List Slot) (key : ByteArray) (tb : List Int) (queues : Int) : Bool := rulesB rs && tableB l && spreadB key tb queues && (rs.all fun r => !decide (queues ≤ r.queue)) && l.all fun x => !decide (queues ≤ x.queue)
end Go.Proofs.Ytkfekgmdjemkbaa
