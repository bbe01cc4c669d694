/- Plain words on mappings: the first mapping of a page, valid mappings, translation. -/
import Derived.Test.YtnnlagmgdfhaiaaIn
import Derived.Test.YtnnlagmgdfhaiaaOpen
namespace Go.Proofs.Ytnnlagmgdfhaiaa
set_option linter.unusedSimpArgs false
set_option linter.unusedVariables false
open Go.RowKit Go.ChangeShapes Go.WideShapes
def hitM (d v : Int) (x : Mapping) : Bool := decide (x.dom = d) && decide (x.vir = v)
/-- The index of the first mapping of a page; -1 if there is none. -/
def pmI (l : List Mapping) (d v : Int) : Int := if l.findIdx (hitM d v) < l.length then (l.findIdx (hitM d v) : Nat) else -1
def mapIn (x : Mapping) : Bool := inB x.dom 0 7 && (inB x.vir 0 1023 && inB x.phy 0 63)
/-- The first k mappings are valid, each the first of its page. -/
def mapsR (l : List Mapping) (k : Nat) : Bool := (List.range k).all fun i : Nat => match l[i]? with | some x => mapIn x && decide (pmI l x.dom x.vir = i) | none => true
def mapsB (l : List Mapping) : Bool := mapsR l l.length && decide (l.length ≤ 96)
theorem pm_at {l : List Mapping} {d v : Int} {k : Nat} {x : Mapping} (h : (l.take k).all (fun y => !hitM d v y) = true) (hx : l[k]? = some x) (hh : hitM d v x = true) : pmI l d v = k := by
  have hk : k < l.length := (List.getElem?_eq_some_iff.1 hx).1
  have hxe : l[k] = x := (List.getElem?_eq_some_iff.1 hx).2
  have : l.findIdx (hitM d v) = k := by
    rw [List.findIdx_eq hk]
    refine ⟨by rw [hxe]; exact hh, fun j hj => ?_⟩
    rw [List.all_eq_true] at h
    have := h l[j] (by rw [List.mem_take_iff_getElem]; exact ⟨j, by omega, rfl⟩)
    simpa using this
  rw [pmI, this, if_pos hk]
theorem pm_none {l : List Mapping} {d v : Int} (h : l.all (fun y => !hitM d v y) = true) : pmI l d v = -1 := by
  have : l.findIdx (hitM d v) = l.length := by
    rw [List.findIdx_eq_length]
    intro x hx
    rw [List.all_eq_true] at h
    simpa using h x hx
  rw [pmI, this, if_neg (by omega)]
theorem pm_le {l : List Mapping} {d v : Int} {k : Nat} {x : Mapping} (hx : l[k]? = some x) (hh : hitM d v x = true) : 0 ≤ pmI l d v ∧ pmI l d v ≤ k := by
  have hk : k < l.length := (List.getElem?_eq_some_iff.1 hx).1
  have hxe : l[k] = x := (List.getElem?_eq_some_iff.1 hx).2
  have : l.findIdx (hitM d v) ≤ k := by
    rcases Nat.lt_or_ge k (l.findIdx (hitM d v)) with h | h
    · have := List.not_of_lt_findIdx h
      simp [hxe, hh] at this
    · exact h
  rw [pmI, if_pos (by omega)]
  omega
theorem pm_bd (l : List Mapping) (d v : Int) : pmI l d v = -1 ∨ ∃ (k : Nat) (x : Mapping), pmI l d v = k ∧ l[k]? = some x ∧ hitM d v x = true := by
  by_cases h : l.findIdx (hitM d v) < l.length
  · refine .inr ⟨_, _, by rw [pmI, if_pos h], List.getElem?_eq_getElem h, List.findIdx_getElem⟩
  · exact .inl (by rw [pmI, if_neg h])
theorem pm_range (l : List Mapping) (d v : Int) : -1 ≤ pmI l d v ∧ pmI l d v < l.length := by
  unfold pmI; split <;> omega
theorem mapsR_next {l : List Mapping} {k : Nat} {x : Mapping} (hx : l[k]? = some x) : mapsR l (k + 1) = (mapsR l k && (mapIn x && decide (pmI l x.dom x.vir = k))) := by
  simp [mapsR, List.range_succ, List.all_append, hx]
theorem mapsR_mono {l : List Mapping} {k n : Nat} (h : mapsR l k = false) (hk : k ≤ n) : mapsR l n = false := by
  rw [mapsR, List.all_eq_false] at *
  obtain ⟨i, hi, hb⟩ := h
  exact ⟨i, by simp at *; omega, hb⟩
theorem mapsR_bad {l : List Mapping} {k n : Nat} {x : Mapping} (hx : l[k]? = some x) (hn : l.length = n) (hb : (mapIn x && decide (pmI l x.dom x.vir = k)) = false) : mapsB l = false := by
  have hk : k < l.length := (List.getElem?_eq_some_iff.1 hx).1
  rw [mapsB, mapsR_mono (n := l.length) (k := k + 1) (by rw [mapsR_next hx, hb, Bool.and_false]) (by omega)]
  rfl
theorem mapsR_ok {l : List Mapping} {k : Nat} {x : Mapping} (h : mapsR l k = true) (hx : l[k]? = some x) (hb : mapIn x = true) (hp : pmI l x.dom x.vir = k) : mapsR l (k + 1) = true := by
  rw [mapsR_next hx, h, hb, hp]; simp
theorem mapsB_el {l : List Mapping} (h : mapsB l = true) {k : Nat} {x : Mapping} (hx : l[k]? = some x) : mapIn x = true ∧ pmI l x.dom x.vir = k := by
  rw [mapsB, Bool.and_eq_true] at h
  have h1 := h.1
  rw [mapsR, List.all_eq_true] at h1
  have hk : k < l.length := (List.getElem?_eq_some_iff.1 hx).1
  have := h1 k (by simpa using hk)
  rw [hx] at this
  simpa using this
theorem mapsB_len {l : List Mapping} (h : mapsB l = true) : l.length ≤ 96 := by
  rw [mapsB, Bool.and_eq_true] at h
  simpa using h.2
theorem mapIn_bd {x : Mapping} (h : mapIn x = true) : 0 ≤ x.dom ∧ x.dom ≤ 7 ∧ 0 ≤ x.vir ∧ x.vir ≤ 1023 ∧ 0 ≤ x.phy ∧ x.phy ≤ 63 := by
  simp only [mapIn, Bool.and_eq_true] at h
  have := inB_t h.1; have := inB_t h.2.1; have := inB_t h.2.2
  omega
/-- The physical page of a device page, -1 if there is none; a write needs a writable mapping. -/
def l17G (l : List Mapping) (d v : Int) (wr : Bool) : Int := match l.find? (fun x => hitM d v x && (x.wr || !wr)) with | some x => x.phy | none => -1
/-- For valid mappings: the page of the first mapping. -/
def pgI (l : List Mapping) (d v : Int) (wr : Bool) : Int := match l[(pmI l d v).toNat]? with
  | some x => if pmI l d v < 0 then -1 else if wr && !x.wr then -1 else x.phy
  | none => -1
/-- The physical address of a device address for valid mappings. -/
def placeI (l : List Mapping) (d a : Int) (wr : Bool) : Int := if a < 0 then -1 else if pgI l d (a / 128) wr < 0 then -1 else pgI l d (a / 128) wr * 128 + a % 128
def transI (l : List Mapping) (d a : Int) (wr : Bool) : Int := if mapsB l then placeI l d a wr else -1
theorem l17G_pg {l : List Mapping} (h : mapsB l = true) (d v : Int) (wr : Bool) : l17G l d v wr = pgI l d v wr := by
  rcases pm_bd l d v with h1 | ⟨k, x, h1, hx, hh⟩
  · have : l.find? (fun x => hitM d v x && (x.wr || !wr)) = none := by
      rw [List.find?_eq_none]
      intro x hx hc
      simp only [Bool.and_eq_true] at hc
      obtain ⟨k, hk⟩ := List.getElem?_of_mem hx
      have := pm_le hk hc.1
      omega
    rw [l17G, this]
    unfold pgI
    rw [h1]
    cases l[(-1 : Int).toNat]? <;> simp
  · have hk : k < l.length := (List.getElem?_eq_some_iff.1 hx).1
    have uniq : ∀ (j : Nat) (y : Mapping), l[j]? = some y → hitM d v y = true → j = k := by
      intro j y hy hj
      have e1 := (mapsB_el h hy).2
      simp only [hitM, Bool.and_eq_true, decide_eq_true_eq] at hj
      rw [hj.1, hj.2, h1] at e1
      omega
    have hpg : pgI l d v wr = if wr && !x.wr then -1 else x.phy := by
      rw [pgI, h1, Int.toNat_natCast, hx]
      simp only
      rw [if_neg (by omega)]
    rw [hpg, l17G]
    cases hf : l.find? (fun x => hitM d v x && (x.wr || !wr)) with
    | none =>
      rw [List.find?_eq_none] at hf
      have := hf x (List.mem_of_getElem? hx)
      simp [hh] at this
      simp [this]
    | some y =>
      have hy := List.find?_some hf
      simp only [Bool.and_eq_true] at hy
      obtain ⟨j, hj⟩ := List.getElem?_of_mem (List.mem_of_find?_eq_some hf)
      obtain rfl := uniq j y hj hy.1
      rw [hx] at hj
      injection hj with hj
      subst hj
      have := hy.2
      cases hw : x.wr <;> cases wr <;> simp_all
theorem pgI_bd {l : List Mapping} (h : mapsB l = true) (d v : Int) (wr : Bool) : -1 ≤ pgI l d v wr ∧ pgI l d v wr ≤ 63 := by
  unfold pgI
  split
  · rename_i x hx
    obtain ⟨h1, _⟩ := mapsB_el h hx
    have := mapIn_bd h1
    split
    · omega
    · split <;> omega
  · omega
theorem find_at {T : Type} {p : T → Bool} {l : List T} {k : Nat} {x : T} (h : (l.take k).all (fun y => !p y) = true) (hx : l[k]? = some x) (hp : p x = true) : l.find? p = some x := by
  have hk : k < l.length := (List.getElem?_eq_some_iff.1 hx).1
  have hxe : l[k] = x := (List.getElem?_eq_some_iff.1 hx).2
  rw [← List.take_append_drop k l, List.find?_append, List.drop_eq_getElem_cons hk, hxe, List.find?_cons, hp]
  have : (l.take k).find? p = none := by
    rw [List.find?_eq_none]
    intro y hy
    rw [List.all_eq_true] at h
    simpa using h y hy
  rw [this]; rfl
theorem find_none' {T : Type} {p : T → Bool} {l : List T} (h : l.all (fun y => !p y) = true) : l.find? p = none := by
  rw [List.find?_eq_none]
  intro y hy
  rw [List.all_eq_true] at h
  simpa using h y hy
def hitW (d v : Int) (wr : Bool) (x : Mapping) : Bool := hitM d v x && (x.wr || !wr)
theorem l17G_at {l : List Mapping} {d v : Int} {wr : Bool} {k : Nat} {x : Mapping} (h : (l.take k).all (fun y => !hitW d v wr y) = true) (hx : l[k]? = some x) (hp : hitW d v wr x = true) : l17G l d v wr = x.phy := by
  have : l.find? (fun x => hitM d v x && (x.wr || !wr)) = some x := find_at h hx hp
  rw [l17G, this]
theorem l17G_none {l : List Mapping} {d v : Int} {wr : Bool} (h : l.all (fun y => !hitW d v wr y) = true) : l17G l d v wr = -1 := by
  have : l.find? (fun x => hitM d v x && (x.wr || !wr)) = none := find_none' h
  rw [l17G, this]
theorem pgI_no {l : List Mapping} {d v : Int} (wr : Bool) (h : pmI l d v = -1) : pgI l d v wr = -1 := by
  unfold pgI
  rw [h]
  cases l[(-1 : Int).toNat]? <;> simp
theorem pgI_at {l : List Mapping} {d v : Int} {k : Nat} {x : Mapping} (wr : Bool) (h : pmI l d v = k) (hx : l[k]? = some x) : pgI l d v wr = if wr && !x.wr then -1 else x.phy := by
  rw [pgI, h, Int.toNat_natCast, hx]
  simp only
  rw [if_neg (by omega)]
end Go.Proofs.Ytnnlagmgdfhaiaa
