/- A memory byte by byte: what is read and what is written. -/
import Derived.Test.YtnnlagmgdfhaiaaDrawMem
import Derived.Test.YtnnlagmgdfhaiaaChanged
namespace Go.Proofs.Ytnnlagmgdfhaiaa
set_option linter.unusedSimpArgs false
set_option linter.unusedVariables false
open Go.RowKit Go.ChangeShapes Go.WideShapes
def bl (s : ByteArray) : List UInt8 := s.data.toList
theorem bl_len (s : ByteArray) : (bl s).length = s.size := by simp [bl]
theorem bl_app (s t : ByteArray) : bl (s ++ t) = bl s ++ bl t := by simp [bl, ByteArray.data_append]
theorem bl_ext {s t : ByteArray} (h : bl s = bl t) : s = t := ByteArray.ext (Array.toList_inj.1 h)
theorem bl_empty : bl ByteArray.empty = [] := rfl
theorem bl_extract (s : ByteArray) (a b : Nat) : bl (s.extract a b) = ((bl s).drop a).take (b - a) := by
  simp [bl, ByteArray.data_extract, Array.toList_extract, List.extract_eq_take_drop]
/-- The byte of an address. -/
def byA (pg : List ByteArray) (p : Nat) : UInt8 := (bl (pg.getD (p / 128) ByteArray.empty)).getD (p % 128) 0
def rowA (pg : List ByteArray) (a n : Nat) : List UInt8 := (List.range n).map fun j => byA pg (a + j)
theorem rowA_add (pg : List ByteArray) (a m n : Nat) : rowA pg a (m + n) = rowA pg a m ++ rowA pg (a + m) n := by
  simp [rowA, List.range_add, List.map_append, List.map_map, Function.comp_def, Nat.add_assoc]
theorem row_page {pg : List ByteArray} {a p : Nat} (hm : memB pg = true) (hp : p ≤ 128 - a % 128) (hlt : a / 128 < pg.length) :
    bl ((pg.getD (a / 128) ByteArray.empty).extract (a % 128) (a % 128 + p)) = rowA pg a p := by
  have hx : pg[a / 128]? = some pg[a / 128] := List.getElem?_eq_getElem hlt
  have hs := memB_el hm hx
  have hg : pg.getD (a / 128) ByteArray.empty = pg[a / 128] := by rw [List.getD_eq_getElem?_getD, hx]; rfl
  rw [bl_extract, hg]
  apply List.ext_getElem
  · simp [rowA, bl_len]; omega
  · intro j h1 h2
    have hj : j < p := by simpa [rowA] using h2
    have e1 : (a + j) / 128 = a / 128 := by omega
    have e2 : (a + j) % 128 = a % 128 + j := by omega
    simp only [rowA, List.getElem_map, List.getElem_range, byA, e1, e2, hg]
    rw [List.getElem_take, List.getElem_drop, List.getD_eq_getElem?_getD, List.getElem?_eq_getElem (by rw [bl_len]; omega)]
    rfl
theorem readG_bl {pg : List ByteArray} (hm : memB pg = true) : ∀ (f a n : Nat) (out : ByteArray), n < f → a + n ≤ 128 * pg.length → bl (readG pg f a n out) = bl out ++ rowA pg a n
  | 0, a, n, out, hf, _ => by omega
  | f + 1, a, n, out, hf, ha => by
    rw [readG]
    by_cases hn : 0 < n
    · rw [if_pos hn]
      have h1 : partN a n ≤ n := Nat.min_le_left _ _
      have h2 : 0 < partN a n := by unfold partN; omega
      have h3 : partN a n ≤ 128 - a % 128 := Nat.min_le_right _ _
      rw [readG_bl hm f _ _ _ (by omega) (by omega), bl_app, row_page hm h3 (by omega), List.append_assoc, ← rowA_add, show partN a n + (n - partN a n) = n by omega]
    · rw [if_neg hn, show n = 0 by omega]; simp [rowA]
theorem readB_bl {pg : List ByteArray} {a n : Int} (h : withB pg a n = true) : bl (readB pg a n) = rowA pg a.toNat n.toNat := by
  obtain ⟨h1, h2, h3, h4⟩ := withB_t h
  rw [readB, h, if_pos rfl, readG_bl h1 _ _ _ _ (by omega) (by omega), bl_empty, List.nil_append]
/-- Bytes that are laid one after the other at addresses. -/
def upd (f : Nat → UInt8) (q : Nat × UInt8) : Nat → UInt8 := fun p => if p = q.1 then q.2 else f p
def wf (f : Nat → UInt8) (ws : List (Nat × UInt8)) : Nat → UInt8 := ws.foldl upd f
theorem wf_app (f : Nat → UInt8) (a b : List (Nat × UInt8)) : wf f (a ++ b) = wf (wf f a) b := by simp [wf]
theorem wf_congr : ∀ {ws : List (Nat × UInt8)} {f g : Nat → UInt8} {p : Nat}, f p = g p → wf f ws p = wf g ws p
  | [], f, g, p, h => h
  | q :: ws, f, g, p, h => by
    show wf (upd f q) ws p = wf (upd g q) ws p
    exact wf_congr (by simp only [upd]; split <;> simp_all)
theorem wf_out : ∀ {ks : List Nat} {vs : List UInt8} {f : Nat → UInt8} {p : Nat}, p ∉ ks → wf f (ks.zip vs) p = f p
  | [], _, f, p, _ => rfl
  | k :: ks, [], f, p, _ => rfl
  | k :: ks, v :: vs, f, p, h => by
    show wf (upd f (k, v)) (ks.zip vs) p = f p
    rw [wf_out (fun e => h (List.mem_cons_of_mem _ e)), upd, if_neg (fun e => h (by rw [e]; exact List.mem_cons_self))]
theorem wf_at : ∀ {ks : List Nat} {vs : List UInt8} {f : Nat → UInt8} {i p : Nat} {v : UInt8}, ks.Nodup → ks[i]? = some p → vs[i]? = some v → wf f (ks.zip vs) p = v
  | [], _, f, i, p, v, _, h, _ => by simp at h
  | k :: ks, [], f, i, p, v, _, _, h => by simp at h
  | k :: ks, u :: vs, f, 0, p, v, hn, hk, hv => by
    simp at hk hv
    subst hk; subst hv
    show wf (upd f (k, u)) (ks.zip vs) k = u
    rw [wf_out (List.nodup_cons.1 hn).1, upd, if_pos rfl]
  | k :: ks, u :: vs, f, i + 1, p, v, hn, hk, hv => by
    show wf (upd f (k, u)) (ks.zip vs) p = v
    exact wf_at (List.nodup_cons.1 hn).2 (by simpa using hk) (by simpa using hv)
theorem seg_nodup (a n : Nat) : ((List.range n).map (a + ·)).Nodup := by
  rw [List.nodup_iff_pairwise_ne, List.pairwise_map]
  exact (List.nodup_iff_pairwise_ne.1 List.nodup_range).imp (fun h e => h (by omega))
theorem wf_seg {f : Nat → UInt8} {a n p : Nat} {vs : List UInt8} (h : vs.length = n) : wf f (((List.range n).map (a + ·)).zip vs) p = if a ≤ p ∧ p < a + n then vs.getD (p - a) 0 else f p := by
  by_cases hp : a ≤ p ∧ p < a + n
  · rw [if_pos hp]
    refine wf_at (i := p - a) (seg_nodup a n) ?_ ?_
    · rw [List.getElem?_map, List.getElem?_range (by omega)]; simp; omega
    · rw [List.getD_eq_getElem?_getD, List.getElem?_eq_getElem (by omega)]; rfl
  · rw [if_neg hp]
    refine wf_out fun e => hp ?_
    obtain ⟨j, hj, rfl⟩ := List.mem_map.1 e
    have := List.mem_range.1 hj
    omega
theorem getD_put {p t : ByteArray} {o j : Nat} (h : o + t.size ≤ p.size) (hj : j < p.size) : (bl (putG p o t)).getD j 0 = if o ≤ j ∧ j < o + t.size then (bl t).getD (j - o) 0 else (bl p).getD j 0 := by
  have hb : bl (putG p o t) = (bl p).take o ++ bl t ++ (bl p).drop (o + t.size) := by
    rw [putG, bl_app, bl_app, bl_extract, bl_extract]
    simp only [List.drop_zero, Nat.sub_zero]
    congr 1
    rw [List.take_of_length_le]
    rw [List.length_drop, bl_len]; omega
  have hl1 : ((bl p).take o).length = o := by rw [List.length_take, bl_len]; omega
  simp only [List.getD_eq_getElem?_getD]
  rw [hb]
  by_cases h1 : j < o
  · rw [if_neg (by omega), List.getElem?_append_left (by rw [List.length_append, hl1]; omega), List.getElem?_append_left (by omega), List.getElem?_take_of_lt h1]
  · by_cases h2 : j < o + t.size
    · rw [if_pos (by omega), List.getElem?_append_left (by rw [List.length_append, hl1, bl_len]; omega), List.getElem?_append_right (by omega), hl1]
    · rw [if_neg (by omega), List.getElem?_append_right (by rw [List.length_append, hl1, bl_len]; omega), List.length_append, hl1, bl_len, List.getElem?_drop, show o + t.size + (j - (o + t.size)) = j by omega]
theorem byA_set {l : List ByteArray} {i p : Nat} {x : ByteArray} (hi : i < l.length) : byA (l.set i x) p = if p / 128 = i then (bl x).getD (p % 128) 0 else byA l p := by
  by_cases h : p / 128 = i
  · have e : (l.set i x).getD i ByteArray.empty = x := by rw [List.getD_eq_getElem?_getD, List.getElem?_set_self hi]; rfl
    rw [if_pos h, byA, h, e]
  · have e : (l.set i x).getD (p / 128) ByteArray.empty = l.getD (p / 128) ByteArray.empty := by
      rw [List.getD_eq_getElem?_getD, List.getD_eq_getElem?_getD, List.getElem?_set_ne (fun e => h e.symm)]
    rw [if_neg h, byA, byA, e]
theorem seg_add (a m n : Nat) : (List.range (m + n)).map (a + ·) = (List.range m).map (a + ·) ++ (List.range n).map (a + m + ·) := by
  simp [List.range_add, List.map_append, List.map_map, Function.comp_def, Nat.add_assoc]
theorem bl_split (s : ByteArray) (k : Nat) : bl (s.extract 0 k) ++ bl (s.extract k s.size) = bl s := by
  rw [bl_extract, bl_extract, List.drop_zero, Nat.sub_zero, List.take_of_length_le (l := (bl s).drop k) (by rw [List.length_drop, bl_len]; omega), List.take_append_drop]
theorem writeG_by : ∀ (f : Nat) (l : List ByteArray) (a : Nat) (s : ByteArray), (∀ (k : Nat) (x : ByteArray), l[k]? = some x → x.size = 128) → s.size < f → a + s.size ≤ 128 * l.length →
    ∀ p, byA (writeG f l a s) p = wf (byA l) (((List.range s.size).map (a + ·)).zip (bl s)) p
  | 0, l, a, s, _, hf, _, p => by omega
  | f + 1, l, a, s, h, hf, ha, p => by
    rw [writeG]
    by_cases h0 : 0 < s.size
    · rw [if_pos h0]
      have hp0 : 0 < partN' a s.size := by unfold partN'; omega
      have hp1 : partN' a s.size ≤ s.size := by unfold partN'; omega
      have hp2 : partN' a s.size ≤ 128 - a % 128 := by unfold partN'; omega
      generalize partN' a s.size = k at *
      have hlt : a / 128 < l.length := by omega
      have hx : l[a / 128]? = some l[a / 128] := List.getElem?_eq_getElem hlt
      have h128 := h _ _ hx
      have hg : l.getD (a / 128) ByteArray.empty = l[a / 128] := by rw [List.getD_eq_getElem?_getD, hx]; rfl
      have hsz : (s.extract 0 k).size = k := by rw [ByteArray.size_extract]; omega
      have hsz2 : (s.extract k s.size).size = s.size - k := by rw [ByteArray.size_extract]; omega
      have hput : (putG l[a / 128] (a % 128) (s.extract 0 k)).size = 128 := by rw [putG_size (by omega), h128]
      rw [hg, writeG_by f _ _ _ (set_all h hput) (by omega) (by rw [List.length_set]; omega)]
      rw [hsz2, show s.size = k + (s.size - k) by omega, seg_add, show k + (s.size - k) = s.size by omega, ← bl_split s k, List.zip_append (by rw [List.length_map, List.length_range, bl_len, hsz]), wf_app]
      refine wf_congr ?_
      rw [wf_seg (by rw [bl_len, hsz]), byA_set hlt]
      by_cases hq : p / 128 = a / 128
      · rw [if_pos hq, getD_put (by omega) (by omega), hsz]
        by_cases hr : a ≤ p ∧ p < a + k
        · rw [if_pos hr, if_pos (by omega)]; congr 1; omega
        · rw [if_neg hr, if_neg (by omega), byA, hq, hg]
      · rw [if_neg hq, if_neg (by omega)]
    · rw [if_neg h0, show s.size = 0 by omega]; rfl
theorem writeL_by {l : List ByteArray} {a : Int} {s : ByteArray} (h : withB l a s.size = true) (p : Nat) : byA (writeL l a s) p = wf (byA l) (((List.range s.size).map (a.toNat + ·)).zip (bl s)) p := by
  obtain ⟨h1, h2, h3, h4⟩ := withB_t h
  rw [writeL, h, if_pos rfl, writeG_by _ _ _ _ (fun _ _ => memB_el h1) (by omega) (by omega)]
theorem writeL_no {l : List ByteArray} {a : Int} {s : ByteArray} (h : withB l a s.size = false) : writeL l a s = l := by rw [writeL, h]; rfl
/-- Pages of the same bytes are the same. -/
theorem page_eq {l l' : List ByteArray} (h : memB l = true) (h' : memB l' = true) (hl : l.length = l'.length) {k : Nat} (hb : ∀ p, p / 128 = k → byA l p = byA l' p) : l[k]? = l'[k]? := by
  by_cases hk : k < l.length
  · have hx : l[k]? = some l[k] := List.getElem?_eq_getElem hk
    have hx' : l'[k]? = some l'[k] := List.getElem?_eq_getElem (by omega)
    have s1 := memB_el h hx
    have s2 := memB_el h' hx'
    rw [hx, hx']
    congr 1
    apply bl_ext
    apply List.ext_getElem
    · rw [bl_len, bl_len, s1, s2]
    · intro j h1 h2
      rw [bl_len] at h1 h2
      have := hb (128 * k + j) (by omega)
      simp only [byA, show (128 * k + j) / 128 = k by omega, show (128 * k + j) % 128 = j by omega, List.getD_eq_getElem?_getD, hx, hx', Option.getD_some] at this
      rwa [List.getElem?_eq_getElem (by rw [bl_len]; omega), List.getElem?_eq_getElem (by rw [bl_len]; omega)] at this
  · rw [List.getElem?_eq_none (by omega), List.getElem?_eq_none (by omega)]
theorem chg_mem {l l' : List ByteArray} (h : memB l = true) (h' : memB l' = true) (hl : l.length = l'.length) {x : Int} {n : Nat} (hx : x ∈ chgK l l' n) : ∃ p : Nat, x = ((p / 128 : Nat) : Int) ∧ p / 128 < n ∧ byA l p ≠ byA l' p := by
  obtain ⟨k, hk, rfl⟩ := List.mem_map.1 hx
  obtain ⟨h1, h2⟩ := List.mem_filter.1 hk
  have h1 := List.mem_range.1 h1
  simp only [decide_eq_true_eq] at h2
  apply Classical.byContradiction
  intro hc
  apply h2
  refine page_eq h h' hl fun p hp => ?_
  apply Classical.byContradiction
  intro hne
  exact hc ⟨p, by rw [hp], by omega, hne⟩
theorem chg_self (l : List ByteArray) (n : Nat) : chgK l l n = [] := by simp [chgK]
/-- What FnMemoryRound asks. -/
theorem round_read {l : List ByteArray} {a : Int} {s : ByteArray} (h : withB l a s.size = true) : withB (writeL l a s) a s.size = true ∧ readB (writeL l a s) a s.size = s := by
  obtain ⟨h1, h2, h3, h4⟩ := withB_t h
  have hw : withB (writeL l a s) a s.size = true := by
    simp only [withB, memB_write h1, writeL_len', Bool.true_and, Bool.and_eq_true, decide_eq_true_eq]; omega
  refine ⟨hw, bl_ext ?_⟩
  rw [readB_bl hw]
  apply List.ext_getElem
  · simp [rowA, bl_len]
  · intro j g1 g2
    rw [bl_len] at g2
    simp only [rowA, List.getElem_map, List.getElem_range]
    rw [writeL_by h, wf_seg (bl_len s), if_pos (by omega), show a.toNat + j - a.toNat = j by omega, List.getD_eq_getElem?_getD, List.getElem?_eq_getElem (by rw [bl_len]; omega)]
    rfl
theorem round_head {l : List ByteArray} {a k : Int} {s : ByteArray} (hm : memB l = true) (hk0 : 0 ≤ k) (hka : k ≤ a) (hkl : k ≤ 128 * (l.length : Int)) : withB (writeL l a s) 0 k = true ∧ readB (writeL l a s) 0 k = readB l 0 k := by
  have w1 : withB l 0 k = true := by simp only [withB, hm, Bool.true_and, Bool.and_eq_true, decide_eq_true_eq]; omega
  have w2 : withB (writeL l a s) 0 k = true := by
    simp only [withB, memB_write hm, writeL_len', Bool.true_and, Bool.and_eq_true, decide_eq_true_eq]; omega
  refine ⟨w2, bl_ext ?_⟩
  rw [readB_bl w1, readB_bl w2]
  cases h : withB l a s.size
  · rw [writeL_no h]
  · apply List.map_congr_left
    intro j hj
    have := List.mem_range.1 hj
    rw [writeL_by h, wf_seg (bl_len s), if_neg (by omega)]
theorem round_chg {l : List ByteArray} {a : Int} {s : ByteArray} (hm : memB l = true) {x : Int} {n : Nat} (hx : x ∈ chgK l (writeL l a s) n) : a / 128 ≤ x ∧ x ≤ (a + s.size) / 128 := by
  cases h : withB l a s.size
  · rw [writeL_no h, chg_self] at hx; simp at hx
  · obtain ⟨_, h2, h3, h4⟩ := withB_t h
    obtain ⟨p, rfl, _, hne⟩ := chg_mem hm (memB_write hm a s) (writeL_len' l a s).symm hx
    rw [writeL_by h, wf_seg (bl_len s)] at hne
    by_cases hc : a.toNat ≤ p ∧ p < a.toNat + s.size
    · omega
    · rw [if_neg hc] at hne; exact absurd rfl hne
end Go.Proofs.Ytnnlagmgdfhaiaa
