/- Contracts of UnmapPage: impl and spec. -/
import Derived.Test.YtnnlagmgdfhaiaaMapPage
namespace Go.Proofs.Ytnnlagmgdfhaiaa
set_option linter.unusedSimpArgs false
set_option linter.unusedVariables false
open Go.RowKit Go.ChangeShapes Go.WideShapes
def unOk (l : List Mapping) (d v : Int) : Bool := mapsB l && decide (0 ≤ pmI l d v)
def unF (l : List Mapping) (d v : Int) : List Mapping := l.filter fun x => !hitM d v x
def unL (l : List Mapping) (d v : Int) : List Mapping := if unOk l d v then unF l d v else l
theorem unF_none {l : List Mapping} {d v : Int} (h : pmI l d v = -1) : unF l d v = l := by
  rw [unF, List.filter_eq_self]
  intro x hx
  obtain ⟨k, hk⟩ := List.getElem?_of_mem hx
  cases hh : hitM d v x
  · rfl
  · have := pm_le hk hh
    omega
theorem unF_at {l : List Mapping} {d v : Int} {k : Nat} (h : mapsB l = true) (hp : pmI l d v = k) : unF l d v = l.take k ++ l.drop (k + 1) := by
  rcases pm_bd l d v with h1 | ⟨k', x, h1, hx, hh⟩
  · omega
  · have hkk : k' = k := by omega
    subst hkk
    have hk : k' < l.length := (List.getElem?_eq_some_iff.1 hx).1
    have hxe : l[k'] = x := (List.getElem?_eq_some_iff.1 hx).2
    have uniq : ∀ (j : Nat) (y : Mapping), l[j]? = some y → hitM d v y = true → j = k' := by
      intro j y hy hj
      have e1 := (mapsB_el h hy).2
      simp only [hitM, Bool.and_eq_true, decide_eq_true_eq] at hj
      rw [hj.1, hj.2, h1] at e1
      omega
    have e1 : (l.take k').filter (fun x => !hitM d v x) = l.take k' := by
      rw [List.filter_eq_self]
      intro y hy
      obtain ⟨j, hj⟩ := List.getElem?_of_mem hy
      rw [List.getElem?_take] at hj
      split at hj
      · cases hh2 : hitM d v y
        · rfl
        · have := uniq j y hj hh2; omega
      · cases hj
    have e2 : (l.drop (k' + 1)).filter (fun x => !hitM d v x) = l.drop (k' + 1) := by
      rw [List.filter_eq_self]
      intro y hy
      obtain ⟨j, hj⟩ := List.getElem?_of_mem hy
      rw [List.getElem?_drop] at hj
      cases hh2 : hitM d v y
      · rfl
      · have := uniq _ y hj hh2; omega
    have e0 : l = l.take k' ++ x :: l.drop (k' + 1) := by
      rw [← hxe, ← List.drop_eq_getElem_cons hk, List.take_append_drop]
    rw [unF, e0, List.filter_append, List.filter_cons]
    simp only [hh, Bool.not_true, Bool.false_eq_true, if_false]
    rw [← e0, e1, e2]
theorem unF_len {l : List Mapping} {d v : Int} {k : Nat} (h : mapsB l = true) (hp : pmI l d v = k) : (unF l d v).length + 1 = l.length := by
  have hr := pm_range l d v
  rw [unF_at h hp, List.length_append, List.length_take, List.length_drop]
  omega
theorem flat_take (l : List Mapping) : ∀ k : Nat, (l.flatMap Mapping.cells).take (k * 4) = (l.take k).flatMap Mapping.cells := by
  induction l with
  | nil => intro k; simp
  | cons x l ih =>
    intro k
    cases k with
    | zero => simp
    | succ k =>
      rw [List.flatMap_cons, List.take_succ_cons, List.flatMap_cons, show (k + 1) * 4 = x.cells.length + k * 4 by simp [Mapping.cells]; omega, List.take_length_add_append, ih]
theorem flat_drop (l : List Mapping) : ∀ k : Nat, (l.flatMap Mapping.cells).drop (k * 4) = (l.drop k).flatMap Mapping.cells := by
  induction l with
  | nil => intro k; simp
  | cons x l ih =>
    intro k
    cases k with
    | zero => simp
    | succ k =>
      rw [List.flatMap_cons, List.drop_succ_cons, show (k + 1) * 4 = x.cells.length + k * 4 by simp [Mapping.cells]; omega, List.drop_length_add_append, ih]
theorem flat_cut (l : List Mapping) (k : Nat) : (l.flatMap Mapping.cells).take (k * 4) ++ (l.flatMap Mapping.cells).drop ((k + 1) * 4) = (l.take k ++ l.drop (k + 1)).flatMap Mapping.cells := by
  rw [flat_take, flat_drop, List.flatMap_append]
theorem own_take {w : World} {base n c i size : Nat} {e : TypeId} {A : Option Addr} {xs : List Value} (h : w.ownsRow base e size (.slice A n c) n xs) (hi : i ≤ n) (hi0 : 0 < n) : w.ownsRow base e size (.slice A i c) i (xs.take (i * size)) := by
  have hl := h.1
  rcases h.2 with ⟨hv, hn⟩ | ⟨g, cap, cur, hv, hg, hh, hnc, hcm, hsz, ht⟩
  · omega
  · injection hv with h1 h2 h3
    subst h1; subst h3
    have hle : i * size ≤ n * size := Nat.mul_le_mul_right _ hi
    refine ⟨by rw [List.length_take, hl]; omega, .inr ⟨g, c, cur, rfl, hg, hh, by omega, hcm, hsz, ?_⟩⟩
    rw [← ht, List.take_take]; congr 1; omega
set_option maxRecDepth 100000 in
set_option maxHeartbeats 4000000 in
theorem implUnmapPage_c (A : Option Addr) (n c : Nat) (l : List Mapping) (w : World) (hn : l.length = n) (hm : n ≤ 1048576) (hr : Reads w w.heap.size 4 A n (l.flatMap Mapping.cells)) (d v : Int) :
    Calls Try.prog 31 #[.slice A n c, .int .i64 d, .int .i64 v] w fun e w' => ∃ A' c', e = .returned (.tuple #[.slice A' (unL l d v).length c', .bool (unOk l d v)]) ∧ w'.ownsRow w.heap.size 51 4 (.slice A' (unL l d v).length c') (unL l d v).length ((unL l d v).flatMap Mapping.cells) ∧ Below w.heap.size w w' := by
  obtain ⟨i0, hi, hz0, hz1, hz2⟩ := info_parts info_Mapping
  rcases pm_bd l d v with hp | ⟨k, x, hp, hx, hh⟩
  · have HP := Lib.hid hp
    have hL : unL l d v = l := by simp [unL, unOk, hp]
    have hO : unOk l d v = false := by simp [unOk, hp]
    have HL := Lib.hid hL
    have HO := Lib.hid hO
    clear hL hO
    clear hp
    go_enter Try.func31, Try.ntmps31
    go_wp2_with (first | (go_at_call 90; refine (copyMappings_c _ _ _ l _ hn (by omega) hr).mono ?_; rintro e w1 ⟨v1, rfl, ho1, k1⟩; have hr1 := hr.to k1; obtain ⟨A1, c1, rfl, _, hnc1, hc1⟩ := own_form ho1) | (go_at_call 92; refine (pageMapping_c _ _ _ l _ hn (by omega) hr1 d v).mono ?_; rintro e w2 ⟨rfl, hb⟩; have k2 := ext_step k1 k1.size hb; have hr2 := hr.to k2; have ho2 := own_ext ho1 hb; rw [HP.out]; clear hb))
    go_ret2
    rw [HL.out, HO.out, hn]
    exact ⟨A1, c1, rfl, ho2, k2⟩
  · have HP := Lib.hid hp
    have k0 : ¬ (k : Int) < 0 := by omega
    cases e1 : mapsB l
    · have hL : unL l d v = l := by simp [unL, unOk, e1]
      have hO : unOk l d v = false := by simp [unOk, e1]
      have HL := Lib.hid hL
      have HO := Lib.hid hO
      clear hL hO
      clear hp
      go_enter Try.func31, Try.ntmps31
      go_wp2_with (first | (go_at_call 90; refine (copyMappings_c _ _ _ l _ hn (by omega) hr).mono ?_; rintro e w1 ⟨v1, rfl, ho1, k1⟩; have hr1 := hr.to k1; obtain ⟨A1, c1, rfl, _, hnc1, hc1⟩ := own_form ho1) | (go_at_call 92; refine (pageMapping_c _ _ _ l _ hn (by omega) hr1 d v).mono ?_; rintro e w2 ⟨rfl, hb⟩; have k2 := ext_step k1 k1.size hb; have hr2 := hr.to k2; have ho2 := own_ext ho1 hb; rw [HP.out]; clear hb) | (go_at_call 38; refine (calls_bool (implMappingsOk_c _ _ _ l _ hn (by omega) hr2) e1).mono ?_; rintro e w3 ⟨rfl, hb⟩; have k3 := ext_step k2 k2.size hb; have ho3 := own_ext ho2 hb; clear hb))
      go_ret2
      rw [HL.out, HO.out, hn]
      exact ⟨A1, c1, rfl, ho3, k3⟩
    · have hkn : k < n := by rw [← hn]; exact (List.getElem?_eq_some_iff.1 hx).1
      have hO : unOk l d v = true := by simp [unOk, e1, hp]
      have hL : unL l d v = l.take k ++ l.drop (k + 1) := by rw [unL, hO, if_pos rfl, unF_at e1 hp]
      have hlen : (l.take k ++ l.drop (k + 1)).length = k + (n - (k + 1)) := by rw [List.length_append, List.length_take, List.length_drop, hn]; omega
      have HL := Lib.hid hL
      have HO := Lib.hid hO
      have HN := Lib.hid hlen
      have a0 : (0 : Int) ≤ (k : Int) := by omega
      have a1 : (k : Int) < (n : Int) := by omega
      clear hL hO hp hlen
      go_enter Try.func31, Try.ntmps31
      go_wp2_with (first | (go_at_call 90; refine (copyMappings_c _ _ _ l _ hn (by omega) hr).mono ?_; rintro e w1 ⟨v1, rfl, ho1, k1⟩; have hr1 := hr.to k1; obtain ⟨A1, c1, rfl, _, hnc1, hc1⟩ := own_form ho1) | (go_at_call 92; refine (pageMapping_c _ _ _ l _ hn (by omega) hr1 d v).mono ?_; rintro e w2 ⟨rfl, hb⟩; have k2 := ext_step k1 k1.size hb; have hr2 := hr.to k2; have ho2 := own_ext ho1 hb; rw [HP.out]; clear hb) | (go_at_call 38; refine (calls_bool (implMappingsOk_c _ _ _ l _ hn (by omega) hr2) e1).mono ?_; rintro e w3 ⟨rfl, hb⟩; have k3 := ext_step k2 k2.size hb; have ho3 := own_ext ho2 hb; clear hb))
      have a2 : (k : Int) ≤ (c1 : Int) := by omega
      have a3 : (k : Int) + 1 ≤ (n : Int) := by omega
      have a4 : (n : Int) ≤ (c1 : Int) := by omega
      have a5 : (0 : Int) ≤ (k : Int) + 1 := by omega
      have hA1 : k + (n - (k + 1)) ≤ maxLen := by unfold maxLen; omega
      have hA2 : (k + (n - (k + 1))) * 32 ≤ 140737488355328 := by omega
      have hA3 : (0 : Nat) < 4 := by omega
      have hw1 : IntKind.i64.wrap ((k : Int) + 1) = (k : Int) + 1 := IntWalk.i64_in _ ⟨by omega, by omega⟩
      have hw2 : ((k : Int) + 1).toNat = k + 1 := by omega
      have hod := own_ext ho3 ((Below.refl _ _).drew)
      have hsrc := (Reads.of_own hod).cut (k := k + 1) (by omega) hnc1
      have htk := own_take hod (i := k) (by omega) (by omega)
      have hbs : w.heap.size ≤ w3.drew.heap.size := by have := k3.size; simpa using this
      have hone : ∀ u ∈ (l.flatMap Mapping.cells).drop ((k + 1) * 4), u.oneCell' = true := fun u hu => (one_flat fun x u hu => by simp [Mapping.cells] at hu; rcases hu with rfl | rfl | rfl | rfl <;> rfl) u (List.mem_of_mem_drop hu)
      have a6 : (k : Int) ≤ (k : Int) + 1 := by omega
      have hnk := HN.out
      generalize hmm : n - (k + 1) = m at *
      have HN := Lib.hid hnk
      clear hnk
      by_cases hc : c1 = k + 1
      all_goals
        first
          | (rw [if_pos hc] at hsrc; obtain rfl : m = 0 := (by omega); subst hc)
          | rw [if_neg hc] at hsrc
        first
          | (go_region_held3 (fun _ => True) (trivial)
              ((refine step_append_any _ (by rfl) _ _ 36 (by rfl) w.heap.size 51 i0 (.agg #[.int .i64 0, .int .i64 0, .int .i64 0, .bool false]) 4 32 Try.underlying36 hi hz0 hz1 hz2 rfl hA3 _ k ((l.flatMap Mapping.cells).take (k * 4)) (by rfl) htk _ _ _ _ _ (by rfl) hsrc hone hA1 hA2 hbs ?_; intro v2 w2 hown2 hg2 hat2)))
        clear hw1 hw2
        obtain ⟨A9, c9, rfl, _, _, _⟩ := own_form hown2
        have hfl : (l.flatMap Mapping.cells).take (k * 4) ++ (l.flatMap Mapping.cells).drop ((k + 1) * 4) = (l.take k ++ l.drop (k + 1)).flatMap Mapping.cells := flat_cut l k
        rw [hfl] at hown2
        have hk4 : Below w.heap.size w w2 := below_app (k3.trans ((Below.refl _ _).drew)) htk hg2 hbs
        go_wp2
        go_ret2
        rw [HL.out, HO.out, HN.out]
        exact ⟨A9, c9, rfl, hown2, hk4⟩
theorem unF_next {l : List Mapping} {d v : Int} {k : Nat} {x : Mapping} (hx : l[k]? = some x) (h : hitM d v x = false) : unF (l.take (k + 1)) d v = unF (l.take k) d v ++ [x] := by
  rw [take_next hx, unF, List.filter_append]; simp [unF, h]
theorem unF_skip {l : List Mapping} {d v : Int} {k : Nat} {x : Mapping} (hx : l[k]? = some x) (h : hitM d v x = true) : unF (l.take (k + 1)) d v = unF (l.take k) d v := by
  rw [take_next hx, unF, List.filter_append]; simp [unF, h]
theorem unF_le (l : List Mapping) (d v : Int) : (unF l d v).length ≤ l.length := List.length_filter_le _ _
end Go.Proofs.Ytnnlagmgdfhaiaa
