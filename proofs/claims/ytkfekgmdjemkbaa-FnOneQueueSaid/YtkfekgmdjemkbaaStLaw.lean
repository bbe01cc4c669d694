/- Plain laws on steering: putting a flow keeps a table, a packet's queue depends on its flow and its tag, each packet comes to one queue or is dropped. -/
import Derived.Test.YtkfekgmdjemkbaaStJ0
import Derived.Test.YtkfekgmdjemkbaaStPut
namespace Go.Proofs.Ytkfekgmdjemkbaa
set_option linter.unusedSimpArgs false
set_option linter.unusedVariables false
open Go.RowKit Go.ChangeShapes Go.WideShapes
theorem slt_set {l : List Slot} {i j : Nat} {y : Slot} (hi : i < l.length) : slt (l.set i y) j = if i = j then y else slt l j := by
  unfold slt
  by_cases h : i = j
  · subst h; rw [if_pos rfl, List.getElem?_set_self hi]; rfl
  · rw [if_neg h, List.getElem?_set_ne h]
theorem hitF_iff {f : Flow} {x : Slot} : hitF f x = true ↔ x.state = 1 ∧ x.flow = f := by simp [hitF]
theorem slotF_flow (f : Flow) (q : Int) : (slotF f q).flow = f := rfl
theorem fndG_same {l l' : List Slot} (h : ∀ j, (slt l' j).state = (slt l j).state ∧ (slt l' j).flow = (slt l j).flow) (f : Flow) : ∀ n k, fndG l' f n k = fndG l f n k
  | 0, _ => rfl
  | n + 1, k => by
    have hh : hitF f (slt l' (way f k)) = hitF f (slt l (way f k)) := by simp only [hitF, (h _).1, (h _).2]
    rw [fndG, fndG, fndG_same h f n (k + 1), (h _).1, hh]
/-- A slot that was not used is used: what was found is found. -/
theorem fndG_other {l : List Slot} {i : Nat} {f g : Flow} {q : Int} (hi : i < l.length) (hs : (slt l i).state ≠ 1) (hne : g ≠ f) {K : Nat} : ∀ n k, fndG l g n k = (K : Int) → fndG (l.set i (slotF f q)) g n k = (K : Int)
  | 0, _, h => by simp only [fndG] at h; omega
  | n + 1, k, h => by
    rw [fndG] at h ⊢
    rw [slt_set hi]
    by_cases h0 : (slt l (way g k)).state = 0
    · rw [if_pos h0] at h; omega
    · rw [if_neg h0] at h
      by_cases e : i = way g k
      · rw [if_pos e, if_neg (show ¬ (slotF f q).state = 0 from (by decide : ¬ (1 : Int) = 0))]
        rw [← e] at h
        rw [if_neg (by rw [hitF_iff]; exact fun h2 => hs h2.1)] at h
        rw [if_neg (by rw [hitF_iff]; exact fun h2 => hne (by rw [← h2.2]; rfl))]
        exact fndG_other hi hs hne n (k + 1) h
      · rw [if_neg e, if_neg h0]
        by_cases e2 : hitF g (slt l (way g k)) = true
        · rw [if_pos e2] at h ⊢; exact h
        · rw [if_neg e2] at h ⊢
          exact fndG_other hi hs hne n (k + 1) h
/-- The first slot that is not used takes the flow: it is found there. -/
theorem fndG_new {l : List Slot} {i : Nat} {f : Flow} {q : Int} (hi : i < l.length) (hs : (slt l i).state ≠ 1) (hno : ∀ j, j < 8 → hitF f (slt l j) = false) : ∀ n k, frG l f n k = (i : Int) → fndG (l.set i (slotF f q)) f n k = (i : Int)
  | 0, _, h => by simp only [frG] at h; omega
  | n + 1, k, h => by
    rw [frG] at h
    rw [fndG, slt_set hi]
    by_cases h1 : (slt l (way f k)).state = 1
    · rw [if_pos h1] at h
      have e : i ≠ way f k := fun e => hs (by rw [e]; exact h1)
      rw [if_neg e, if_neg (by rw [h1]; decide), if_neg (by rw [hno _ (way_lt _ _)]; decide)]
      exact fndG_new hi hs hno n (k + 1) h
    · rw [if_neg h1] at h
      have e : i = way f k := by omega
      rw [if_pos e, if_neg (show ¬ (slotF f q).state = 0 from (by decide : ¬ (1 : Int) = 0)), if_pos (by rw [hitF_iff]; exact ⟨rfl, rfl⟩)]
      omega
theorem tableB_slot {l : List Slot} (h : tableB l = true) {k : Nat} (hk : k < 8) : slot0 (slt l k) = true ∧ ((slt l k).state = 1 → fndI l (slt l k).flow = k) := by
  rw [tableB, Bool.and_eq_true] at h
  have a := slotsR_el h.2 hk
  simp only [slotB, Bool.and_eq_true, Bool.or_eq_true, Bool.not_eq_true', decide_eq_false_iff_not, decide_eq_true_eq] at a
  exact ⟨a.1, fun h1 => a.2.resolve_left (fun h2 => h2 h1)⟩
theorem tableB_mk {l : List Slot} (hl : l.length = 8) (h : ∀ k, k < 8 → slot0 (slt l k) = true ∧ ((slt l k).state = 1 → fndI l (slt l k).flow = k)) : tableB l = true := by
  rw [tableB, Bool.and_eq_true, decide_eq_true_eq]
  refine ⟨hl, ?_⟩
  rw [slotsR, List.all_eq_true]
  intro k hk
  obtain ⟨h1, h2⟩ := h k (List.mem_range.1 hk)
  simp only [slotB, Bool.and_eq_true, Bool.or_eq_true, Bool.not_eq_true', decide_eq_false_iff_not, decide_eq_true_eq]
  exact ⟨h1, Classical.or_iff_not_imp_left.2 fun h3 => h2 (by simpa using h3)⟩
theorem slot0_F {f : Flow} {q : Int} (hq : inB q 0 3 = true) : slot0 (slotF f q) = true := by
  simp only [slot0, slotF, hq]; simp [inB]
theorem frG_st {l : List Slot} {f : Flow} {i : Nat} : ∀ n k, frG l f n k = (i : Int) → (slt l i).state ≠ 1
  | 0, _, h => by simp only [frG] at h; omega
  | n + 1, k, h => by
    rw [frG] at h
    by_cases h1 : (slt l (way f k)).state = 1
    · rw [if_pos h1] at h; exact frG_st n (k + 1) h
    · rw [if_neg h1] at h
      have e : i = way f k := by omega
      rw [e]; exact h1
/-- A flow that has been put is found where it was put; the table is sound. -/
theorem put_ok {l : List Slot} {f : Flow} {q : Int} (h : tpB l f q = true) : tableB (tpL l f q) = true ∧ ∃ i : Nat, i < 8 ∧ tpL l f q = l.set i (slotF f q) ∧ soI (tpL l f q) f = i := by
  have hL : tpL l f q = l.set (tpI l f).toNat (slotF f q) := by rw [tpL, if_pos h]
  simp only [tpB, Bool.and_eq_true, decide_eq_true_eq] at h
  obtain ⟨⟨ht, hq⟩, h0⟩ := h
  have hl := tableB_len ht
  have key : ∃ i : Nat, i < 8 ∧ tpI l f = i ∧ (∀ k, k < 8 → slot0 (slt (l.set i (slotF f q)) k) = true ∧ ((slt (l.set i (slotF f q)) k).state = 1 → fndI (l.set i (slotF f q)) (slt (l.set i (slotF f q)) k).flow = k)) ∧ fndI (l.set i (slotF f q)) f = i := by
    by_cases hs : 0 ≤ soI l f
    · rcases soI_cases l f with ⟨h1, _⟩ | ⟨i, h1, h2, h3⟩
      · omega
      · have hi : i < l.length := h2
        obtain ⟨s1, f1⟩ := hit_t h3
        have hsame : ∀ j, (slt (l.set i (slotF f q)) j).state = (slt l j).state ∧ (slt (l.set i (slotF f q)) j).flow = (slt l j).flow := by
          intro j
          rw [slt_set hi]
          by_cases e : i = j
          · subst e; rw [if_pos rfl, s1, f1]; exact ⟨rfl, rfl⟩
          · rw [if_neg e]; exact ⟨rfl, rfl⟩
        have hf : ∀ g, fndI (l.set i (slotF f q)) g = fndI l g := fun g => fndG_same hsame g 8 0
        refine ⟨i, by omega, by rw [tpI, if_pos hs, h1], fun k hk => ⟨?_, fun hk1 => ?_⟩, ?_⟩
        · rw [slt_set hi]
          by_cases e : i = k
          · rw [if_pos e]; exact slot0_F hq
          · rw [if_neg e]; exact (tableB_slot ht hk).1
        · rw [hf, (hsame k).2]
          rw [(hsame k).1] at hk1
          exact (tableB_slot ht hk).2 hk1
        · rw [hf, ← so_fnd ht f, h1]
    · rcases soI_cases l f with ⟨_, hno⟩ | ⟨i, h1, _, _⟩
      · rw [tpI, if_neg hs] at h0
        obtain ⟨i, hi0⟩ := Int.eq_ofNat_of_zero_le h0
        have hb := frG_bd l f 8 0
        have hi : i < l.length := by omega
        have hst := frG_st 8 0 hi0
        have hnew : fndI (l.set i (slotF f q)) f = i := fndG_new hi hst (fun j hj => hno j (by omega)) 8 0 hi0
        refine ⟨i, by omega, by rw [tpI, if_neg hs]; exact hi0, fun k hk => ?_, hnew⟩
        rw [slt_set hi]
        by_cases e : i = k
        · subst e; rw [if_pos rfl]; exact ⟨slot0_F hq, fun _ => hnew⟩
        · rw [if_neg e]
          refine ⟨(tableB_slot ht hk).1, fun hk1 => ?_⟩
          refine fndG_other hi hst (fun e2 => ?_) 8 0 ((tableB_slot ht hk).2 hk1)
          have := hno k (by omega)
          rw [← e2, used_hit hk1] at this
          exact absurd this (by decide)
      · omega
  obtain ⟨i, hi, hti, hk, hf⟩ := key
  have e : (tpI l f).toNat = i := by omega
  rw [e] at hL
  have hT : tableB (l.set i (slotF f q)) = true := tableB_mk (by rw [List.length_set]; exact hl) hk
  rw [hL]
  exact ⟨hT, i, hi, rfl, by rw [so_fnd hT f]; exact hf⟩
theorem put_table {l : List Slot} {f : Flow} {q : Int} (h : tableB l = true) : tableB (tpL l f q) = true := by
  cases hb : tpB l f q
  · rw [tpL, if_neg (by rw [hb]; decide)]; exact h
  · exact (put_ok hb).1
theorem put_queue {l : List Slot} {f : Flow} {q n : Int} (h : ∀ x ∈ l, x.queue < n) (hq : q < n) : ∀ x ∈ tpL l f q, x.queue < n := by
  intro x hx
  unfold tpL at hx
  split at hx
  · rcases List.mem_or_eq_of_mem_set hx with hx | rfl
    · exact h x hx
    · exact hq
  · exact h x hx
theorem steerB_split {rs : List Rule} {l : List Slot} {key : ByteArray} {tb : List Int} {q : Int} : steerB rs l key tb q = true ↔ rulesB rs = true ∧ tableB l = true ∧ spreadB key tb q = true ∧ (∀ r ∈ rs, r.queue < q) ∧ ∀ x ∈ l, x.queue < q := by
  simp only [steerB, Bool.and_eq_true, List.all_eq_true, Bool.not_eq_true', decide_eq_false_iff_not, Int.not_le]
  constructor
  · rintro ⟨⟨⟨⟨a, b⟩, c⟩, d⟩, e⟩; exact ⟨a, b, c, d, e⟩
  · rintro ⟨a, b, c, d, e⟩; exact ⟨⟨⟨⟨a, b⟩, c⟩, d⟩, e⟩
/-- A packet's queue depends on its flow and its tag. -/
theorem mat_same {p p' : Packet} (h : superB p = true) (h' : superB p' = true) (hf : flowP p = flowP p') (hv : p.vlan = p'.vlan) (r : Rule) : matB r p = matB r p' := by
  simp only [flowP, Flow.mk.injEq] at hf
  obtain ⟨e1, e2, e3, e4, e5⟩ := hf
  simp only [matB, hitR, h, h', e1, e2, e5, hv]
theorem best_same {p p' : Packet} (h : superB p = true) (h' : superB p' = true) (hf : flowP p = flowP p') (hv : p.vlan = p'.vlan) (l : List Rule) : ∀ k, bestR l p k = bestR l p' k
  | 0 => rfl
  | k + 1 => by
    rw [bestR, bestR, best_same h h' hf hv l k]
    cases l[k]? with
    | none => rfl
    | some r => simp only [mat_same h h' hf hv r]
theorem steer_same {p p' : Packet} (h : superB p = true) (h' : superB p' = true) (hf : flowP p = flowP p') (hv : p.vlan = p'.vlan) (rs : List Rule) (l : List Slot) (key : ByteArray) (tb : List Int) (q : Int) : steerI rs l key tb q p = steerI rs l key tb q p' := by
  have hr : ruleI rs p = ruleI rs p' := by simp only [ruleI, best_same h h' hf hv rs]
  simp only [steerI, h, h', hf, hr]
theorem steer_bd {rs : List Rule} {l : List Slot} {key : ByteArray} {tb : List Int} {q : Int} (h : steerB rs l key tb q = true) (p : Packet) : -1 ≤ steerI rs l key tb q p ∧ steerI rs l key tb q p < q := by
  have hs := steerB_split.1 h
  obtain ⟨hr, ht, hsp, hrq, hlq⟩ := hs
  have hsp2 := hsp
  simp only [spreadB, sizeB, inB, Bool.and_eq_true, Bool.or_eq_true, decide_eq_true_eq, List.all_eq_true] at hsp2
  obtain ⟨⟨⟨⟨q1, q2⟩, _⟩, hsz⟩, htb⟩ := hsp2
  rw [steerI]
  split
  · split
    · split
      · rename_i r hr2
        have hm := List.mem_of_getElem? hr2
        have := ruleB_t (rulesB_el hr hm)
        have := hrq r hm
        split <;> omega
      · omega
    · split
      · rename_i h3
        have hb := soI_bd l (flowP p)
        have hl := tableB_len ht
        have hi : (soI l (flowP p)).toNat < 8 := by omega
        have h4 := slot_bd ht hi
        have h5 := hlq _ (List.mem_of_getElem? (slt_some (show (soI l (flowP p)).toNat < l.length by omega)))
        omega
      · have hm : (hashI key (flowP p) % (tb.length : Int)).toNat < tb.length := by
          have h1 := Int.emod_nonneg (hashI key (flowP p)) (show (tb.length : Int) ≠ 0 by omega)
          have h2 := Int.emod_lt_of_pos (hashI key (flowP p)) (show (0 : Int) < tb.length by omega)
          omega
        rw [tabI, List.getElem?_eq_getElem hm]
        have := htb _ (List.getElem_mem hm)
        simp only [Option.getD_some]
        omega
  · omega
/-- How many packets come to the first k queues. -/
def sumQ (F : Packet → Int) (lp : List Packet) : Nat → Nat
  | 0 => 0
  | k + 1 => sumQ F lp k + (lp.filter fun p => F p == (k : Int)).length
def dropN (F : Packet → Int) (lp : List Packet) : Nat := (lp.filter fun p => F p == -1).length
theorem sumQ_nil (F : Packet → Int) : ∀ k, sumQ F [] k = 0
  | 0 => rfl
  | k + 1 => by rw [sumQ, sumQ_nil F k]; rfl
theorem sumQ_cons (F : Packet → Int) (p : Packet) (lp : List Packet) : ∀ k : Nat, sumQ F (p :: lp) k = sumQ F lp k + if 0 ≤ F p ∧ F p < (k : Int) then 1 else 0
  | 0 => by simp only [sumQ]; rw [if_neg (by omega)]
  | k + 1 => by
    have e1 : (if (F p == (k : Int)) = true then p :: lp.filter (fun p => F p == (k : Int)) else lp.filter fun p => F p == (k : Int)).length = (lp.filter fun p => F p == (k : Int)).length + if F p = (k : Int) then 1 else 0 := by
      by_cases e : F p = (k : Int) <;> simp [e]
    rw [sumQ, sumQ, sumQ_cons F p lp k, List.filter_cons, e1]
    by_cases e : F p = (k : Int)
    · rw [if_pos e, if_neg (show ¬ (0 ≤ F p ∧ F p < (k : Int)) by omega), if_pos (show 0 ≤ F p ∧ F p < ((k + 1 : Nat) : Int) by omega)]; omega
    · rw [if_neg e]
      by_cases e2 : 0 ≤ F p ∧ F p < (k : Int)
      · rw [if_pos e2, if_pos (show 0 ≤ F p ∧ F p < ((k + 1 : Nat) : Int) by omega)]; omega
      · rw [if_neg e2, if_neg (show ¬ (0 ≤ F p ∧ F p < ((k + 1 : Nat) : Int)) by omega)]; omega
theorem one_queue (F : Packet → Int) (Q : Nat) : ∀ lp : List Packet, (∀ p ∈ lp, -1 ≤ F p ∧ F p < (Q : Int)) → sumQ F lp Q + dropN F lp = lp.length
  | [], _ => by rw [sumQ_nil]; rfl
  | p :: lp, h => by
    have ih := one_queue F Q lp fun x hx => h x (List.mem_cons_of_mem _ hx)
    have hp := h p (List.mem_cons_self ..)
    rw [sumQ_cons, List.length_cons]
    simp only [dropN] at ih ⊢
    have e1 : ((p :: lp).filter fun p => F p == -1).length = (lp.filter fun p => F p == -1).length + if F p = -1 then 1 else 0 := by
      rw [List.filter_cons]
      by_cases e : F p = -1 <;> simp [e]
    rw [e1]
    by_cases e : F p = -1
    · rw [if_neg (show ¬ (0 ≤ F p ∧ F p < (Q : Int)) by omega), if_pos e]; omega
    · rw [if_pos (show 0 ≤ F p ∧ F p < (Q : Int) by omega), if_neg e]; omega
/-- A pinned flow: what is put, what a packet of it gets. -/
theorem pin_one {rs : List Rule} {l : List Slot} {key : ByteArray} {tb : List Int} {q qq : Int} (h : steerB rs l key tb q = true) (h0 : 0 ≤ qq) (h1 : qq < q) (f : Flow) :
    pinL rs l key tb q qq [f] = tpL l f qq ∧ pinN rs l key tb q qq [f] = (if tpB l f qq = true then 1 else 0) ∧ steerB rs (tpL l f qq) key tb q = true := by
  have hb : pinB rs l key tb q qq = true := by
    rw [pinB, h, inB]; simp; omega
  have hk : pinK l qq [f] 1 = (tpL l f qq, if tpB l f qq = true then 1 else 0) := by
    have := pinK_next (l := l) (q := qq) (fs := [f]) (k := 0) (f := f) rfl
    rw [this]; simp [pinK]
  refine ⟨by rw [pinL, if_pos hb]; exact congrArg Prod.fst hk, ?_, ?_⟩
  · rw [pinN, if_pos hb]
    have : (pinK l qq [f] [f].length).2 = if tpB l f qq = true then 1 else 0 := congrArg Prod.snd hk
    rw [this]; split <;> rfl
  · obtain ⟨a, b, c, d, e⟩ := steerB_split.1 h
    exact steerB_split.2 ⟨a, put_table b, c, d, put_queue e h1⟩
theorem pin_rule {rs : List Rule} {l l' : List Slot} {key : ByteArray} {tb : List Int} {q : Int} {p : Packet} (h : steerB rs l key tb q = true) (h' : steerB rs l' key tb q = true) (hr : 0 ≤ ruleI rs p) : steerI rs l' key tb q p = steerI rs l key tb q p := by
  simp only [steerI, h, h', if_pos hr]
theorem pin_got {rs : List Rule} {l : List Slot} {key : ByteArray} {tb : List Int} {q qq : Int} {p : Packet} (h : steerB rs l key tb q = true) (h1 : qq < q) (hp : superB p = true) (hr : ¬ 0 ≤ ruleI rs p) (hb : tpB l (flowP p) qq = true) : steerI rs (tpL l (flowP p) qq) key tb q p = qq := by
  obtain ⟨a, b, c, d, e⟩ := steerB_split.1 h
  have h' : steerB rs (tpL l (flowP p) qq) key tb q = true := steerB_split.2 ⟨a, put_table b, c, d, put_queue e h1⟩
  obtain ⟨_, i, hi, hL, hs⟩ := put_ok hb
  rw [steerI, if_pos (by rw [h', hp]; rfl), if_neg hr, hs, if_pos (by omega), hL, slt_set (by rw [tableB_len b]; exact hi), Int.toNat_natCast, if_pos rfl]
  rfl
end Go.Proofs.Ytkfekgmdjemkbaa
