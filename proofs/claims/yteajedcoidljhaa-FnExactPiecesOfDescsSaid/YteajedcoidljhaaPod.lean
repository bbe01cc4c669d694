/- Contracts of l19Same and PiecesOfDescs: impl and spec. -/
import Derived.Test.YteajedcoidljhaaDescribe
namespace Go.Proofs.Yteajedcoidljhaa
set_option linter.unusedSimpArgs false
set_option linter.unusedVariables false
open Go.RowKit Go.ChangeShapes Go.WideShapes
noncomputable def same (a b : List Desc) : Bool := @decide (a = b) (Classical.propDecidable _)
theorem same_t {a b : List Desc} (h : a = b) : same a b = true := by unfold same; exact @decide_eq_true _ (Classical.propDecidable _) h
theorem same_f {a b : List Desc} (h : ¬ a = b) : same a b = false := by unfold same; exact @decide_eq_false _ (Classical.propDecidable _) h
theorem desc_neq {x y : Desc} (h : ¬ x = y) (w : World) : (binOp .neq 62 (.agg #[.int .i64 x.op, .int .i64 x.fl, .int .i64 x.ln, .int .i64 x.at_, .int .i64 x.sz, .int .i64 x.ck]) (.agg #[.int .i64 y.op, .int .i64 y.fl, .int .i64 y.ln, .int .i64 y.at_, .int .i64 y.sz, .int .i64 y.ck])).run Try.prog w = .ok (.bool true) w := by
  obtain ⟨a1, a2, a3, a4, a5, a6⟩ := x
  obtain ⟨b1, b2, b3, b4, b5, b6⟩ := y
  have hu := Try.underlying62
  by_cases h1 : a1 = b1
  · by_cases h2 : a2 = b2
    · by_cases h3 : a3 = b3
      · by_cases h4 : a4 = b4
        · by_cases h5 : a5 = b5
          · by_cases h6 : a6 = b6
            · exact absurd (by rw [h1, h2, h3, h4, h5, h6]) h
            · subst h1; subst h2; subst h3; subst h4; subst h5; simp [go_sem, h6]
          · subst h1; subst h2; subst h3; subst h4; simp [go_sem, h5]
        · subst h1; subst h2; subst h3; simp [go_sem, h4]
      · subst h1; subst h2; simp [go_sem, h3]
    · subst h1; simp [go_sem, h2]
  · simp [go_sem, h1]
theorem desc_same (x : Desc) (w : World) : (binOp .neq 62 (.agg #[.int .i64 x.op, .int .i64 x.fl, .int .i64 x.ln, .int .i64 x.at_, .int .i64 x.sz, .int .i64 x.ck]) (.agg #[.int .i64 x.op, .int .i64 x.fl, .int .i64 x.ln, .int .i64 x.at_, .int .i64 x.sz, .int .i64 x.ck])).run Try.prog w = .ok (.bool false) w := by
  have hu := Try.underlying62
  simp [go_sem]
set_option maxRecDepth 100000 in
set_option maxHeartbeats 2000000 in
theorem l19Same_c (A A' : Option Addr) (n c n' c' : Nat) (la lb : List Desc) (w : World) (hn : la.length = n) (hn' : lb.length = n') (hm : n ≤ 2097152) (hm' : n' ≤ 2097152) (hr : Reads w w.heap.size 6 A n (la.flatMap Desc.cells)) (hr' : Reads w w.heap.size 6 A' n' (lb.flatMap Desc.cells)) :
    Calls Try.prog 82 #[.slice A n c, .slice A' n' c'] w fun e w' => e = .returned (.bool (same la lb)) ∧ Below w.heap.size w w' := by
  by_cases hnn : n = n'
  · subst hnn
    have HN := Lib.hid hn
    have HN' := Lib.hid hn'
    clear hn hn'
    go_enter Try.func82, Try.ntmps82
    go_wp2
    go_loopw [5] (fun i wr => ∃ k : Nat, k ≤ n ∧ i = .int .i64 (k : Int) ∧ Below w.heap.size w wr ∧ Hid (la.take k = lb.take k)) (fun i _ => n - (intOf i).toNat)
    case atStart => exact ⟨0, Nat.zero_le _, rfl, Below.refl _ _, rfl⟩
    case round =>
      obtain ⟨k, hk, rfl, hbw, hall⟩ := hrel
      have hsz := hbw.size
      by_cases hlt : k < n
      · obtain ⟨ba, oa, x, rfl, hba, hxx, hcx⟩ := hr.el (fun _ => rfl) (by decide) HN.out hlt
        have c0 := (hbw.cell (p := ⟨ba, oa + k * 6, none⟩) hba).trans (by simpa using hcx 0 _ rfl)
        have c1 := (hbw.cell (p := ⟨ba, oa + k * 6 + 1, none⟩) hba).trans (by simpa using hcx 1 _ rfl)
        have c2 := (hbw.cell (p := ⟨ba, oa + k * 6 + 2, none⟩) hba).trans (by simpa using hcx 2 _ rfl)
        have c3 := (hbw.cell (p := ⟨ba, oa + k * 6 + 3, none⟩) hba).trans (by simpa using hcx 3 _ rfl)
        have c4 := (hbw.cell (p := ⟨ba, oa + k * 6 + 4, none⟩) hba).trans (by simpa using hcx 4 _ rfl)
        have c5 := (hbw.cell (p := ⟨ba, oa + k * 6 + 5, none⟩) hba).trans (by simpa using hcx 5 _ rfl)
        have HXx := Lib.hid hxx
        clear hxx hcx
        obtain ⟨bb, ob, y, rfl, hbb, hxy, hcy⟩ := hr'.el (fun _ => rfl) (by decide) HN'.out hlt
        have d0 := (hbw.cell (p := ⟨bb, ob + k * 6, none⟩) hbb).trans (by simpa using hcy 0 _ rfl)
        have d1 := (hbw.cell (p := ⟨bb, ob + k * 6 + 1, none⟩) hbb).trans (by simpa using hcy 1 _ rfl)
        have d2 := (hbw.cell (p := ⟨bb, ob + k * 6 + 2, none⟩) hbb).trans (by simpa using hcy 2 _ rfl)
        have d3 := (hbw.cell (p := ⟨bb, ob + k * 6 + 3, none⟩) hbb).trans (by simpa using hcy 3 _ rfl)
        have d4 := (hbw.cell (p := ⟨bb, ob + k * 6 + 4, none⟩) hbb).trans (by simpa using hcy 4 _ rfl)
        have d5 := (hbw.cell (p := ⟨bb, ob + k * 6 + 5, none⟩) hbb).trans (by simpa using hcy 5 _ rfl)
        have HXy := Lib.hid hxy
        clear hxy hcy
        have i0 : (0 : Int) ≤ (k : Int) := by omega
        have i1 : (k : Int) < (n : Int) := by omega
        by_cases hxy : x = y
        · subst hxy
          have hcmp := desc_same x
          have HA : Hid (la.take (k + 1) = lb.take (k + 1)) := by rw [Hid, take_next HXx.out, take_next HXy.out, hall.out]
          go_wp2
          go_quiet (fail)
          go_wp2
          go_roundw
          case rel => exact ⟨k + 1, by omega, by go_num, below_drewN hbw _, HA⟩
          case measure => simp [intOf]; omega
        · have hcmp := desc_neq hxy
          have HF := Lib.hid (same_f (a := la) (b := lb) fun e => hxy (by have h1 := HXx.out; have h2 := HXy.out; rw [e, h2] at h1; injection h1 with h1; exact h1.symm))
          clear hxy
          go_wp2
          go_quiet (fail)
          go_wp2
          go_ret
          exact ⟨ret_bool HF.out.symm, below_drewN hbw _⟩
      · have HT := Lib.hid (same_t (a := la) (b := lb) (by have h1 := hall.out; rwa [take_all HN.out hlt, take_all HN'.out hlt] at h1))
        go_wp2
        go_ret
        exact ⟨ret_bool HT.out.symm, hbw⟩
  · have HF := Lib.hid (same_f (a := la) (b := lb) fun e => hnn (by rw [← hn, ← hn', e]))
    have h1 : ((n : Int) == (n' : Int)) = false := by simp; omega
    have h2 : ((n : Int) != (n' : Int)) = true := by simp; omega
    clear hnn
    go_enter Try.func82, Try.ntmps82
    go_wp2
    go_ret
    exact ⟨ret_bool HF.out.symm, Below.refl _ _⟩
def dHd (l : List Desc) : Desc := l.headD ⟨0, 0, 0, 0, 0, 0⟩
def podP (l : List Desc) : List Piece := (l.drop 1).map fun x => ⟨x.at_, x.ln⟩
noncomputable def podB (l : List Desc) : Bool := decide (2 ≤ l.length) && same (dpL (podP l) (dHd l).sz (dHd l).ck) l
noncomputable def podR (l : List Desc) : List Piece := if podB l then podP l else []
noncomputable def podS (l : List Desc) : Int := if podB l then (dHd l).sz else 0
noncomputable def podC (l : List Desc) : Int := if podB l then (dHd l).ck else 0
theorem pod_no {l : List Desc} (h : podB l = false) : podR l = [] ∧ podS l = 0 ∧ podC l = 0 := by rw [podR, podS, podC, h]; exact ⟨rfl, rfl, rfl⟩
theorem pod_yes {l : List Desc} (h : podB l = true) : podR l = podP l ∧ podS l = (dHd l).sz ∧ podC l = (dHd l).ck := by rw [podR, podS, podC, h]; exact ⟨rfl, rfl, rfl⟩
theorem podP_len (l : List Desc) : (podP l).length = l.length - 1 := by simp [podP]
theorem podP_next {l : List Desc} {k : Nat} {x : Desc} (hx : l[k + 1]? = some x) : (podP l).take (k + 1) = (podP l).take k ++ [⟨x.at_, x.ln⟩] := by
  refine take_next ?_
  rw [podP, List.getElem?_map, List.getElem?_drop, Nat.add_comm, hx]; rfl
theorem podP_ok {l : List Desc} (h : ∀ x ∈ l, x.ok) : ∀ x ∈ podP l, x.ok := by
  intro x hx
  obtain ⟨y, hy, rfl⟩ := List.mem_map.1 hx
  have := h y (List.mem_of_mem_drop hy)
  exact ⟨this.2.2.2.1, this.2.2.1⟩
end Go.Proofs.Yteajedcoidljhaa
