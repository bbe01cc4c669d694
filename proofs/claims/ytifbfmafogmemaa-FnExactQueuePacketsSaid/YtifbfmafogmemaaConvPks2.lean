/- Contracts of the laws' helpers on lists of packets: eq, mark, held. -/
import Derived.Test.YtifbfmafogmemaaConvPks
namespace Go.Proofs.Ytifbfmafogmemaa
set_option linter.unusedSimpArgs false
set_option linter.unusedVariables false
open Go.RowKit Go.ChangeShapes Go.WideShapes
set_option maxRecDepth 100000 in
set_option maxHeartbeats 4000000 in
/-- Two slices of packets that read as the same list are equal. -/
theorem eqPacketS_c (A A' : Option Addr) (n c c' : Nat) (l : List Packet) (w : World) (hn : l.length = n) (hm : n ≤ 140737488355328) (hr : Reads w w.heap.size 16 A n (l.flatMap Packet.cells)) (hr' : Reads w w.heap.size 16 A' n (l.flatMap Packet.cells)) :
    Calls Try.prog 38 #[.slice A n c, .slice A' n c'] w fun e w' => e = .returned (.bool true) ∧ Below w.heap.size w w' := by
  have HN := Lib.hid hn
  clear hn
  go_enter Try.func38, Try.ntmps38
  go_wp2
  go_loopw [5] (fun i wr => ∃ k : Nat, k ≤ n ∧ i = .int .i64 k ∧ Below w.heap.size w wr) (fun i _ => n - (intOf i).toNat)
  case atStart => exact ⟨0, Nat.zero_le _, rfl, Below.refl _ _⟩
  case round =>
    obtain ⟨k, hk, rfl, hbw⟩ := hrel
    have hsz := hbw.size
    by_cases hlt : k < n
    · obtain ⟨b, o, x, rfl, hb, hxx, hcx⟩ := hr.el (fun _ => rfl) (by decide) HN.out hlt
      have c0 := (hbw.cell (p := ⟨b, o + k * 16, none⟩) hb).trans (by simpa using hcx 0 _ rfl)
      have c1 := (hbw.cell (p := ⟨b, o + k * 16 + 1, none⟩) hb).trans (by simpa using hcx 1 _ rfl)
      have c2 := (hbw.cell (p := ⟨b, o + k * 16 + 2, none⟩) hb).trans (by simpa using hcx 2 _ rfl)
      have c3 := (hbw.cell (p := ⟨b, o + k * 16 + 3, none⟩) hb).trans (by simpa using hcx 3 _ rfl)
      have c4 := (hbw.cell (p := ⟨b, o + k * 16 + 4, none⟩) hb).trans (by simpa using hcx 4 _ rfl)
      have c5 := (hbw.cell (p := ⟨b, o + k * 16 + 5, none⟩) hb).trans (by simpa using hcx 5 _ rfl)
      have c6 := (hbw.cell (p := ⟨b, o + k * 16 + 6, none⟩) hb).trans (by simpa using hcx 6 _ rfl)
      have c7 := (hbw.cell (p := ⟨b, o + k * 16 + 7, none⟩) hb).trans (by simpa using hcx 7 _ rfl)
      have c8 := (hbw.cell (p := ⟨b, o + k * 16 + 8, none⟩) hb).trans (by simpa using hcx 8 _ rfl)
      have c9 := (hbw.cell (p := ⟨b, o + k * 16 + 9, none⟩) hb).trans (by simpa using hcx 9 _ rfl)
      have c10 := (hbw.cell (p := ⟨b, o + k * 16 + 10, none⟩) hb).trans (by simpa using hcx 10 _ rfl)
      have c11 := (hbw.cell (p := ⟨b, o + k * 16 + 11, none⟩) hb).trans (by simpa using hcx 11 _ rfl)
      have c12 := (hbw.cell (p := ⟨b, o + k * 16 + 12, none⟩) hb).trans (by simpa using hcx 12 _ rfl)
      have c13 := (hbw.cell (p := ⟨b, o + k * 16 + 13, none⟩) hb).trans (by simpa using hcx 13 _ rfl)
      have c14 := (hbw.cell (p := ⟨b, o + k * 16 + 14, none⟩) hb).trans (by simpa using hcx 14 _ rfl)
      have c15 := (hbw.cell (p := ⟨b, o + k * 16 + 15, none⟩) hb).trans (by simpa using hcx 15 _ rfl)
      have HXx := Lib.hid hxx
      clear hxx hcx
      obtain ⟨b', o', y, rfl, hb', hxy, hcy⟩ := hr'.el (fun _ => rfl) (by decide) HN.out hlt
      have d0 := (hbw.cell (p := ⟨b', o' + k * 16, none⟩) hb').trans (by simpa using hcy 0 _ rfl)
      have d1 := (hbw.cell (p := ⟨b', o' + k * 16 + 1, none⟩) hb').trans (by simpa using hcy 1 _ rfl)
      have d2 := (hbw.cell (p := ⟨b', o' + k * 16 + 2, none⟩) hb').trans (by simpa using hcy 2 _ rfl)
      have d3 := (hbw.cell (p := ⟨b', o' + k * 16 + 3, none⟩) hb').trans (by simpa using hcy 3 _ rfl)
      have d4 := (hbw.cell (p := ⟨b', o' + k * 16 + 4, none⟩) hb').trans (by simpa using hcy 4 _ rfl)
      have d5 := (hbw.cell (p := ⟨b', o' + k * 16 + 5, none⟩) hb').trans (by simpa using hcy 5 _ rfl)
      have d6 := (hbw.cell (p := ⟨b', o' + k * 16 + 6, none⟩) hb').trans (by simpa using hcy 6 _ rfl)
      have d7 := (hbw.cell (p := ⟨b', o' + k * 16 + 7, none⟩) hb').trans (by simpa using hcy 7 _ rfl)
      have d8 := (hbw.cell (p := ⟨b', o' + k * 16 + 8, none⟩) hb').trans (by simpa using hcy 8 _ rfl)
      have d9 := (hbw.cell (p := ⟨b', o' + k * 16 + 9, none⟩) hb').trans (by simpa using hcy 9 _ rfl)
      have d10 := (hbw.cell (p := ⟨b', o' + k * 16 + 10, none⟩) hb').trans (by simpa using hcy 10 _ rfl)
      have d11 := (hbw.cell (p := ⟨b', o' + k * 16 + 11, none⟩) hb').trans (by simpa using hcy 11 _ rfl)
      have d12 := (hbw.cell (p := ⟨b', o' + k * 16 + 12, none⟩) hb').trans (by simpa using hcy 12 _ rfl)
      have d13 := (hbw.cell (p := ⟨b', o' + k * 16 + 13, none⟩) hb').trans (by simpa using hcy 13 _ rfl)
      have d14 := (hbw.cell (p := ⟨b', o' + k * 16 + 14, none⟩) hb').trans (by simpa using hcy 14 _ rfl)
      have d15 := (hbw.cell (p := ⟨b', o' + k * 16 + 15, none⟩) hb').trans (by simpa using hcy 15 _ rfl)
      have HXy := Lib.hid hxy
      clear hxy hcy
      obtain rfl : x = y := by
        have h1 := HXx.out
        rw [HXy.out] at h1
        injection h1 with h1
        exact h1.symm
      have l1 : (k : Int) < (n : Int) := by omega
      have hx := fun t : Ext wr => (And.intro (t.cell c0) (And.intro (t.cell c1) (And.intro (t.cell c2) (And.intro (t.cell c3) (And.intro (t.cell c4) (And.intro (t.cell c5) (And.intro (t.cell c6) (And.intro (t.cell c7) (And.intro (t.cell c8) (And.intro (t.cell c9) (And.intro (t.cell c10) (And.intro (t.cell c11) (And.intro (t.cell c12) (And.intro (t.cell c13) (And.intro (t.cell c14) (And.intro (t.cell c15) (And.intro (t.cell d0) (And.intro (t.cell d1) (And.intro (t.cell d2) (And.intro (t.cell d3) (And.intro (t.cell d4) (And.intro (t.cell d5) (And.intro (t.cell d6) (And.intro (t.cell d7) (And.intro (t.cell d8) (And.intro (t.cell d9) (And.intro (t.cell d10) (And.intro (t.cell d11) (And.intro (t.cell d12) (And.intro (t.cell d13) (And.intro (t.cell d14) (t.cell d15))))))))))))))))))))))))))))))))
      go_wp2_with fail
      refine wp_region_ext_lit (by kernel_rfl) (by kernel_rfl) ?_
      repeat (go_big_quiet_step (((go_at_call 107; exact ext_call (eqPacket_c x _)))))
      refine wpQuiet_nil ?_
      intro _ hw'
      obtain ⟨tq, hw''⟩ := hw'
      subst hw''
      have hk1 : Below w.heap.size w tq.wd := ext_step hbw hbw.size tq.below
      go_wp2
      go_roundw
      case rel => exact ⟨k + 1, by omega, by go_num, hk1⟩
      case measure => simp [intOf]; omega
    · go_wp2
      go_ret
      exact ⟨rfl, hbw⟩
end Go.Proofs.Ytifbfmafogmemaa
