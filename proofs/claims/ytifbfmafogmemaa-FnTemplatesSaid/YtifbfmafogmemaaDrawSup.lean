/- Contract of the reference's DrawSuper. -/
import Derived.Test.YtifbfmafogmemaaDrawPkt
import Derived.Test.YtifbfmafogmemaaRetB
namespace Go.Proofs.Ytifbfmafogmemaa
set_option linter.unusedSimpArgs false
set_option linter.unusedVariables false
open Go.RowKit Go.ChangeShapes Go.WideShapes
/-- A drawn packet that may be longer than one on the wire. -/
def DrawSup (w : World) (e : Ending) (w' : World) : Prop := ∃ p : Packet, (superB p = true ∧ (p.seg_body.size : Int) ≤ 320) ∧ e = .returned (.agg #[.int .i64 p.dmac, .int .i64 p.smac, .int .i64 p.vlan, .int .i64 p.tos, .int .i64 p.id, .int .i64 p.ttl, .int .i64 p.sip, .int .i64 p.dip, .int .i64 p.seg_kind, .int .i64 p.seg_sport, .int .i64 p.seg_dport, .int .i64 p.seg_seq, .int .i64 p.seg_ack, .int .i64 p.seg_flags, .int .i64 p.seg_win, .string p.seg_body]) ∧ Below w.heap.size w w'
set_option maxRecDepth 100000 in
set_option maxHeartbeats 4000000 in
theorem drawSuper_c (A : Option Addr) (n c : Nat) (l : List Int) (w : World) (hn : l.length = n) (hm : n ≤ 1048576) (hr : Reads w w.heap.size 1 A n (l.flatMap fun x : Int => [Value.int .u8 x])) (hb : ∀ x ∈ l, 0 ≤ x ∧ x ≤ 255) :
    Calls Try.prog 18 #[.slice A n c] w (DrawSup w) := by
  have HN := Lib.hid hn
  go_enter Try.func18, Try.ntmps18
  go_wp2_with fail
  refine (l01New_c A n c l _ HN.out hm (hr.to (by go_grown)) hb).mono ?_
  rintro e w1 ⟨g, rfl, hg0, q1, hbW⟩
  have k1 : Below w.heap.size w w1 := ext_step (by go_grown) (by go_size) hbW
  have B0 := (Blk.new w 31 [.int .i64 0, .int .i64 0, .int .i64 0, .int .i64 0, .int .i64 0, .int .i64 0, .int .i64 0, .int .i64 0, .int .i64 0, .int .i64 0, .int .i64 0, .int .i64 0, .int .i64 0, .int .i64 0, .int .i64 0, .string ⟨#[]⟩]).ext hbW
  have hz1 := hbW.size
  simp only [World.size_alloc] at hg0 hz1
  have hr1 : Reads w1 g 1 A n (l.flatMap fun x : Int => [Value.int .u8 x]) := (hr.below k1).more (by omega)
  have hlt0 := q1.lt
  have hne0 : some g ≠ some w.heap.size := fun e => by injection e with e; omega
  clear hbW hn
  go_wp2_with fail
  refine (l07Packet320_c g A n c l _ q1 HN.out hm hr1 hb).mono ?_
  rintro e w2 ⟨p, hp, rfl, q2, hh⟩
  have hk0 := blk_kept B0 hh hne0
  have hlt1 := hk0.lt
  have kk : Below w.heap.size w w2 := Below.grown k1 hh k1.size (fun k hk => by injection hk with hk; omega)
  have c0 := hk0.at_ 0 _ rfl
  have f0 := hk0.frozen 0
  have c1 := hk0.at_ 1 _ rfl
  have f1 := hk0.frozen 1
  have c2 := hk0.at_ 2 _ rfl
  have f2 := hk0.frozen 2
  have c3 := hk0.at_ 3 _ rfl
  have f3 := hk0.frozen 3
  have c4 := hk0.at_ 4 _ rfl
  have f4 := hk0.frozen 4
  have c5 := hk0.at_ 5 _ rfl
  have f5 := hk0.frozen 5
  have c6 := hk0.at_ 6 _ rfl
  have f6 := hk0.frozen 6
  have c7 := hk0.at_ 7 _ rfl
  have f7 := hk0.frozen 7
  have c8 := hk0.at_ 8 _ rfl
  have f8 := hk0.frozen 8
  have c9 := hk0.at_ 9 _ rfl
  have f9 := hk0.frozen 9
  have c10 := hk0.at_ 10 _ rfl
  have f10 := hk0.frozen 10
  have c11 := hk0.at_ 11 _ rfl
  have f11 := hk0.frozen 11
  have c12 := hk0.at_ 12 _ rfl
  have f12 := hk0.frozen 12
  have c13 := hk0.at_ 13 _ rfl
  have f13 := hk0.frozen 13
  have c14 := hk0.at_ 14 _ rfl
  have f14 := hk0.frozen 14
  have c15 := hk0.at_ 15 _ rfl
  have f15 := hk0.frozen 15
  clear B0 q1 hr1 k1 q2 hh hz1 hg0 hlt0 hne0
  go_wp2
  obtain ⟨u0, hW0⟩ : ∃ W, W = w2.setCell ⟨w.heap.size, 0, none⟩ (.int .i64 p.dmac) := ⟨_, rfl⟩
  replace hk0 := blk_stp hk0 hW0
  replace kk : Below w.heap.size w u0 := by rw [hW0]; exact kk.setCell (Nat.le_refl _) _
  rw [← hW0]
  clear hW0
  obtain ⟨u1, hW0⟩ : ∃ W, W = u0.setCell ⟨w.heap.size, 1, none⟩ (.int .i64 p.smac) := ⟨_, rfl⟩
  replace hk0 := blk_stp hk0 hW0
  replace kk : Below w.heap.size w u1 := by rw [hW0]; exact kk.setCell (Nat.le_refl _) _
  rw [← hW0]
  clear hW0
  obtain ⟨u2, hW0⟩ : ∃ W, W = u1.setCell ⟨w.heap.size, 2, none⟩ (.int .i64 p.vlan) := ⟨_, rfl⟩
  replace hk0 := blk_stp hk0 hW0
  replace kk : Below w.heap.size w u2 := by rw [hW0]; exact kk.setCell (Nat.le_refl _) _
  rw [← hW0]
  clear hW0
  obtain ⟨u3, hW0⟩ : ∃ W, W = u2.setCell ⟨w.heap.size, 3, none⟩ (.int .i64 p.tos) := ⟨_, rfl⟩
  replace hk0 := blk_stp hk0 hW0
  replace kk : Below w.heap.size w u3 := by rw [hW0]; exact kk.setCell (Nat.le_refl _) _
  rw [← hW0]
  clear hW0
  obtain ⟨u4, hW0⟩ : ∃ W, W = u3.setCell ⟨w.heap.size, 4, none⟩ (.int .i64 p.id) := ⟨_, rfl⟩
  replace hk0 := blk_stp hk0 hW0
  replace kk : Below w.heap.size w u4 := by rw [hW0]; exact kk.setCell (Nat.le_refl _) _
  rw [← hW0]
  clear hW0
  obtain ⟨u5, hW0⟩ : ∃ W, W = u4.setCell ⟨w.heap.size, 5, none⟩ (.int .i64 p.ttl) := ⟨_, rfl⟩
  replace hk0 := blk_stp hk0 hW0
  replace kk : Below w.heap.size w u5 := by rw [hW0]; exact kk.setCell (Nat.le_refl _) _
  rw [← hW0]
  clear hW0
  obtain ⟨u6, hW0⟩ : ∃ W, W = u5.setCell ⟨w.heap.size, 6, none⟩ (.int .i64 p.sip) := ⟨_, rfl⟩
  replace hk0 := blk_stp hk0 hW0
  replace kk : Below w.heap.size w u6 := by rw [hW0]; exact kk.setCell (Nat.le_refl _) _
  rw [← hW0]
  clear hW0
  obtain ⟨u7, hW0⟩ : ∃ W, W = u6.setCell ⟨w.heap.size, 7, none⟩ (.int .i64 p.dip) := ⟨_, rfl⟩
  replace hk0 := blk_stp hk0 hW0
  replace kk : Below w.heap.size w u7 := by rw [hW0]; exact kk.setCell (Nat.le_refl _) _
  rw [← hW0]
  clear hW0
  obtain ⟨u8, hW0⟩ : ∃ W, W = u7.setCell ⟨w.heap.size, 8, none⟩ (.int .i64 p.seg_kind) := ⟨_, rfl⟩
  replace hk0 := blk_stp hk0 hW0
  replace kk : Below w.heap.size w u8 := by rw [hW0]; exact kk.setCell (Nat.le_refl _) _
  rw [← hW0]
  clear hW0
  obtain ⟨u9, hW0⟩ : ∃ W, W = u8.setCell ⟨w.heap.size, 9, none⟩ (.int .i64 p.seg_sport) := ⟨_, rfl⟩
  replace hk0 := blk_stp hk0 hW0
  replace kk : Below w.heap.size w u9 := by rw [hW0]; exact kk.setCell (Nat.le_refl _) _
  rw [← hW0]
  clear hW0
  obtain ⟨u10, hW0⟩ : ∃ W, W = u9.setCell ⟨w.heap.size, 10, none⟩ (.int .i64 p.seg_dport) := ⟨_, rfl⟩
  replace hk0 := blk_stp hk0 hW0
  replace kk : Below w.heap.size w u10 := by rw [hW0]; exact kk.setCell (Nat.le_refl _) _
  rw [← hW0]
  clear hW0
  obtain ⟨u11, hW0⟩ : ∃ W, W = u10.setCell ⟨w.heap.size, 11, none⟩ (.int .i64 p.seg_seq) := ⟨_, rfl⟩
  replace hk0 := blk_stp hk0 hW0
  replace kk : Below w.heap.size w u11 := by rw [hW0]; exact kk.setCell (Nat.le_refl _) _
  rw [← hW0]
  clear hW0
  obtain ⟨u12, hW0⟩ : ∃ W, W = u11.setCell ⟨w.heap.size, 12, none⟩ (.int .i64 p.seg_ack) := ⟨_, rfl⟩
  replace hk0 := blk_stp hk0 hW0
  replace kk : Below w.heap.size w u12 := by rw [hW0]; exact kk.setCell (Nat.le_refl _) _
  rw [← hW0]
  clear hW0
  obtain ⟨u13, hW0⟩ : ∃ W, W = u12.setCell ⟨w.heap.size, 13, none⟩ (.int .i64 p.seg_flags) := ⟨_, rfl⟩
  replace hk0 := blk_stp hk0 hW0
  replace kk : Below w.heap.size w u13 := by rw [hW0]; exact kk.setCell (Nat.le_refl _) _
  rw [← hW0]
  clear hW0
  obtain ⟨u14, hW0⟩ : ∃ W, W = u13.setCell ⟨w.heap.size, 14, none⟩ (.int .i64 p.seg_win) := ⟨_, rfl⟩
  replace hk0 := blk_stp hk0 hW0
  replace kk : Below w.heap.size w u14 := by rw [hW0]; exact kk.setCell (Nat.le_refl _) _
  rw [← hW0]
  clear hW0
  obtain ⟨u15, hW0⟩ : ∃ W, W = u14.setCell ⟨w.heap.size, 15, none⟩ (.string p.seg_body) := ⟨_, rfl⟩
  replace hk0 := blk_stp hk0 hW0
  replace kk : Below w.heap.size w u15 := by rw [hW0]; exact kk.setCell (Nat.le_refl _) _
  rw [← hW0]
  clear hW0
  replace hk0 : Blk u15 w.heap.size 31 [.int .i64 p.dmac, .int .i64 p.smac, .int .i64 p.vlan, .int .i64 p.tos, .int .i64 p.id, .int .i64 p.ttl, .int .i64 p.sip, .int .i64 p.dip, .int .i64 p.seg_kind, .int .i64 p.seg_sport, .int .i64 p.seg_dport, .int .i64 p.seg_seq, .int .i64 p.seg_ack, .int .i64 p.seg_flags, .int .i64 p.seg_win, .string p.seg_body] := hk0
  have hv := loadVar_blk (P := Try.prog) hk0 (n := 16) rfl (by simp [go_sem]) (by simp [go_sem])
  refine bodyPost_ret (v := .agg #[.int .i64 p.dmac, .int .i64 p.smac, .int .i64 p.vlan, .int .i64 p.tos, .int .i64 p.id, .int .i64 p.ttl, .int .i64 p.sip, .int .i64 p.dip, .int .i64 p.seg_kind, .int .i64 p.seg_sport, .int .i64 p.seg_dport, .int .i64 p.seg_seq, .int .i64 p.seg_ack, .int .i64 p.seg_flags, .int .i64 p.seg_win, .string p.seg_body]) (by simp [results, Try.results18, asAddr, Result.andThen, hv]) rfl ?_
  exact ⟨p, hp, rfl, kk⟩
end Go.Proofs.Ytifbfmafogmemaa
