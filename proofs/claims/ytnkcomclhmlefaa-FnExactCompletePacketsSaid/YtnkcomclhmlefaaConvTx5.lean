/- Contracts of the laws' helpers on queues for sending: mark, held of a whole queue. -/
import Derived.Test.YtnkcomclhmlefaaConvTx4
namespace Go.Proofs.Ytnkcomclhmlefaa
set_option linter.unusedSimpArgs false
set_option linter.unusedVariables false
open Go.RowKit Go.ChangeShapes Go.WideShapes
/-- What the laws write into a queue, from a number on. -/
def markQ (q : Int) (H : TxH) : TxH := ⟨H.rb, H.rs, H.rh, H.rt, H.pb, H.ps, H.pc, H.Ap, H.np, H.cp, mkI H.np q, H.As, H.ns, H.cs, markH (q + H.np) H.L, H.next⟩
theorem markH_ob : ∀ {l : List SentH} {q : Int} {x : SentH}, x ∈ markH q l → ∃ y ∈ l, x.ob = y.ob
  | [], _, _, h => by rw [markH] at h; exact absurd h List.not_mem_nil
  | y :: l, q, x, h => by
    rw [markH] at h
    rcases List.mem_cons.1 h with rfl | h
    · exact ⟨y, List.mem_cons_self .., rfl⟩
    · obtain ⟨z, hz, e⟩ := markH_ob h
      exact ⟨z, List.mem_cons_of_mem _ hz, e⟩
set_option maxHeartbeats 1000000 in
theorem markTx_c (H : TxH) (base : Nat) (q : Int) (w : World) (ho : TxO w base H) (hq0 : 0 ≤ q) (hq1 : q ≤ 10000000) (hm : H.np + H.ns + totB H.L ≤ 1048576) :
    Calls Try.prog 13 #[.agg #[.int .i64 H.rb, .int .i64 H.rs, .int .i64 H.rh, .int .i64 H.rt, .int .i64 H.pb, .int .i64 H.ps, .int .i64 H.pc, .slice H.Ap H.np H.cp, .slice H.As H.ns H.cs, .int .i64 H.next], .int .i64 q] w fun e w' => e = .returned (.int .i64 (q + H.np + 2 * H.ns + totB H.L)) ∧ TxO w' base (markQ q H) ∧ GrownB w w' H.blk := by
  go_enter Try.func13, Try.ntmps13
  go_wp2_with fail
  have hb0 : Blk (w.alloc (.cells #[.int .i64 H.rb, .int .i64 H.rs, .int .i64 H.rh, .int .i64 H.rt, .int .i64 H.pb, .int .i64 H.ps, .int .i64 H.pc, .slice H.Ap H.np H.cp, .slice H.As H.ns H.cs, .int .i64 H.next] 36)) w.heap.size 36 [.int .i64 H.rb, .int .i64 H.rs, .int .i64 H.rh, .int .i64 H.rt, .int .i64 H.pb, .int .i64 H.ps, .int .i64 H.pc, .slice H.Ap H.np H.cp, .slice H.As H.ns H.cs, .int .i64 H.next] := Blk.new _ _ _
  have hO := ho.alloc (.cells #[.int .i64 H.rb, .int .i64 H.rs, .int .i64 H.rh, .int .i64 H.rt, .int .i64 H.pb, .int .i64 H.ps, .int .i64 H.pc, .slice H.Ap H.np H.cp, .slice H.As H.ns H.cs, .int .i64 H.next] 36)
  have hg0 : GrownB w (w.alloc (.cells #[.int .i64 H.rb, .int .i64 H.rs, .int .i64 H.rh, .int .i64 H.rt, .int .i64 H.pb, .int .i64 H.ps, .int .i64 H.pc, .slice H.Ap H.np H.cp, .slice H.As H.ns H.cs, .int .i64 H.next] 36)) H.blk := (GrownB.refl _ _).ext ((Below.refl _ _).alloc (Nat.le_refl _) _)
  have hlb : ∀ g, H.blk g → g < w.heap.size := fun g hg => (ho.lt hg).2
  generalize hW0 : (w.alloc (.cells #[.int .i64 H.rb, .int .i64 H.rs, .int .i64 H.rh, .int .i64 H.rt, .int .i64 H.pb, .int .i64 H.ps, .int .i64 H.pc, .slice H.Ap H.np H.cp, .slice H.As H.ns H.cs, .int .i64 H.next] 36)) = w0 at *
  clear hW0
  refine (markPool_c H.pb H.ps H.pc H.Ap H.np H.cp base (ints H.free) q _ hO.1.2 hq0 (by omega) (by omega)).mono ?_
  rintro e w1 ⟨rfl, om, hg⟩
  have hg1 := hg0.row hg (fun g e => .inl e)
  have hb1 := blk_grown hb0 hg (fun e => by have := hlb _ (.inl e); omega)
  have os1 := own_far hO.2.1.2 hg (fun g h1 h2 => own_apart hO.2.1.2 hO.1.2 (by decide) g h1 h2)
  have is1 := hO.2.2.1.far hg (fun x hx g h1 h2 => hO.2.2.2 x hx g h1 h2)
  have s8 := hb1.at_ 8 _ rfl
  go_wp2_with fail
  refine (markSentS_c H.As H.ns H.cs base H.L (q + H.np) _ os1 hO.2.1.1 is1 (by omega) (by omega) (by omega) (by omega)).mono ?_
  rintro e w2 ⟨rfl, o2, i2, hg2⟩
  have hg3 : GrownB w w2 H.blk := ⟨hg2.1.trans hg1.1, hg2.2.1.trans hg1.2.1, hg2.2.2.1.trans hg1.2.2.1, Nat.le_trans hg1.size hg2.size, fun i hi hn => (hg2.2.2.2.2 i (Nat.lt_of_lt_of_le hi hg1.size) (fun e => hn (.inr e))).trans (hg1.2.2.2.2 i hi hn)⟩
  have om2 := hg2.own om (fun g e1 e2 => by rcases e2 with e2 | ⟨x, hx, e2⟩; exact own_apart os1 om (by decide) g e2 e1; exact hO.2.2.2 x hx g e2 e1)
  rw [← mkI_ints] at om2
  go_wp2
  go_ret
  exact ⟨ret_int (by omega), ⟨⟨mkI_len _ _, om2⟩, ⟨(markH_len _ _).trans hO.2.1.1, o2⟩, i2, fun x hx g e1 e2 => by obtain ⟨y, hy, e3⟩ := markH_ob hx; exact hO.2.2.2 y hy g (e3 ▸ e1) e2⟩, hg3⟩
set_option maxHeartbeats 1000000 in
theorem heldTx_c (H : TxH) (q : Int) (w : World) (r : TxR w w.heap.size (markQ q H)) (hn : H.L.length = H.ns) (hq0 : 0 ≤ q) (hq1 : q ≤ 10000000) (hm : H.np + H.ns + totB H.L ≤ 1048576) :
    Calls Try.prog 15 #[.agg #[.int .i64 H.rb, .int .i64 H.rs, .int .i64 H.rh, .int .i64 H.rt, .int .i64 H.pb, .int .i64 H.ps, .int .i64 H.pc, .slice H.Ap H.np H.cp, .slice H.As H.ns H.cs, .int .i64 H.next], .int .i64 q] w fun e w' => e = .returned (.int .i64 (q + H.np + 2 * H.ns + totB H.L)) ∧ Below w.heap.size w w' := by
  go_enter Try.func15, Try.ntmps15
  go_wp2_with fail
  have hb0 : Blk (w.alloc (.cells #[.int .i64 H.rb, .int .i64 H.rs, .int .i64 H.rh, .int .i64 H.rt, .int .i64 H.pb, .int .i64 H.ps, .int .i64 H.pc, .slice H.Ap H.np H.cp, .slice H.As H.ns H.cs, .int .i64 H.next] 36)) w.heap.size 36 [.int .i64 H.rb, .int .i64 H.rs, .int .i64 H.rh, .int .i64 H.rt, .int .i64 H.pb, .int .i64 H.ps, .int .i64 H.pc, .slice H.Ap H.np H.cp, .slice H.As H.ns H.cs, .int .i64 H.next] := Blk.new _ _ _
  have k0 : Below w.heap.size w (w.alloc (.cells #[.int .i64 H.rb, .int .i64 H.rs, .int .i64 H.rh, .int .i64 H.rt, .int .i64 H.pb, .int .i64 H.ps, .int .i64 H.pc, .slice H.Ap H.np H.cp, .slice H.As H.ns H.cs, .int .i64 H.next] 36)) := by go_grown
  generalize hW0 : (w.alloc (.cells #[.int .i64 H.rb, .int .i64 H.rs, .int .i64 H.rh, .int .i64 H.rt, .int .i64 H.pb, .int .i64 H.ps, .int .i64 H.pc, .slice H.Ap H.np H.cp, .slice H.As H.ns H.cs, .int .i64 H.next] 36)) = w0 at *
  clear hW0
  have hrp : Reads w0 w0.heap.size 1 H.Ap H.np (marksIntS H.np q) := by rw [← mkI_ints]; exact r.1.2.to k0
  refine (heldPool_c H.pb H.ps H.pc H.Ap H.np H.cp q _ hrp hq0 (by omega) (by omega)).mono ?_
  rintro e w1 ⟨rfl, hb⟩
  have k1 := ext_step k0 k0.size hb
  have hb1 := hb0.ext hb
  have s8 := hb1.at_ 8 _ rfl
  have hp0 : ¬ q + (H.np : Int) < 0 := by omega
  clear hb
  go_wp2_with fail
  refine (heldSentS_c H.As H.ns H.cs H.L (q + H.np) _ (r.2.1.2.to k1) hn (r.2.2.to k1) (by omega) (by omega) (by omega) (by omega)).mono ?_
  rintro e w2 ⟨rfl, hb⟩
  have k2 := ext_step k1 k1.size hb
  have hp1 : ¬ q + (H.np : Int) + 2 * (H.ns : Int) + (totB H.L : Int) < 0 := by omega
  go_wp2
  go_ret
  exact ⟨ret_int (by omega), k2⟩
end Go.Proofs.Ytnkcomclhmlefaa
