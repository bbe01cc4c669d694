/- Contracts of Template: impl and spec. -/
import Derived.Test.YtifbfmafogmemaaPktG
namespace Go.Proofs.Ytifbfmafogmemaa
set_option linter.unusedSimpArgs false
set_option linter.unusedVariables false
open Go.RowKit Go.ChangeShapes Go.WideShapes
set_option maxRecDepth 100000 in
set_option maxHeartbeats 4000000 in
theorem implTemplate_c (p : Packet) (w : World) (hz : p.seg_body.size ≤ 1048576) :
    Calls Try.prog 14 #[.agg #[.int .i64 p.dmac, .int .i64 p.smac, .int .i64 p.vlan, .int .i64 p.tos, .int .i64 p.id, .int .i64 p.ttl, .int .i64 p.sip, .int .i64 p.dip, .int .i64 p.seg_kind, .int .i64 p.seg_sport, .int .i64 p.seg_dport, .int .i64 p.seg_seq, .int .i64 p.seg_ack, .int .i64 p.seg_flags, .int .i64 p.seg_win, .string p.seg_body]] w fun e w' => e = .returned (.tuple #[.string (if superB p then tmplS p else ByteArray.empty), .bool (superB p)]) ∧ Below w.heap.size w w' := by
  cases hok : superB p
  · rw [if_neg (by decide)]
    have hbi := fun u => implBuildImage_c p u hz
    simp only [hok, Bool.false_eq_true, if_false] at hbi
    go_enter Try.func14, Try.ntmps14
    go_wp2_with fail
    refine (hbi _).mono ?_
    rintro e w1 ⟨rfl, hb⟩
    have hk : Below w.heap.size w w1 := ext_step (by go_grown) (by go_size) hb
    go_wp2
    refine bodyPost_ret (v := .tuple #[.string ByteArray.empty, .bool false]) (by simp [results, Try.results14, go_sem]; rfl) rfl ?_
    exact ⟨rfl, hk⟩
  · rw [if_pos rfl]
    obtain ⟨i0, i1⟩ := img_size hok
    have hbi := fun u => implBuildImage_c p u hz
    simp only [hok, if_true] at hbi
    rw [tmplS]
    generalize imgS p = s at *
    have hpl := fun u => implPlaces_c s u (by omega)
    have hab : (atN s : Int) + 10 ≤ 28 := by unfold atN; split <;> omega
    have hsb : 0 ≤ sumN s ∧ sumN s ≤ 54 := by unfold sumN plcI atN; split <;> split <;> omega
    obtain ⟨a, ha⟩ : ∃ a, (atN s : Int) + 10 = a := ⟨_, rfl⟩
    have ha0 : 0 ≤ a := by omega
    simp only [ha] at hpl hab ⊢
    generalize sumN s = b at *
    clear ha i0
    have zp := putB_size s a (w16 0)
    have z0 : (w16 0).size = 2 := w16_size (by decide)
    have hp1 := fun u => implPutBytes_c s (w16 0) a u (by omega) (by omega) ⟨by omega, by omega⟩
    generalize putB s a (w16 0) = s2 at *
    go_enter Try.func14, Try.ntmps14
    go_wp2_with fail
    refine (hbi _).mono ?_
    rintro e w1 ⟨rfl, hb⟩
    have hk : Below w.heap.size w w1 := ext_step (by go_grown) (by go_size) hb
    clear hb
    go_wp2_with fail
    refine (hpl _).mono ?_
    rintro e w2 ⟨rfl, hb⟩
    replace hk := ext_step hk hk.size hb
    clear hb
    go_wp2_with fail
    refine (implWord16_c 0 _ ⟨by decide, by decide⟩).mono ?_
    rintro e w3 ⟨rfl, hb⟩
    replace hk := ext_step hk hk.size hb
    clear hb
    go_wp2_with fail
    refine (hp1 _).mono ?_
    rintro e w4 ⟨rfl, hb⟩
    replace hk := ext_step hk hk.size hb
    clear hb
    go_wp2_with fail
    refine (implWord16_c 0 _ ⟨by decide, by decide⟩).mono ?_
    rintro e w5 ⟨rfl, hb⟩
    replace hk := ext_step hk hk.size hb
    clear hb
    go_wp2_with fail
    refine (implPutBytes_c s2 (w16 0) b _ (by omega) (by omega) ⟨by omega, by omega⟩).mono ?_
    rintro e w6 ⟨rfl, hb⟩
    replace hk := ext_step hk hk.size hb
    clear hb
    go_wp2
    refine bodyPost_ret (v := .tuple #[.string (putB s2 b (w16 0)), .bool true]) (by simp [results, Try.results14, go_sem]) rfl ?_
    exact ⟨rfl, hk⟩
set_option maxRecDepth 100000 in
set_option maxHeartbeats 4000000 in
theorem specTemplate_c (p : Packet) (w : World) (hz : p.seg_body.size ≤ 1048576) :
    Calls Try.prog 12 #[.agg #[.int .i64 p.dmac, .int .i64 p.smac, .int .i64 p.vlan, .int .i64 p.tos, .int .i64 p.id, .int .i64 p.ttl, .int .i64 p.sip, .int .i64 p.dip, .int .i64 p.seg_kind, .int .i64 p.seg_sport, .int .i64 p.seg_dport, .int .i64 p.seg_seq, .int .i64 p.seg_ack, .int .i64 p.seg_flags, .int .i64 p.seg_win, .string p.seg_body]] w fun e w' => e = .returned (.tuple #[.string (if superB p then tmplS p else ByteArray.empty), .bool (superB p)]) ∧ Below w.heap.size w w' := by
  cases hok : superB p
  · rw [if_neg (by decide)]
    have hbi := fun u => specBuildImage_c p u hz
    simp only [hok, Bool.false_eq_true, if_false] at hbi
    go_enter Try.func12, Try.ntmps12
    go_wp2_with fail
    refine (hbi _).mono ?_
    rintro e w1 ⟨rfl, hb⟩
    have hk : Below w.heap.size w w1 := ext_step (by go_grown) (by go_size) hb
    go_wp2
    refine bodyPost_ret (v := .tuple #[.string ByteArray.empty, .bool false]) (by simp [results, Try.results12, go_sem]; rfl) rfl ?_
    exact ⟨rfl, hk⟩
  · rw [if_pos rfl]
    obtain ⟨i0, i1⟩ := img_size hok
    have hbi := fun u => specBuildImage_c p u hz
    simp only [hok, if_true] at hbi
    rw [tmplS]
    generalize imgS p = s at *
    have hpl := fun u => specPlaces_c s u (by omega) i0
    have hab : (atN s : Int) + 10 ≤ 28 := by unfold atN; split <;> omega
    have hsb : 0 ≤ sumN s ∧ sumN s ≤ 54 := by unfold sumN plcI atN; split <;> split <;> omega
    obtain ⟨a, ha⟩ : ∃ a, (atN s : Int) + 10 = a := ⟨_, rfl⟩
    have ha0 : 0 ≤ a := by omega
    simp only [ha] at hpl hab ⊢
    generalize sumN s = b at *
    clear ha i0
    have zp := putB_size s a (w16 0)
    have z0 : (w16 0).size = 2 := w16_size (by decide)
    have hp1 := fun u => specPutBytes_c s (w16 0) a u (by omega) (by omega) ⟨by omega, by omega⟩
    generalize putB s a (w16 0) = s2 at *
    go_enter Try.func12, Try.ntmps12
    go_wp2_with fail
    refine (hbi _).mono ?_
    rintro e w1 ⟨rfl, hb⟩
    have hk : Below w.heap.size w w1 := ext_step (by go_grown) (by go_size) hb
    clear hb
    go_wp2_with fail
    refine (hpl _).mono ?_
    rintro e w2 ⟨rfl, hb⟩
    replace hk := ext_step hk hk.size hb
    clear hb
    go_wp2_with fail
    refine (specWord16_c 0 _ ⟨by decide, by decide⟩).mono ?_
    rintro e w3 ⟨rfl, hb⟩
    replace hk := ext_step hk hk.size hb
    clear hb
    go_wp2_with fail
    refine (hp1 _).mono ?_
    rintro e w4 ⟨rfl, hb⟩
    replace hk := ext_step hk hk.size hb
    clear hb
    go_wp2_with fail
    refine (specWord16_c 0 _ ⟨by decide, by decide⟩).mono ?_
    rintro e w5 ⟨rfl, hb⟩
    replace hk := ext_step hk hk.size hb
    clear hb
    go_wp2_with fail
    refine (specPutBytes_c s2 (w16 0) b _ (by omega) (by omega) ⟨by omega, by omega⟩).mono ?_
    rintro e w6 ⟨rfl, hb⟩
    replace hk := ext_step hk hk.size hb
    clear hb
    go_wp2
    refine bodyPost_ret (v := .tuple #[.string (putB s2 b (w16 0)), .bool true]) (by simp [results, Try.results12, go_sem]) rfl ?_
    exact ⟨rfl, hk⟩
end Go.Proofs.Ytifbfmafogmemaa
