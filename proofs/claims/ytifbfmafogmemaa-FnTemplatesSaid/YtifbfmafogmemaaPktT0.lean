/- Plain: the packet that an image holds. -/
import Derived.Test.YtifbfmafogmemaaPktQ
import Derived.Test.YtifbfmafogmemaaPktR0
namespace Go.Proofs.Ytifbfmafogmemaa
set_option linter.unusedSimpArgs false
set_option linter.unusedVariables false
open Go.RowKit Go.ChangeShapes Go.WideShapes
/-- The packet that an image holds. -/
def rdP (s : ByteArray) : Packet := ⟨dstE s, srcE s, vlE s, byt (bdE s) 1, g16 (bdE s) 4, byt (bdE s) 8, g32 (bdE s) 12, g32 (bdE s) 16, byt (bdE s) 9, g16 (bdP (bdE s)) 0, g16 (bdP (bdE s)) 2, sqR (byt (bdE s) 9) (bdP (bdE s)), akR (byt (bdE s) 9) (bdP (bdE s)), flR (byt (bdE s) 9) (bdP (bdE s)), wnR (byt (bdE s) 9) (bdP (bdE s)), bdR (byt (bdE s) 9) (bdP (bdE s))⟩
def zeroP : Packet := ⟨0, 0, 0, 0, 0, 0, 0, 0, 0, 0, 0, 0, 0, 0, 0, ByteArray.empty⟩
/-- Why an image cannot be read; 0: it can. -/
def rdC (s : ByteArray) : Int := if okE s = true ∧ tyE s = 2048 then (if okP (bdE s) = true then (if okR (g32 (bdE s) 12) (g32 (bdE s) 16) (byt (bdE s) 9) (bdP (bdE s)) = true then (if superB (rdP s) = true then 0 else 5) else 4) else 3) else 2
def rdQ (s : ByteArray) : Packet := if rdC s = 0 then rdP s else zeroP
theorem rdC_bd {s : ByteArray} (h : rdC s = 0) : superB (rdP s) = true := by
  unfold rdC at h
  split at h
  · split at h
    · split at h
      · split at h
        · assumption
        · exact absurd h (by decide)
      · exact absurd h (by decide)
    · exact absurd h (by decide)
  · exact absurd h (by decide)
theorem okE_bd {s : ByteArray} (h : okE s = true) : (bdE s).size ≤ 400 := by
  rw [okE, Bool.and_eq_true] at h
  obtain ⟨_, _, _, _, _, h6⟩ := ethB_t h.2
  obtain ⟨_, h7⟩ := inB_t h6
  omega
theorem okP_t {s : ByteArray} (h : okP s = true) : inB (g32 s 12) 0 4294967295 = true ∧ inB (g32 s 16) 0 4294967295 = true ∧ (bdP s).size ≤ 380 := by
  rw [okP, Bool.and_eq_true] at h
  have h2 := h.2
  rw [Bool.and_eq_true] at h2
  obtain ⟨_, _, h3, h4, h5⟩ := ipB_t h2.1
  exact ⟨h3, h4, h5⟩
end Go.Proofs.Ytifbfmafogmemaa
