/- Plain: a segment that can be read. -/
import Derived.Test.YtifbfmafogmemaaPktB
namespace Go.Proofs.Ytifbfmafogmemaa
set_option linter.unusedSimpArgs false
set_option linter.unusedVariables false
open Go.RowKit Go.ChangeShapes Go.WideShapes
def tcpB (kd : Int) (s : ByteArray) : Bool := decide (kd = 6) && decide (20 ≤ s.size)
def udpB (kd : Int) (s : ByteArray) : Bool := decide (kd = 17) && decide (8 ≤ s.size)
def sqR (kd : Int) (s : ByteArray) : Int := if kd = 6 then g32 s 4 else 0
def akR (kd : Int) (s : ByteArray) : Int := if kd = 6 then g32 s 8 else 0
def flR (kd : Int) (s : ByteArray) : Int := if kd = 6 then byt s 13 else 0
def wnR (kd : Int) (s : ByteArray) : Int := if kd = 6 then g16 s 14 else 0
def bdR (kd : Int) (s : ByteArray) : ByteArray := if kd = 6 then s.extract 20 s.size else s.extract 8 s.size
/-- A segment that can be read. -/
def okR (si di kd : Int) (s : ByteArray) : Bool := (tcpB kd s || udpB kd s) && (segB kd (g16 s 0) (g16 s 2) (sqR kd s) (akR kd s) (flR kd s) (wnR kd s) (bdR kd s) && ((segS si di kd (g16 s 0) (g16 s 2) (sqR kd s) (akR kd s) (flR kd s) (wnR kd s) (bdR kd s)).toList == s.toList))
def sgI (si di kd : Int) (s : ByteArray) (v : Int) : Int := if okR si di kd s then v else 0
def sgT (si di kd : Int) (s t : ByteArray) : ByteArray := if okR si di kd s then t else ByteArray.empty
theorem sgI_yes {si di kd : Int} {s : ByteArray} (h : okR si di kd s = true) (v : Int) : sgI si di kd s v = v := by rw [sgI, if_pos h]
theorem sgI_no {si di kd : Int} {s : ByteArray} (h : okR si di kd s = false) (v : Int) : sgI si di kd s v = 0 := by rw [sgI, if_neg (by rw [h]; decide)]
theorem sgT_yes {si di kd : Int} {s : ByteArray} (h : okR si di kd s = true) (v : ByteArray) : sgT si di kd s v = v := by rw [sgT, if_pos h]
theorem sgT_no {si di kd : Int} {s : ByteArray} (h : okR si di kd s = false) (v : ByteArray) : sgT si di kd s v = ByteArray.empty := by rw [sgT, if_neg (by rw [h]; decide)]
end Go.Proofs.Ytifbfmafogmemaa
