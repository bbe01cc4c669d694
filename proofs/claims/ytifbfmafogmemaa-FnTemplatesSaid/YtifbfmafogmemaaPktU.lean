/- Plain: the forms of an image and of its template, and what filling in its sums answers. -/
import Derived.Test.YtifbfmafogmemaaPktL
import Derived.Test.YtifbfmafogmemaaPktT0
import Derived.Test.YtifbfmafogmemaaPktH
namespace Go.Proofs.Ytifbfmafogmemaa
set_option linter.unusedSimpArgs false
set_option linter.unusedVariables false
open Go.RowKit Go.ChangeShapes Go.WideShapes
/-- The sums of a template. -/
def xF (t : ByteArray) : Int := chk ((bdE t).extract 0 20)
def kdF (t : ByteArray) : Int := byt (bdE t) 9
def nF (t : ByteArray) : Int := g16 (bdE t) 2
def gF (t : ByteArray) : ByteArray := (bdE t).extract 20 (nF t).toNat
def y0F (t : ByteArray) : Int := chk (psH (g32 (bdE t) 12) (g32 (bdE t) 16) (kdF t) ((gF t).size : Int) ++ gF t)
def yF (t : ByteArray) : Int := fixS (kdF t) (y0F t)
def fillT (t : ByteArray) : ByteArray := putB (putB t ((atN t : Int) + 10) (w16 (xF t))) (sumN t) (w16 (yF t))
/-- The sums of a template can be filled in. -/
def goodF (t : ByteArray) : Bool := decide (rdC (fillT t) = 0) && ((tmplS (rdP (fillT t))).toList == t.toList)
def outF (t : ByteArray) : ByteArray := if goodF t then imgS (rdP (fillT t)) else ByteArray.empty
def headP (p : Packet) : ByteArray := ethH p.dmac p.smac p.vlan 2048
def ip0P (p : Packet) : ByteArray := ipH0 p.tos p.id p.ttl p.seg_kind p.sip p.dip (segS p.sip p.dip p.seg_kind p.seg_sport p.seg_dport p.seg_seq p.seg_ack p.seg_flags p.seg_win p.seg_body).size
def seg0P (p : Packet) : ByteArray := segS0 p.seg_kind p.seg_sport p.seg_dport p.seg_seq p.seg_ack p.seg_flags p.seg_win p.seg_body
/-- An image and its template. -/
theorem img_form {p : Packet} (h : superB p = true) : ∃ P : ByteArray,
    imgS p = headP p ++ (putB (ip0P p) 10 (w16 (chk (ip0P p))) ++ (segS p.sip p.dip p.seg_kind p.seg_sport p.seg_dport p.seg_seq p.seg_ack p.seg_flags p.seg_win p.seg_body ++ P)) ∧
    tmplS p = headP p ++ (ip0P p ++ (seg0P p ++ P)) ∧
    (headP p).size = hdN p.vlan ∧ (ip0P p).size = 20 ∧ (seg0P p).size = (segS p.sip p.dip p.seg_kind p.seg_sport p.seg_dport p.seg_seq p.seg_ack p.seg_flags p.seg_win p.seg_body).size ∧ (seg0P p).size ≤ 340 ∧ 46 ≤ 20 + (seg0P p).size + P.size ∧ 20 + (seg0P p).size + P.size ≤ 400 := by
  obtain ⟨⟨r1, r2, r3⟩, ⟨r4, r5, r6, r7, r8⟩, r9⟩ := superB_t h
  obtain ⟨sb0, sb1, sb2⟩ := seg_bd r9 p.sip p.dip
  have zq : (segS p.sip p.dip p.seg_kind p.seg_sport p.seg_dport p.seg_seq p.seg_ack p.seg_flags p.seg_win p.seg_body).size = (segS0 p.seg_kind p.seg_sport p.seg_dport p.seg_seq p.seg_ack p.seg_flags p.seg_win p.seg_body).size := by rw [segS, segF, putB_size]
  have hfx : ∃ y, (w16 y).size = 2 ∧ segS p.sip p.dip p.seg_kind p.seg_sport p.seg_dport p.seg_seq p.seg_ack p.seg_flags p.seg_win p.seg_body = putB (segS0 p.seg_kind p.seg_sport p.seg_dport p.seg_seq p.seg_ack p.seg_flags p.seg_win p.seg_body) (plcI p.seg_kind) (w16 y) := by
    refine ⟨_, ?_, by rw [segS, segF]⟩
    have hc := chk_bd (psH p.sip p.dip p.seg_kind (segS0 p.seg_kind p.seg_sport p.seg_dport p.seg_seq p.seg_ack p.seg_flags p.seg_win p.seg_body).size ++ segS0 p.seg_kind p.seg_sport p.seg_dport p.seg_seq p.seg_ack p.seg_flags p.seg_win p.seg_body)
    exact w16_size (fix_bd hc.1 hc.2)
  have hS0z := segS0_zero r9
  have hS0s := segS0_size r9
  have hpl : 0 ≤ plcI p.seg_kind ∧ plcI p.seg_kind + 2 ≤ ((segS0 p.seg_kind p.seg_sport p.seg_dport p.seg_seq p.seg_ack p.seg_flags p.seg_win p.seg_body).size : Int) := by
    obtain ⟨_, ⟨h6, _⟩ | ⟨h6, _⟩⟩ := segB_t r9
    · rw [h6] at hS0s ⊢; rw [hS0s, show plcI 6 = 16 from rfl]; simp; omega
    · rw [h6] at hS0s ⊢; rw [hS0s, show plcI 17 = 6 from rfl]; simp; omega
  have zE : (ethH p.dmac p.smac p.vlan 2048).size = hdN p.vlan := ethH_size r1 r2 r3 (by decide)
  have hI0s := ipH0_size (tos := p.tos) (ttl := p.ttl) (pr := p.seg_kind) r6 r7 r8 (show (segS p.sip p.dip p.seg_kind p.seg_sport p.seg_dport p.seg_seq p.seg_ack p.seg_flags p.seg_win p.seg_body).size ≤ 380 by omega)
  have hI0z := ipH0_zero (tos := p.tos) (ttl := p.ttl) (pr := p.seg_kind) r6 r7 r8 (show (segS p.sip p.dip p.seg_kind p.seg_sport p.seg_dport p.seg_seq p.seg_ack p.seg_flags p.seg_win p.seg_body).size ≤ 380 by omega)
  have himg : imgS p = ethS p.dmac p.smac p.vlan 2048 (padS (ipS p.tos p.id p.ttl p.seg_kind p.sip p.dip (segS p.sip p.dip p.seg_kind p.seg_sport p.seg_dport p.seg_seq p.seg_ack p.seg_flags p.seg_win p.seg_body))) := rfl
  have hi1 := inB_t r4
  have hk1 : inB p.seg_kind 0 255 = true := sb2
  have zt : (w16 (chk (ip0P p))).size = 2 := w16_size (inBi (chk_bd _).1 (chk_bd _).2)
  have hhp : headP p = ethH p.dmac p.smac p.vlan 2048 := rfl
  have hip : ip0P p = ipH0 p.tos p.id p.ttl p.seg_kind p.sip p.dip (segS p.sip p.dip p.seg_kind p.seg_sport p.seg_dport p.seg_seq p.seg_ack p.seg_flags p.seg_win p.seg_body).size := rfl
  have hsp : seg0P p = segS0 p.seg_kind p.seg_sport p.seg_dport p.seg_seq p.seg_ack p.seg_flags p.seg_win p.seg_body := rfl
  have hipH : ipS p.tos p.id p.ttl p.seg_kind p.sip p.dip (segS p.sip p.dip p.seg_kind p.seg_sport p.seg_dport p.seg_seq p.seg_ack p.seg_flags p.seg_win p.seg_body) = putB (ip0P p) 10 (w16 (chk (ip0P p))) ++ segS p.sip p.dip p.seg_kind p.seg_sport p.seg_dport p.seg_seq p.seg_ack p.seg_flags p.seg_win p.seg_body := rfl
  have hback := fun (H r : ByteArray) => ip_back (H := H) (r := r) r4 r5 hk1 r6 r7 r8 (show (segS p.sip p.dip p.seg_kind p.seg_sport p.seg_dport p.seg_seq p.seg_ack p.seg_flags p.seg_win p.seg_body).size ≤ 380 by omega) (chk (ip0P p)) zt
  rw [← hip] at hI0s hI0z hback
  rw [← hsp] at zq hfx hS0z hS0s hpl
  rw [← hhp] at zE
  rw [ethS_eq, ← hhp, hipH] at himg
  have hpb := pad_bd (s := putB (ip0P p) 10 (w16 (chk (ip0P p))) ++ segS p.sip p.dip p.seg_kind p.seg_sport p.seg_dport p.seg_seq p.seg_ack p.seg_flags p.seg_win p.seg_body) (by rw [ByteArray.size_append, putB_size]; omega)
  obtain ⟨P, hP⟩ := pad_eq (putB (ip0P p) 10 (w16 (chk (ip0P p))) ++ segS p.sip p.dip p.seg_kind p.seg_sport p.seg_dport p.seg_seq p.seg_ack p.seg_flags p.seg_win p.seg_body)
  have hEok : ∀ B : ByteArray, 46 ≤ B.size → B.size ≤ 400 → ethB p.dmac p.smac p.vlan 2048 B = true := fun B h1 h2 => by
    rw [ethB, r1, r2, r3, show inB (B.size : Int) 46 400 = true from inBi (by omega) (by omega)]; rfl
  rw [hP, ByteArray.append_assoc] at himg
  rw [hP] at hpb
  have hb2 := hback _ (segS p.sip p.dip p.seg_kind p.seg_sport p.seg_dport p.seg_seq p.seg_ack p.seg_flags p.seg_win p.seg_body ++ P) (.inr rfl)
  have hpsz : (putB (ip0P p) 10 (w16 (chk (ip0P p)))).size = 20 := by rw [putB_size, hI0s]
  simp only [ByteArray.size_append] at hpb
  obtain ⟨ha, _, _, _, _, hbd, _⟩ := eth_back (hEok (putB (ip0P p) 10 (w16 (chk (ip0P p))) ++ (segS p.sip p.dip p.seg_kind p.seg_sport p.seg_dport p.seg_seq p.seg_ack p.seg_flags p.seg_win p.seg_body ++ P)) (by simp only [ByteArray.size_append]; omega) (by simp only [ByteArray.size_append]; omega))
  rw [← hhp, ← himg] at ha hbd
  refine ⟨P, himg, ?_, zE, hI0s, zq.symm, by omega, by omega, by omega⟩
  have hby : byt (imgS p) (atN (imgS p) + 9) = p.seg_kind := by
    rw [ha, himg, byt_r (j := 9) (by omega)]; exact hb2.2.2.2.2.1
  rw [tmplS, sumN, hby, ha, himg, put_r (b := 10) (by omega) (by decide), put_r (b := 20 + plcI p.seg_kind) (by omega) (by omega), put_l (by rw [hpsz, w16_size (by decide)]; decide), put_put (by rw [zt, w16_size (by decide)]),
    put_zero (by decide) (by rw [hI0s]; decide) hI0z, put_r (b := plcI p.seg_kind) (by omega) (by omega), put_l (by rw [w16_size (by decide)]; omega)]
  obtain ⟨y, hy, hyS⟩ := hfx
  rw [hyS, put_put (by rw [hy, w16_size (by decide)]), put_zero (by omega) (by omega) hS0z]
theorem super_eth {p : Packet} (h : superB p = true) {B : ByteArray} (h1 : 46 ≤ B.size) (h2 : B.size ≤ 400) : ethB p.dmac p.smac p.vlan 2048 B = true := by
  obtain ⟨⟨r1, r2, r3⟩, _⟩ := superB_t h
  rw [ethB, r1, r2, r3, show inB (B.size : Int) 46 400 = true from inBi (by omega) (by omega)]; rfl
/-- What a template says of itself. -/
theorem tmpl_says {p : Packet} (h : superB p = true) :
    okE (tmplS p) = true ∧ atN (tmplS p) = hdN p.vlan ∧ (bdE (tmplS p)).size ≤ 400 ∧ (tmplS p).size = atN (tmplS p) + (bdE (tmplS p)).size ∧ 46 ≤ (bdE (tmplS p)).size ∧ nF (tmplS p) = 20 + ((seg0P p).size : Int) ∧ 20 + (seg0P p).size ≤ (bdE (tmplS p)).size ∧ kdF (tmplS p) = p.seg_kind ∧
    bdE (tmplS p) = ip0P p ++ (gF (tmplS p) ++ (bdE (tmplS p)).extract (20 + (seg0P p).size) (bdE (tmplS p)).size) ∧ gF (tmplS p) = seg0P p ∧ g32 (bdE (tmplS p)) 12 = p.sip ∧ g32 (bdE (tmplS p)) 16 = p.dip := by
  obtain ⟨P, _, ht, zE, zI, zq, z1, z2, z3⟩ := img_form h
  obtain ⟨⟨r1, r2, r3⟩, ⟨r4, r5, r6, r7, r8⟩, r9⟩ := superB_t h
  obtain ⟨sb0, sb1, sb2⟩ := seg_bd r9 p.sip p.dip
  have hsz : (ip0P p ++ (seg0P p ++ P)).size = 20 + (seg0P p).size + P.size := by simp only [ByteArray.size_append]; omega
  obtain ⟨ha, _, _, _, _, hbd, hok⟩ := eth_back (super_eth h (B := ip0P p ++ (seg0P p ++ P)) (by omega) (by omega))
  have hts : (tmplS p).size = (headP p).size + (ip0P p ++ (seg0P p ++ P)).size := (congrArg ByteArray.size ht).trans ByteArray.size_append
  have hhp : headP p = ethH p.dmac p.smac p.vlan 2048 := rfl
  rw [← hhp, ← ht] at ha hbd hok
  have hb := ip_back (H := ip0P p) (r := seg0P p ++ P) r4 r5 sb2 r6 r7 r8 (show (segS p.sip p.dip p.seg_kind p.seg_sport p.seg_dport p.seg_seq p.seg_ack p.seg_flags p.seg_win p.seg_body).size ≤ 380 by omega) 0 (w16_size (by decide)) (.inl rfl)
  obtain ⟨_, k2, _, _, k5, k6, k7, _⟩ := hb
  have hn : nF (tmplS p) = 20 + ((seg0P p).size : Int) := by
    have e : nF (tmplS p) = g16 (bdE (tmplS p)) 2 := rfl
    rw [hbd] at e
    exact (e.trans k2).trans (congrArg (fun n : Nat => 20 + (n : Int)) zq.symm)
  have hg : gF (tmplS p) = seg0P p := by
    rw [gF, hn, hbd]; exact ex_m zI.symm (by rw [zI]; omega)
  refine ⟨hok, ha, by rw [hbd]; omega, by rw [ha, hbd, hts, zE], by rw [hbd]; omega, hn, by rw [hbd]; omega, by rw [kdF, hbd, k5], ?_, hg, by rw [hbd, k6], by rw [hbd, k7]⟩
  have e1 : (ip0P p ++ (seg0P p ++ P)).extract (20 + (seg0P p).size) (ip0P p ++ (seg0P p ++ P)).size = P := by
    have e2 := ByteArray.append_assoc (a := ip0P p) (b := seg0P p) (c := P)
    have e3 := ByteArray.size_append (a := ip0P p) (b := seg0P p)
    have e4 := ByteArray.size_append (a := ip0P p ++ seg0P p) (b := P)
    rw [← e2]
    exact ex_r (by omega) (by omega)
  rw [hg, hbd, e1]
/-- A template whose sums are filled in is its image. -/
theorem fill_tmpl {p : Packet} (h : superB p = true) : fillT (tmplS p) = imgS p := by
  obtain ⟨hok, ha, h1, h2, h3, hn, h4, hk, hb, hg, hs, hd⟩ := tmpl_says h
  obtain ⟨P, hi, ht, zE, zI, zq, z1, z2, z3⟩ := img_form h
  have hx : xF (tmplS p) = chk (ip0P p) := by rw [xF, hb]; rw [ex_l zI.symm]
  have hy0 : y0F (tmplS p) = chk (psH p.sip p.dip p.seg_kind ((seg0P p).size : Int) ++ seg0P p) := by rw [y0F, hs, hd, hk, hg]
  have hS : segS p.sip p.dip p.seg_kind p.seg_sport p.seg_dport p.seg_seq p.seg_ack p.seg_flags p.seg_win p.seg_body = putB (seg0P p) (plcI p.seg_kind) (w16 (yF (tmplS p))) := by rw [yF, hy0, hk, segS, segF]; rfl
  have hc := chk_bd (ip0P p)
  have zx : (w16 (chk (ip0P p))).size = 2 := w16_size (inBi hc.1 hc.2)
  have hcy : 0 ≤ y0F (tmplS p) ∧ y0F (tmplS p) ≤ 65535 := chk_bd _
  have zy : (w16 (yF (tmplS p))).size = 2 := w16_size (fix_bd hcy.1 hcy.2)
  have hby : byt (tmplS p) (atN (tmplS p) + 9) = p.seg_kind := by
    rw [← hk, kdF, bdE, byt_ex, if_pos (by omega)]
  have hpl : 0 ≤ plcI p.seg_kind ∧ plcI p.seg_kind + 2 ≤ ((seg0P p).size : Int) := by
    obtain ⟨_, _, r9⟩ := superB_t h
    have hS0s : (seg0P p).size = (if p.seg_kind = 6 then 20 else 8) + p.seg_body.size := segS0_size r9
    obtain ⟨_, ⟨h6, _⟩ | ⟨h6, _⟩⟩ := segB_t r9
    · rw [h6] at hS0s ⊢; rw [hS0s, show plcI 6 = 16 from rfl]; simp; omega
    · rw [h6] at hS0s ⊢; rw [hS0s, show plcI 17 = 6 from rfl]; simp; omega
  rw [fillT, sumN, hby, ha, hx, hi, hS]
  generalize yF (tmplS p) = y at *
  rw [ht, put_r (b := 10) (by omega) (by decide), put_r (b := 20 + plcI p.seg_kind) (by omega) (by omega), put_l (by rw [zI, zx]; decide), put_r (b := plcI p.seg_kind) (by rw [putB_size, zI]; rfl) (by omega), put_l (by omega)]
/-- An image can be read back. -/
theorem read_img {p : Packet} (h : superB p = true) : rdC (imgS p) = 0 ∧ rdP (imgS p) = p := by
  obtain ⟨P, hi, _, zE, zI, zq, z1, z2, z3⟩ := img_form h
  obtain ⟨⟨r1, r2, r3⟩, ⟨r4, r5, r6, r7, r8⟩, r9⟩ := superB_t h
  obtain ⟨sb0, sb1, sb2⟩ := seg_bd r9 p.sip p.dip
  obtain ⟨s0, s1, s2, s3, s4, s5, s6, s7⟩ := seg_ok r9 p.sip p.dip
  obtain ⟨G, hG⟩ : ∃ G, segS p.sip p.dip p.seg_kind p.seg_sport p.seg_dport p.seg_seq p.seg_ack p.seg_flags p.seg_win p.seg_body = G := ⟨_, rfl⟩
  have hip0 : putB (ip0P p) 10 (w16 (chk (ip0P p))) = ipH p.tos p.id p.ttl p.seg_kind p.sip p.dip (segS p.sip p.dip p.seg_kind p.seg_sport p.seg_dport p.seg_seq p.seg_ack p.seg_flags p.seg_win p.seg_body).size := rfl
  rw [hip0] at hi
  rw [hG] at hi sb0 sb1 s0 s1 s2 s3 s4 s5 s6 s7 zq hip0
  have hip : ipB p.tos p.id p.ttl p.seg_kind p.sip p.dip G = true := by simp only [ipB, r4, r5, r6, r7, r8, sb2, Bool.and_self, Bool.true_and, decide_eq_true_eq]; omega
  obtain ⟨o1, b1, b2, b3, b4, b5, b6, b7⟩ := ip_ok (r := P) hip
  have hDz : (ipH p.tos p.id p.ttl p.seg_kind p.sip p.dip G.size ++ (G ++ P)).size = 20 + G.size + P.size := by
    rw [← hip0]; simp only [ByteArray.size_append, putB_size]; omega
  obtain ⟨D, hD⟩ : ∃ D, ipH p.tos p.id p.ttl p.seg_kind p.sip p.dip G.size ++ (G ++ P) = D := ⟨_, rfl⟩
  rw [hD] at hi hDz
  simp only [hD] at o1 b1 b2 b3 b4 b5 b6 b7
  obtain ⟨ha, e1, e2, e3, e4, e5, e6⟩ := eth_back (super_eth h (B := D) (by omega) (by omega))
  have hhp : headP p = ethH p.dmac p.smac p.vlan 2048 := rfl
  rw [← hhp, ← hi] at e1 e2 e3 e4 e5 e6
  have hP : rdP (imgS p) = p := by
    simp only [rdP, e5, b7, b4, e1, e2, e3, b1, b2, b3, b5, b6, s1, s2, s3, s4, s5, s6, s7]
  refine ⟨?_, hP⟩
  rw [rdC, if_pos ⟨e6, e4⟩, e5, if_pos o1, b5, b6, b4, b7, if_pos s0, hP, if_pos h]
theorem good_tmpl {p : Packet} (h : superB p = true) : goodF (tmplS p) = true ∧ outF (tmplS p) = imgS p := by
  obtain ⟨h1, h2⟩ := read_img h
  have hg : goodF (tmplS p) = true := by rw [goodF, fill_tmpl h, h1, h2]; simp
  exact ⟨hg, by rw [outF, hg, if_pos rfl, fill_tmpl h, h2]⟩
theorem tmpl_size (p : Packet) : (tmplS p).size = (imgS p).size := by rw [tmplS, putB_size, putB_size]
/-- What makes spec.FillSums begin. -/
def preS (t : ByteArray) : Prop := atN t + 46 ≤ t.size ∧ g16 t ((atN t : Int) + 10) = 0 ∧ g16 t (sumN t) = 0 ∧ sumN t + 2 - atN t ≤ nF t ∧ nF t ≤ (t.size : Int) - atN t
def preI (t : ByteArray) : Prop := okE t = true ∧ 20 ≤ nF t ∧ nF t ≤ ((bdE t).size : Int) ∧ plcI (kdF t) + 2 ≤ ((gF t).size : Int)
theorem good_form {t : ByteArray} (h : goodF t = true) : ∃ p, superB p = true ∧ t = tmplS p := by
  rw [goodF, Bool.and_eq_true, decide_eq_true_eq] at h
  have h2 := eq_of_beq h.2
  rw [ByteArray.toList_eq, ByteArray.toList_eq] at h2
  exact ⟨_, rdC_bd h.1, (bytes_inj h2).symm⟩
theorem good_pre {t : ByteArray} (h : goodF t = true) : preI t ∧ preS t := by
  obtain ⟨p, hp, rfl⟩ := good_form h
  obtain ⟨hok, ha, h1, h2, h3, hn, h4, hk, hb, hg, hs, hd⟩ := tmpl_says hp
  obtain ⟨P, hi, ht, zE, zI, zq, z1, z2, z3⟩ := img_form hp
  have hby : byt (tmplS p) (atN (tmplS p) + 9) = p.seg_kind := by
    rw [← hk, kdF, bdE, byt_ex, if_pos (by omega)]
  obtain ⟨⟨r1, r2, r3⟩, ⟨r4, r5, r6, r7, r8⟩, r9⟩ := superB_t hp
  obtain ⟨sb0, sb1, sb2⟩ := seg_bd r9 p.sip p.dip
  have hpl : 0 ≤ plcI p.seg_kind ∧ plcI p.seg_kind + 2 ≤ ((seg0P p).size : Int) := by
    have hS0s : (seg0P p).size = (if p.seg_kind = 6 then 20 else 8) + p.seg_body.size := segS0_size r9
    obtain ⟨_, ⟨h6, _⟩ | ⟨h6, _⟩⟩ := segB_t r9
    · rw [h6] at hS0s ⊢; rw [hS0s, show plcI 6 = 16 from rfl]; simp; omega
    · rw [h6] at hS0s ⊢; rw [hS0s, show plcI 17 = 6 from rfl]; simp; omega
  have hz1 : g16 (ip0P p) 10 = 0 := ipH0_zero r6 r7 r8 (show (segS p.sip p.dip p.seg_kind p.seg_sport p.seg_dport p.seg_seq p.seg_ack p.seg_flags p.seg_win p.seg_body).size ≤ 380 by omega)
  have hz2 : g16 (seg0P p) (plcI p.seg_kind) = 0 := segS0_zero r9
  refine ⟨⟨hok, by rw [hn]; omega, by rw [hn]; omega, by rw [hk, hg]; exact hpl.2⟩, by omega, ?_, ?_, by rw [sumN, hby, hn]; omega, by rw [hn]; omega⟩
  · rw [ha, ht, g16_r (b := 10) (by omega) (by decide), g16_l (by decide) (by omega), hz1]
  · rw [sumN, hby, ha, ht, g16_r (b := 20 + plcI p.seg_kind) (by omega) (by omega), g16_r (b := plcI p.seg_kind) (by omega) (by omega), g16_l (by omega) (by omega), hz2]
theorem not_goodI {t : ByteArray} (h : preI t → False) : goodF t = false := by
  cases hg : goodF t
  · rfl
  · exact (h (good_pre hg).1).elim
theorem not_goodS {t : ByteArray} (h : preS t → False) : goodF t = false := by
  cases hg : goodF t
  · rfl
  · exact (h (good_pre hg).2).elim
theorem outF_no {t : ByteArray} (h : goodF t = false) : outF t = ByteArray.empty := by rw [outF, h]; rfl
theorem outF_yes {t : ByteArray} (h : goodF t = true) : outF t = imgS (rdP (fillT t)) := by rw [outF, h]; rfl
theorem bd_split {t : ByteArray} (h : atN t ≤ t.size) : ∃ h0 : ByteArray, t = h0 ++ bdE t ∧ h0.size = atN t := by
  refine ⟨t.extract 0 (atN t), ?_, by rw [ex_size _ _ _ h]; omega⟩
  have z1 := ex_size t 0 (atN t) h
  have z2 := ex_size t (atN t) t.size (Nat.le_refl _)
  apply byt_ext
  · rw [ByteArray.size_append, z1, bdE, z2]; omega
  · intro i hi
    rw [byt_app, z1, bdE, byt_ex, byt_ex]
    by_cases h1 : i < atN t
    · rw [if_pos (by omega), if_pos (by omega)]; congr 1; omega
    · rw [if_neg (by omega), if_pos (by omega)]; congr 1; omega
theorem bd_reads {t : ByteArray} {A : Int} (h : atN t + 46 ≤ t.size) (hA : (atN t : Int) = A) : g16 t (A + 2) = nF t ∧ byt t (A + 9).toNat = kdF t ∧ g32 t (A + 12) = g32 (bdE t) 12 ∧ g32 t (A + 16) = g32 (bdE t) 16 ∧ (bdE t).size = t.size - atN t ∧
    t.extract A.toNat (A + 20).toNat = (bdE t).extract 0 20 ∧ (20 ≤ nF t → nF t ≤ (t.size : Int) - A → t.extract (A + 20).toNat (A + nF t).toNat = gF t) := by
  obtain ⟨h0, ht, hz⟩ := bd_split (t := t) (by omega)
  have hsz : (bdE t).size = t.size - atN t := by rw [bdE, ex_size _ _ _ (Nat.le_refl _)]
  have e1 : g16 t (A + 2) = nF t := by
    have := g16_r (h := h0) (r := bdE t) (a := A + 2) (b := 2) (by omega) (by decide)
    rw [← ht] at this; exact this
  refine ⟨e1, ?_, ?_, ?_, hsz, ?_, fun h20 hn => ?_⟩
  · have := byt_r (h := h0) (r := bdE t) (i := (A + 9).toNat) (j := 9) (by omega)
    rw [← ht] at this; exact this
  · have := g32_r (h := h0) (r := bdE t) (a := A + 12) (b := 12) (by omega) (by decide)
    rw [← ht] at this; exact this
  · have := g32_r (h := h0) (r := bdE t) (a := A + 16) (b := 16) (by omega) (by decide)
    rw [← ht] at this; exact this
  · apply byt_ext
    · rw [ex_size _ _ _ (by omega), ex_size _ _ _ (by omega)]; omega
    · intro i hi
      rw [ex_size _ _ _ (by omega)] at hi
      rw [byt_ex, byt_ex, if_pos hi, if_pos (by omega), bdE, byt_ex, if_pos (by omega)]; congr 1; omega
  · rw [gF]
    apply byt_ext
    · rw [ex_size _ _ _ (by omega), ex_size _ _ _ (by omega)]; omega
    · intro i hi
      rw [ex_size _ _ _ (by omega)] at hi
      rw [byt_ex, byt_ex, if_pos hi, if_pos (by omega), bdE, byt_ex, if_pos (by omega)]; congr 1; omega
end Go.Proofs.Ytifbfmafogmemaa
