/- Pruned by wip/prune.py. -/
import Derived.Test.YtieieindakbpoaaQPcEdit
import Derived.Test.YtieieindakbpoaaQSxGather
namespace Go.Proofs.Ytieieindakbpoaa.PE
open Go Go.Lib Go.RowKit Go.Proofs.YtieieindakbpoaaW.PrintWords Go.Proofs.Ytieieindakbpoaa.Kinds Go.Proofs.Ytieieindakbpoaa.Given Go.Proofs.Ytieieindakbpoaa.Rn Go.Proofs.Ytieieindakbpoaa.Pc
set_option linter.unusedVariables false
set_option linter.unusedSimpArgs false
theorem chk_app {X Y : ByteArray} (h : (refV Y).2 < 0) : RD.pchk (X ++ Y) X.size = 0 := by
  unfold RD.pchk
  rw [ByteArray.size_append, if_neg (by omega), if_neg (fun z => ?_)]
  obtain ⟨z1, z2⟩ := z
  have h0 := between_chk h (between_zero h)
  unfold RD.pchk at h0
  rw [if_neg (by omega)] at h0
  rw [bt_right _ _ (Int.le_refl _), Int.sub_self] at z2
  rw [if_pos ⟨by omega, z2⟩] at h0
  omega
theorem span_of {C : ByteArray} {a b : Int} (h0 : 0 ≤ a) (h1 : a ≤ b) (h2 : b ≤ C.size) (h3 : RD.pchk C a = 0) (h4 : RD.pchk C b = 0) : RD.pspan C a b = 0 := by
  unfold RD.pspan
  rw [if_neg (by omega), if_neg (by omega), h4]
section
variable {C s : ByteArray} {k a b : Int}
theorem back_a (h : Rt C) (hp : ED.pins C k s = 0) : RD.pspan (ED.insT C k s) k (k + s.size) = 0 ∧ ED.delT (ED.insT C k s) k (k + s.size) = C := by
  obtain ⟨p1, p2, p3⟩ := pins0 hp
  obtain ⟨k0, k1⟩ := ED.chk0 p1
  have e : ED.insT C k s = C.extract 0 k.toNat ++ s ++ C.extract k.toNat C.size := if_pos hp
  have hA : (C.extract 0 k.toNat).size = k.toNat := by rw [ByteArray.size_extract]; omega
  have hz := ED.ins_size (s := s) k0 k1
  have hB := cut_right h.1 p1
  have hs := check_right p2
  have c1 : RD.pchk (ED.insT C k s) k = 0 := by
    rw [e, ByteArray.append_assoc]
    have := chk_app (X := C.extract 0 k.toNat) (right_app hs hB)
    rwa [hA, show ((k.toNat : Nat) : Int) = k by omega] at this
  have c2 : RD.pchk (ED.insT C k s) (k + s.size) = 0 := by
    rw [e]
    have := chk_app (X := C.extract 0 k.toNat ++ s) hB
    rwa [ByteArray.size_append, hA, show ((k.toNat + s.size : Nat) : Int) = k + s.size by omega] at this
  have sp : RD.pspan (ED.insT C k s) k (k + s.size) = 0 := span_of k0 (by omega) (by rw [e, hz]; omega) c1 c2
  refine ⟨sp, ?_⟩
  rw [show ED.delT (ED.insT C k s) k (k + s.size) = _ from if_pos sp]
  have e1 : (ED.insT C k s).extract 0 k.toNat = C.extract 0 k.toNat := by
    rw [e, ByteArray.append_assoc]
    have := ap_left (C.extract 0 k.toNat) (s ++ C.extract k.toNat C.size)
    rwa [hA] at this
  have e2 : (ED.insT C k s).extract (k + s.size).toNat (ED.insT C k s).size = C.extract k.toNat C.size := by
    rw [e]
    have := ap_right (C.extract 0 k.toNat ++ s) (C.extract k.toNat C.size)
    rwa [show (C.extract 0 k.toNat ++ s).size = (k + s.size).toNat by rw [ByteArray.size_append, hA]; omega] at this
  rw [e1, e2, ex_app _ (by omega) (by omega), ex_all]
theorem back_b (h : Rt C) (hp : RD.pspan C a b = 0) : (ED.delT C a b).size = C.size - (GA.rdT C a b).size ∧ (GA.rdT C a b).size ≤ C.size ∧ ED.pins (ED.delT C a b) a (GA.rdT C a b) = 0 ∧ ED.insT (ED.delT C a b) a (GA.rdT C a b) = C := by
  obtain ⟨a0, a1, a2, p1, p2⟩ := ED.span0 hp
  have hl := h.2
  have e : ED.delT C a b = C.extract 0 a.toNat ++ C.extract b.toNat C.size := if_pos hp
  have er : GA.rdT C a b = C.extract a.toNat b.toNat := if_pos hp
  have hA : (C.extract 0 a.toNat).size = a.toNat := by rw [ByteArray.size_extract]; omega
  have hz := ED.del_size a0 a1 a2
  have hr : (C.extract a.toNat b.toNat).size = b.toNat - a.toNat := by rw [ByteArray.size_extract]; omega
  have hB := cut_right h.1 p2
  have hm := sub_right h.1 (chk_between h.1 p1) (chk_between h.1 p2) a1
  have c1 : RD.pchk (ED.delT C a b) a = 0 := by
    rw [e]
    have := chk_app (X := C.extract 0 a.toNat) hB
    rwa [hA, show ((a.toNat : Nat) : Int) = a by omega] at this
  have pi : ED.pins (ED.delT C a b) a (GA.rdT C a b) = 0 := by
    unfold ED.pins
    rw [if_neg (by omega), er, right_check hm, if_neg (by omega), e, hz, hr, if_neg (by omega)]
  refine ⟨by rw [e, hz, er, hr], by rw [er, hr]; omega, pi, ?_⟩
  rw [show ED.insT (ED.delT C a b) a (GA.rdT C a b) = _ from if_pos pi, er]
  have e1 : (ED.delT C a b).extract 0 a.toNat = C.extract 0 a.toNat := by
    rw [e]
    have := ap_left (C.extract 0 a.toNat) (C.extract b.toNat C.size)
    rwa [hA] at this
  have e2 : (ED.delT C a b).extract a.toNat (ED.delT C a b).size = C.extract b.toNat C.size := by
    rw [e]
    have := ap_right (C.extract 0 a.toNat) (C.extract b.toNat C.size)
    rwa [hA] at this
  rw [e1, e2, ex_app _ (by omega) (by omega), ex_app _ (by omega) (by omega), ex_all]
end
end Go.Proofs.Ytieieindakbpoaa.PE
