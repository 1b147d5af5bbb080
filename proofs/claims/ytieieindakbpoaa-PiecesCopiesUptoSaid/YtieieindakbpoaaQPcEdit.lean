/- Pruned by wip/prune.py. -/
import Derived.Test.YtieieindakbpoaaQSxWhole
namespace Go.Proofs.Ytieieindakbpoaa.PE
open Go Go.Lib Go.RowKit Go.Proofs.YtieieindakbpoaaW.PrintWords Go.Proofs.Ytieieindakbpoaa.Kinds Go.Proofs.Ytieieindakbpoaa.Given Go.Proofs.Ytieieindakbpoaa.Rn Go.Proofs.Ytieieindakbpoaa.Pc
set_option linter.unusedVariables false
set_option linter.unusedSimpArgs false
abbrev Op := S48
/-- A right text, not too long. -/
def Rt (C : ByteArray) : Prop := (refV C).2 < 0 ∧ C.size ≤ 65536
theorem right_check {s : ByteArray} (h : (refV s).2 < 0) : checkV s = 0 := by rw [WH.check_ref, if_pos h]
def edT (C : ByteArray) (o : Op) : ByteArray := if o.f0 = true then ED.delT C o.f1 o.f2 else ED.insT C o.f1 o.f3
theorem ed_del {C : ByteArray} {o : Op} (h : o.f0 = true) : edT C o = ED.delT C o.f1 o.f2 := if_pos h
theorem ed_ins {C : ByteArray} {o : Op} (h : ¬ o.f0 = true) : edT C o = ED.insT C o.f1 o.f3 := if_neg h
def playT (s : ByteArray) (l : List Op) : ByteArray := l.foldl edT s
theorem play_take (s : ByteArray) (l : List Op) (z : Op) (i : Nat) (h : i < l.length) : playT s (l.take (i + 1)) = edT (playT s (l.take i)) (l.getD i z) := by
  unfold playT
  rw [List.take_succ_eq_append_getElem h, List.foldl_append, List.getD_eq_getElem?_getD, List.getElem?_eq_getElem h]
  rfl
end Go.Proofs.Ytieieindakbpoaa.PE
