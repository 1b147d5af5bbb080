/- runes.Kind, runes.Inside, runes.boolInt: walked by hand. -/
import Derived.Test.YtbbnhameafolgaaProg
import Derived.Below
import Derived.Deep.Draws
import Derived.Deep.AppendLies
import Derived.Maps.AppendAt
import Derived.OwnWalk
import Derived.Laws.BytesArg
import Derived.Laws.MakeOwn
import Derived.Laws.OwnMore
import Derived.Deep.OwnRows
import Derived.Tactics
import Derived.Lib.ConvBytes
import Derived.Laws.Slices
import Derived.WalkKit
import Derived.KernelRfl
import Derived.RowKit3
import Derived.Deep.LoopGhost
import Derived.Deep.QuietTactic
import Derived.BigQuiet
import Derived.WideLaws
import Derived.Deep.DeepCutAuto
import Derived.Deep.CutBlock
import Derived.Deep.RegionHeld3
import Derived.Laws.Rows
import Derived.Lib.AppendStr
import Derived.ArgAppend
import Derived.Laws.IdiomCopy
import Derived.OrdersHeld
import Derived.Laws.BitsLemmas
import Derived.RowKit
import Derived.Test.YtbbnhameafolgaaWWords
import Derived.Test.YtbbnhameafolgaaWLast
import Derived.Test.YtbbnhameafolgaaWTab
import Derived.Test.YtbbnhameafolgaaWFour
import Derived.Test.YtbbnhameafolgaaWQPut
import Derived.Test.YtbbnhameafolgaaWApart
import Derived.Test.YtbbnhameafolgaaWArr
import Derived.Test.YtbbnhameafolgaaWZeros
import Derived.Test.YtbbnhameafolgaaWFoot
import Derived.Test.YtbbnhameafolgaaWKept
import Derived.Test.YtbbnhameafolgaaWShare
import Derived.Test.YtbbnhameafolgaaWN
import Derived.Test.YtbbnhameafolgaaWFootNe
import Derived.Test.YtbbnhameafolgaaWAt
import Derived.Test.YtbbnhameafolgaaWEqStruct
import Derived.Test.YtbbnhameafolgaaWRepsOne
import Derived.Test.YtbbnhameafolgaaWInv
import Derived.Test.YtbbnhameafolgaaWInvWords
import Derived.Test.YtbbnhameafolgaaWGuard
import Derived.Test.YtbbnhameafolgaaWNEv
import Derived.Test.YtbbnhameafolgaaWMore
import Derived.WalkMore
namespace Go.Proofs.Ytbbnhameafolgaa.Given
open Go.RowKit Go.Proofs.YtbbnhameafolgaaW.PrintWords Go.Proofs.YtbbnhameafolgaaW.PrintLast Go.Proofs.YtbbnhameafolgaaW.PrintMore
attribute [local go_sem] max2_int min2_int max_two min_two max_three min_three max_four min_four
set_option linter.unusedVariables false
set_option linter.unusedSimpArgs false

def kindV (r : Int) : Int :=
  if r = 32 then 1 else if r = 9 then 1 else if r = 160 then 2 else if r = 8239 then 2 else if r = 173 then 3 else if r = 8203 then 4
  else if r = 8288 then 5 else if r = 65279 then 5 else if r = 45 then 6 else if r = 8208 then 6 else if r = 8232 then 7 else if r = 10 then 8 else 0
def runes_Kind.f (a0 : Int) : Option Int := some (kindV a0)
set_option maxHeartbeats 8000000 in
set_option maxRecDepth 100000 in
theorem runes_Kind.calls (a0 : Int) (r : Int) (w : World) (h : runes_Kind.f a0 = some r) :
    Calls Try.prog 13 #[.int .i32 a0] w fun e w' => e = .returned (.int .i64 r) ∧ Drawn0 w w' := by
  have h1 : kindV a0 = r := Option.some.inj h
  clear h
  unfold kindV at h1
  go_enter Try.func13, Try.ntmps13
  by_cases c0 : a0 = 32
  · rw [if_pos c0] at h1
    subst c0
    subst h1
    go_wp2
    go_ret
    exact ⟨by first | rfl | (simp; done) | (simp [*]; done), by repeat (first | exact Drawn0.refl _ | apply Drawn0.step)⟩
  rw [if_neg c0] at h1
  replace c0 : (a0 == 32) = false := beq_eq_false_iff_ne.mpr c0
  by_cases c1 : a0 = 9
  · rw [if_pos c1] at h1
    subst c1
    subst h1
    go_wp2
    go_ret
    exact ⟨by first | rfl | (simp; done) | (simp [*]; done), by repeat (first | exact Drawn0.refl _ | apply Drawn0.step)⟩
  rw [if_neg c1] at h1
  replace c1 : (a0 == 9) = false := beq_eq_false_iff_ne.mpr c1
  by_cases c2 : a0 = 160
  · rw [if_pos c2] at h1
    subst c2
    subst h1
    go_wp2
    go_ret
    exact ⟨by first | rfl | (simp; done) | (simp [*]; done), by repeat (first | exact Drawn0.refl _ | apply Drawn0.step)⟩
  rw [if_neg c2] at h1
  replace c2 : (a0 == 160) = false := beq_eq_false_iff_ne.mpr c2
  by_cases c3 : a0 = 8239
  · rw [if_pos c3] at h1
    subst c3
    subst h1
    go_wp2
    go_ret
    exact ⟨by first | rfl | (simp; done) | (simp [*]; done), by repeat (first | exact Drawn0.refl _ | apply Drawn0.step)⟩
  rw [if_neg c3] at h1
  replace c3 : (a0 == 8239) = false := beq_eq_false_iff_ne.mpr c3
  by_cases c4 : a0 = 173
  · rw [if_pos c4] at h1
    subst c4
    subst h1
    go_wp2
    go_ret
    exact ⟨by first | rfl | (simp; done) | (simp [*]; done), by repeat (first | exact Drawn0.refl _ | apply Drawn0.step)⟩
  rw [if_neg c4] at h1
  replace c4 : (a0 == 173) = false := beq_eq_false_iff_ne.mpr c4
  by_cases c5 : a0 = 8203
  · rw [if_pos c5] at h1
    subst c5
    subst h1
    go_wp2
    go_ret
    exact ⟨by first | rfl | (simp; done) | (simp [*]; done), by repeat (first | exact Drawn0.refl _ | apply Drawn0.step)⟩
  rw [if_neg c5] at h1
  replace c5 : (a0 == 8203) = false := beq_eq_false_iff_ne.mpr c5
  by_cases c6 : a0 = 8288
  · rw [if_pos c6] at h1
    subst c6
    subst h1
    go_wp2
    go_ret
    exact ⟨by first | rfl | (simp; done) | (simp [*]; done), by repeat (first | exact Drawn0.refl _ | apply Drawn0.step)⟩
  rw [if_neg c6] at h1
  replace c6 : (a0 == 8288) = false := beq_eq_false_iff_ne.mpr c6
  by_cases c7 : a0 = 65279
  · rw [if_pos c7] at h1
    subst c7
    subst h1
    go_wp2
    go_ret
    exact ⟨by first | rfl | (simp; done) | (simp [*]; done), by repeat (first | exact Drawn0.refl _ | apply Drawn0.step)⟩
  rw [if_neg c7] at h1
  replace c7 : (a0 == 65279) = false := beq_eq_false_iff_ne.mpr c7
  by_cases c8 : a0 = 45
  · rw [if_pos c8] at h1
    subst c8
    subst h1
    go_wp2
    go_ret
    exact ⟨by first | rfl | (simp; done) | (simp [*]; done), by repeat (first | exact Drawn0.refl _ | apply Drawn0.step)⟩
  rw [if_neg c8] at h1
  replace c8 : (a0 == 45) = false := beq_eq_false_iff_ne.mpr c8
  by_cases c9 : a0 = 8208
  · rw [if_pos c9] at h1
    subst c9
    subst h1
    go_wp2
    go_ret
    exact ⟨by first | rfl | (simp; done) | (simp [*]; done), by repeat (first | exact Drawn0.refl _ | apply Drawn0.step)⟩
  rw [if_neg c9] at h1
  replace c9 : (a0 == 8208) = false := beq_eq_false_iff_ne.mpr c9
  by_cases c10 : a0 = 8232
  · rw [if_pos c10] at h1
    subst c10
    subst h1
    go_wp2
    go_ret
    exact ⟨by first | rfl | (simp; done) | (simp [*]; done), by repeat (first | exact Drawn0.refl _ | apply Drawn0.step)⟩
  rw [if_neg c10] at h1
  replace c10 : (a0 == 8232) = false := beq_eq_false_iff_ne.mpr c10
  by_cases c11 : a0 = 10
  · rw [if_pos c11] at h1
    subst c11
    subst h1
    go_wp2
    go_ret
    exact ⟨by first | rfl | (simp; done) | (simp [*]; done), by repeat (first | exact Drawn0.refl _ | apply Drawn0.step)⟩
  rw [if_neg c11] at h1
  replace c11 : (a0 == 10) = false := beq_eq_false_iff_ne.mpr c11
  subst h1
  go_wp2
  go_ret
  exact ⟨by first | rfl | (simp; done) | (simp [*]; done), by repeat (first | exact Drawn0.refl _ | apply Drawn0.step)⟩
def runes_boolInt.f (a0 : Bool) : Option Int := some (if a0 = true then 1 else 0)
set_option maxHeartbeats 8000000 in
set_option maxRecDepth 100000 in
theorem runes_boolInt.calls (a0 : Bool) (r : Int) (w : World) (h : runes_boolInt.f a0 = some r) :
    Calls Try.prog 33 #[.bool a0] w fun e w' => e = .returned (.int .i64 r) ∧ Drawn0 w w' := by
  have h1 : (if a0 = true then 1 else 0) = r := Option.some.inj h
  clear h
  cases a0 with
  | true =>
    subst h1
    go_enter Try.func33, Try.ntmps33
    go_wp2
    go_ret
    exact ⟨by first | rfl | (simp; done) | (simp [*]; done), by repeat (first | exact Drawn0.refl _ | apply Drawn0.step)⟩
  | false =>
    subst h1
    go_enter Try.func33, Try.ntmps33
    go_wp2
    go_ret
    exact ⟨by first | rfl | (simp; done) | (simp [*]; done), by repeat (first | exact Drawn0.refl _ | apply Drawn0.step)⟩
end Go.Proofs.Ytbbnhameafolgaa.Given
