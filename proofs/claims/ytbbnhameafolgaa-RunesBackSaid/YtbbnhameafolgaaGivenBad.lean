/- runes.Bad, walked by hand: the first byte with which no right rune begins. -/
import Derived.Test.YtbbnhameafolgaaProg
import Derived.Below
import Derived.Deep.Draws
import Derived.Deep.AppendLies
import Derived.Maps.AppendAt
import Derived.OwnWalk
import Derived.Laws.BytesArg
import Derived.Laws.MakeOwn
import Derived.Laws.OwnMore
import Derived.Deep.OwnRows
import Derived.Tactics
import Derived.Lib.ConvBytes
import Derived.Laws.Slices
import Derived.WalkKit
import Derived.KernelRfl
import Derived.RowKit3
import Derived.Deep.LoopGhost
import Derived.Deep.QuietTactic
import Derived.BigQuiet
import Derived.WideLaws
import Derived.Deep.DeepCutAuto
import Derived.Deep.CutBlock
import Derived.Deep.RegionHeld3
import Derived.Laws.Rows
import Derived.Lib.AppendStr
import Derived.ArgAppend
import Derived.Laws.IdiomCopy
import Derived.OrdersHeld
import Derived.Laws.BitsLemmas
import Derived.RowKit
import Derived.Test.YtbbnhameafolgaaWWords
import Derived.Test.YtbbnhameafolgaaWLast
import Derived.Test.YtbbnhameafolgaaWTab
import Derived.Test.YtbbnhameafolgaaWFour
import Derived.Test.YtbbnhameafolgaaWQPut
import Derived.Test.YtbbnhameafolgaaWApart
import Derived.Test.YtbbnhameafolgaaWArr
import Derived.Test.YtbbnhameafolgaaWZeros
import Derived.Test.YtbbnhameafolgaaWFoot
import Derived.Test.YtbbnhameafolgaaWKept
import Derived.Test.YtbbnhameafolgaaWShare
import Derived.Test.YtbbnhameafolgaaWN
import Derived.Test.YtbbnhameafolgaaWFootNe
import Derived.Test.YtbbnhameafolgaaWAt
import Derived.Test.YtbbnhameafolgaaWEqStruct
import Derived.Test.YtbbnhameafolgaaWRepsOne
import Derived.Test.YtbbnhameafolgaaWInv
import Derived.Test.YtbbnhameafolgaaWInvWords
import Derived.Test.YtbbnhameafolgaaWGuard
import Derived.Test.YtbbnhameafolgaaWNEv
import Derived.Test.YtbbnhameafolgaaWMore
import Derived.Test.YtbbnhameafolgaaGivenSize
import Derived.WalkMore
import Derived.ScopeJumps
import Derived.Scope
namespace Go.Proofs.Ytbbnhameafolgaa.Given
open Go.RowKit Go.Proofs.YtbbnhameafolgaaW.PrintWords Go.Proofs.YtbbnhameafolgaaW.PrintLast Go.Proofs.YtbbnhameafolgaaW.PrintMore
attribute [local go_sem] max2_int min2_int max_two min_two max_three min_three max_four min_four
set_option linter.unusedVariables false
set_option linter.unusedSimpArgs false

def runes_Bad.f (a0 : ByteArray) : Option Int := if a0.size ≤ 1125899906842624 then some (badV a0) else none
def Jbad (a0 : ByteArray) (r : Int) (w : World) (m : Nat) (a' : Act) (w' : World) : Prop :=
  ∃ (m' : Nat) (p : Int) (u1 u2 u4 u5 u6 u7 u8 u9 u10 u11 u12 u13 u14 u15 u16 u17 : Value), a' = { tmps := #[.string a0, u1, u2, .int .i64 p, u4, u5, u6, u7, u8, u9, u10, u11, u12, u13, u14, u15, u16, u17], defers := [] } ∧ Aside0 (badGo a0 m' p = r) ∧ 0 ≤ p ∧ p ≤ (a0.size : Int) ∧ (a0.size : Int) < p + m' ∧ Drawn0 w w' ∧ m' = m
set_option maxHeartbeats 8000000 in
set_option maxRecDepth 100000 in
theorem runes_Bad.calls (a0 : ByteArray) (r : Int) (w : World) (h : runes_Bad.f a0 = some r) :
    Calls Try.prog 19 #[.string a0] w fun e w' => e = .returned (.int .i64 r) ∧ Drawn0 w w' := by
  unfold runes_Bad.f at h
  by_cases hs : a0.size ≤ 1125899906842624
  case neg => rw [if_neg hs] at h; exact absurd h (by simp)
  rw [if_pos hs] at h
  have H' := Aside0.mk (show badGo a0 (a0.size + 1) 0 = r from Option.some.inj h)
  clear h
  go_enter Try.func19, Try.ntmps19
  go_wp2
  refine wp_scope_ghost 0 (Jbad a0 r w) rfl ?_ ?_
  · intro Z hZ
    go_wp2
    go_step3
    obtain ⟨p, hp⟩ : ∃ p : Int, p = 0 := ⟨_, rfl⟩
    have hp0 : 0 ≤ p := by omega
    have hp1 : p ≤ (a0.size : Int) := by omega
    obtain ⟨m, hm⟩ : ∃ m, m = a0.size := ⟨_, rfl⟩
    have hm' : (a0.size : Int) < p + m + 1 := by omega
    rw [← hp] at H' ⊢
    rw [← hm] at H'
    clear hp hm
    by_cases z : p = (a0.size : Int)
    · obtain rfl : -1 = r := by rw [← H'.out]; simp only [badGo]; rw [if_pos z]
      have zb := beq_iff_eq.mpr z
      clear H' z
      go_wp2
      simp only [Exit.jump]
      go_ret
      exact ⟨by first | rfl | (simp; done) | (simp [*]; done), by repeat (first | exact Drawn0.refl _ | apply Drawn0.step)⟩
    · have zb : (p == (a0.size : Int)) = false := beq_eq_false_iff_ne.mpr z
      have hb := sizeV_bounds a0 p (by omega) (by omega)
      obtain ⟨v, hv⟩ : ∃ v, v = sizeV a0 p := ⟨_, rfl⟩
      rw [← hv] at hb
      have HS : Aside0 (runes_size.f a0 p = some v) := ⟨by unfold runes_size.f; rw [if_pos hs, hv]⟩
      by_cases y : v = 0
      · obtain rfl : p = r := by rw [← H'.out]; simp only [badGo]; rw [if_neg z, if_pos (by rw [← hv]; exact y)]
        have yb := beq_iff_eq.mpr y
        clear H' z hv y
        go_wp2_with (first | (go_at_call 32; (with_reducible refine (runes_size.calls a0 p v _ HS.out).mono ?_); rintro e w' ⟨rfl, ⟨nd, rfl⟩⟩))
        simp only [Exit.jump]
        go_ret
        exact ⟨by first | rfl | (simp; done) | (simp [*]; done), by repeat (first | exact Drawn0.refl _ | apply Drawn0.step)⟩
      · have yb := beq_eq_false_iff_ne.mpr y
        have H2 := Aside0.mk (show badGo a0 m (p + v) = r by rw [← H'.out]; simp only [badGo]; rw [if_neg z, if_neg (by rw [← hv]; exact y), ← hv])
        have y1 : 1 ≤ v := by omega
        clear H' z hv y
        go_wp2_with (first | (go_at_call 32; (with_reducible refine (runes_size.calls a0 p v _ HS.out).mono ?_); rintro e w' ⟨rfl, ⟨nd, rfl⟩⟩))
        go_step3
        exact ⟨rfl, hZ m _ _ ⟨m, p + v, _, _, _, _, _, _, _, _, _, _, _, _, _, _, _, _, rfl, H2, by omega, by omega, by omega, by repeat (first | exact Drawn0.refl _ | apply Drawn0.step), rfl⟩⟩
  · intro gn a' w' hJ Z hZ
    obtain ⟨m, p, hJ⟩ := hJ
    obtain ⟨u1, hJ⟩ := hJ
    obtain ⟨u2, hJ⟩ := hJ
    obtain ⟨u4, hJ⟩ := hJ
    obtain ⟨u5, hJ⟩ := hJ
    obtain ⟨u6, hJ⟩ := hJ
    obtain ⟨u7, hJ⟩ := hJ
    obtain ⟨u8, hJ⟩ := hJ
    obtain ⟨u9, hJ⟩ := hJ
    obtain ⟨u10, hJ⟩ := hJ
    obtain ⟨u11, hJ⟩ := hJ
    obtain ⟨u12, hJ⟩ := hJ
    obtain ⟨u13, hJ⟩ := hJ
    obtain ⟨u14, hJ⟩ := hJ
    obtain ⟨u15, hJ⟩ := hJ
    obtain ⟨u16, hJ⟩ := hJ
    obtain ⟨u17, hJ⟩ := hJ
    obtain ⟨ha', H', hp0, hp1, hm', ⟨mc, rfl⟩, hgn⟩ := hJ
    subst ha'
    cases m with
    | zero => omega
    | succ m =>
      by_cases z : p = (a0.size : Int)
      · obtain rfl : -1 = r := by rw [← H'.out]; simp only [badGo]; rw [if_pos z]
        have zb := beq_iff_eq.mpr z
        clear H' z
        go_wp2
        simp only [Exit.jump]
        go_ret
        exact ⟨by first | rfl | (simp; done) | (simp [*]; done), by repeat (first | exact Drawn0.refl _ | apply Drawn0.step)⟩
      · have zb : (p == (a0.size : Int)) = false := beq_eq_false_iff_ne.mpr z
        have hb := sizeV_bounds a0 p (by omega) (by omega)
        obtain ⟨v, hv⟩ : ∃ v, v = sizeV a0 p := ⟨_, rfl⟩
        rw [← hv] at hb
        have HS : Aside0 (runes_size.f a0 p = some v) := ⟨by unfold runes_size.f; rw [if_pos hs, hv]⟩
        by_cases y : v = 0
        · obtain rfl : p = r := by rw [← H'.out]; simp only [badGo]; rw [if_neg z, if_pos (by rw [← hv]; exact y)]
          have yb := beq_iff_eq.mpr y
          clear H' z hv y
          go_wp2_with (first | (go_at_call 32; (with_reducible refine (runes_size.calls a0 p v _ HS.out).mono ?_); rintro e w' ⟨rfl, ⟨nd, rfl⟩⟩))
          simp only [Exit.jump]
          go_ret
          exact ⟨by first | rfl | (simp; done) | (simp [*]; done), by repeat (first | exact Drawn0.refl _ | apply Drawn0.step)⟩
        · have yb := beq_eq_false_iff_ne.mpr y
          have H2 := Aside0.mk (show badGo a0 m (p + v) = r by rw [← H'.out]; simp only [badGo]; rw [if_neg z, if_neg (by rw [← hv]; exact y), ← hv])
          have y1 : 1 ≤ v := by omega
          clear H' z hv y
          go_wp2_with (first | (go_at_call 32; (with_reducible refine (runes_size.calls a0 p v _ HS.out).mono ?_); rintro e w' ⟨rfl, ⟨nd, rfl⟩⟩))
          go_step3
          exact ⟨rfl, hZ m _ _ (by omega) ⟨m, p + v, _, _, _, _, _, _, _, _, _, _, _, _, _, _, _, _, rfl, H2, by omega, by omega, by omega, by repeat (first | exact Drawn0.refl _ | apply Drawn0.step), rfl⟩⟩
end Go.Proofs.Ytbbnhameafolgaa.Given
