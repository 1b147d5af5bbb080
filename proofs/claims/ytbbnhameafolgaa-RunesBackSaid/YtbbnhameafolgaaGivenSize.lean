/- runes.size, walked by hand: how many bytes the rune at a place has. -/
import Derived.Test.YtbbnhameafolgaaProg
import Derived.Below
import Derived.Deep.Draws
import Derived.Deep.AppendLies
import Derived.Maps.AppendAt
import Derived.OwnWalk
import Derived.Laws.BytesArg
import Derived.Laws.MakeOwn
import Derived.Laws.OwnMore
import Derived.Deep.OwnRows
import Derived.Tactics
import Derived.Lib.ConvBytes
import Derived.Laws.Slices
import Derived.WalkKit
import Derived.KernelRfl
import Derived.RowKit3
import Derived.Deep.LoopGhost
import Derived.Deep.QuietTactic
import Derived.BigQuiet
import Derived.WideLaws
import Derived.Deep.DeepCutAuto
import Derived.Deep.CutBlock
import Derived.Deep.RegionHeld3
import Derived.Laws.Rows
import Derived.Lib.AppendStr
import Derived.ArgAppend
import Derived.Laws.IdiomCopy
import Derived.OrdersHeld
import Derived.Laws.BitsLemmas
import Derived.RowKit
import Derived.Test.YtbbnhameafolgaaWWords
import Derived.Test.YtbbnhameafolgaaWLast
import Derived.Test.YtbbnhameafolgaaWTab
import Derived.Test.YtbbnhameafolgaaWFour
import Derived.Test.YtbbnhameafolgaaWQPut
import Derived.Test.YtbbnhameafolgaaWApart
import Derived.Test.YtbbnhameafolgaaWArr
import Derived.Test.YtbbnhameafolgaaWZeros
import Derived.Test.YtbbnhameafolgaaWFoot
import Derived.Test.YtbbnhameafolgaaWKept
import Derived.Test.YtbbnhameafolgaaWShare
import Derived.Test.YtbbnhameafolgaaWN
import Derived.Test.YtbbnhameafolgaaWFootNe
import Derived.Test.YtbbnhameafolgaaWAt
import Derived.Test.YtbbnhameafolgaaWEqStruct
import Derived.Test.YtbbnhameafolgaaWRepsOne
import Derived.Test.YtbbnhameafolgaaWInv
import Derived.Test.YtbbnhameafolgaaWInvWords
import Derived.Test.YtbbnhameafolgaaWGuard
import Derived.Test.YtbbnhameafolgaaWNEv
import Derived.Test.YtbbnhameafolgaaWMore
import Derived.Test.YtbbnhameafolgaaRunesV
import Derived.WalkMore
import Derived.ScopeJumps
import Derived.Scope
namespace Go.Proofs.Ytbbnhameafolgaa.Given
open Go.RowKit Go.Proofs.YtbbnhameafolgaaW.PrintWords Go.Proofs.YtbbnhameafolgaaW.PrintLast Go.Proofs.YtbbnhameafolgaaW.PrintMore
attribute [local go_sem] max2_int min2_int max_two min_two max_three min_three max_four min_four
set_option linter.unusedVariables false
set_option linter.unusedSimpArgs false

def runes_size.f (a0 : ByteArray) (a1 : Int) : Option Int := if a0.size ≤ 1125899906842624 then some (sizeV a0 a1) else none
def Jsz (a0 : ByteArray) (a1 r : Int) (w : World) (m : Nat) (a' : Act) (w' : World) : Prop :=
  ∃ (nd lo hi n : Int) (u2 u3 u4 u8 u10 u11 u12 u13 u14 u15 u16 u17 u18 u19 u20 u21 u22 u23 u24 u25 u26 u27 u28 u29 u30 u31 u32 u33 u34 u35 u36 u37 u38 u39 u40 u41 u42 u43 u44 u45 u46 u47 u48 u49 u50 u51 u52 u53 u54 u55 u56 u57 u58 u59 u60 u61 u62 u63 u64 u65 u66 u67 u68 u69 u70 u71 u72 u73 : Value), a' = { tmps := #[.string a0, .int .i64 a1, u2, u3, u4, .int .i64 nd, .int .u8 lo, .int .u8 hi, u8, .int .i64 n, u10, u11, u12, u13, u14, u15, u16, u17, u18, u19, u20, u21, u22, u23, u24, u25, u26, u27, u28, u29, u30, u31, u32, u33, u34, u35, u36, u37, u38, u39, u40, u41, u42, u43, u44, u45, u46, u47, u48, u49, u50, u51, u52, u53, u54, u55, u56, u57, u58, u59, u60, u61, u62, u63, u64, u65, u66, u67, u68, u69, u70, u71, u72, u73], defers := [] } ∧ Aside0 (sizeGo a0 a1 nd.toNat n lo hi = r) ∧ 0 ≤ a1 ∧ 0 ≤ nd ∧ nd ≤ 3 ∧ a1 < n ∧ n ≤ (a0.size : Int) ∧ Drawn0 w w' ∧ nd.toNat = m
theorem least {p : Nat → Prop} (n : Nat) (h : p n) : ∃ m, p m ∧ ∀ k, p k → m ≤ k := by
  induction n using Nat.strongRecOn with
  | _ n ih =>
    by_cases e : ∃ k, k < n ∧ p k
    · obtain ⟨k, hk, hp⟩ := e
      exact ih k hk hp
    · exact ⟨n, h, fun k hp => Nat.le_of_not_lt fun hk => e ⟨k, hk, hp⟩⟩
theorem wp_scope_ghost {P : Program} {a : Act} {w : World} {Q : Exit → Act → World → Prop} {c rest : Code} (l : Nat) (J : Nat → Act → World → Prop) (hf : findLabel c l = some rest)
    (first : ∀ Z : Act → World → Prop, (∀ n a' w', J n a' w' → Z a' w') → c.wp P (Exit.jump l Z Q) a w)
    (pass : ∀ n a w, J n a w → ∀ Z : Act → World → Prop, (∀ m a' w', m < n → J m a' w' → Z a' w') → rest.wp P (Exit.jump l Z Q) a w) : (Code.scope c).wp P Q a w := by
  classical
  let μ : Act → World → Nat := fun a w => if h : ∃ n, J n a w then (least (p := fun n => J n a w) h.choose h.choose_spec).choose else 0
  have hμ : ∀ n a w, J n a w → J (μ a w) a w ∧ μ a w ≤ n := fun n a w hJ => by
    have h : ∃ n, J n a w := ⟨n, hJ⟩
    have e : μ a w = (least (p := fun n => J n a w) h.choose h.choose_spec).choose := dif_pos h
    rw [e]
    exact ⟨(least (p := fun n => J n a w) h.choose h.choose_spec).choose_spec.1, (least (p := fun n => J n a w) h.choose h.choose_spec).choose_spec.2 n hJ⟩
  refine wp_scope_jumps l (fun a w => ∃ n, J n a w) μ hf (first _ fun n a' w' h => ⟨n, h⟩) ?_
  rintro a w ⟨n, hJ⟩
  exact pass (μ a w) a w (hμ n a w hJ).1 _ fun m a' w' hm h => ⟨⟨m, h⟩, Nat.lt_of_le_of_lt (hμ m a' w' h).2 hm⟩
set_option maxHeartbeats 8000000 in
set_option maxRecDepth 100000 in
theorem runes_size.calls (a0 : ByteArray) (a1 : Int) (r : Int) (w : World) (h : runes_size.f a0 a1 = some r) :
    Calls Try.prog 32 #[.string a0, .int .i64 a1] w fun e w' => e = .returned (.int .i64 r) ∧ Drawn0 w w' := by
  unfold runes_size.f at h
  by_cases hs : a0.size ≤ 1125899906842624
  case neg => rw [if_neg hs] at h; exact absurd h (by simp)
  rw [if_pos hs] at h
  have H := Aside0.mk (Option.some.inj h)
  clear h
  go_enter Try.func32, Try.ntmps32
  go_wp2
  refine wp_scope_ghost 0 (Jsz a0 a1 r w) rfl ?_ ?_
  · intro Z hZ
    by_cases h1 : a1 < 0
    · obtain rfl : 0 = r := by rw [← H.out]; unfold sizeV; rw [if_pos h1]
      clear H
      go_wp2
      simp only [Exit.jump]
      go_ret
      exact ⟨by first | rfl | (simp; done) | (simp [*]; done), by repeat (first | exact Drawn0.refl _ | apply Drawn0.step)⟩
    · by_cases h2 : (a0.size : Int) ≤ a1
      · obtain rfl : 0 = r := by rw [← H.out]; unfold sizeV; rw [if_neg h1, if_pos h2]
        clear H
        go_wp2
        simp only [Exit.jump]
        go_ret
        exact ⟨by first | rfl | (simp; done) | (simp [*]; done), by repeat (first | exact Drawn0.refl _ | apply Drawn0.step)⟩
      · have hx8 := bt_at a0 a1
        have p0 : 0 ≤ a1 := by omega
        have q0 : a1 < (a0.size : Int) := by omega
        have p8 := eq_true p0
        have q8 := eq_true q0
        go_upto_block 0 with (fail)
        go_cut [5, 6, 7] (fun v5 v6 v7 wc => ∃ (nd lo hi : Int), v5 = .int .i64 nd ∧ v6 = .int .u8 lo ∧ v7 = .int .u8 hi ∧ Aside0 (sizeGo a0 a1 nd.toNat (a1 + 1) lo hi = r) ∧ 0 ≤ nd ∧ nd ≤ 3 ∧ Drawn0 w wc)
        case first =>
          by_cases c1 : bt a0 a1 < 128
          · obtain rfl : 1 = r := by rw [← H.out]; unfold sizeV; rw [if_neg h1, if_neg h2, if_pos c1]
            clear H
            go_wp2
            simp only [Exit.jump]
            go_ret
            exact ⟨by first | rfl | (simp; done) | (simp [*]; done), by repeat (first | exact Drawn0.refl _ | apply Drawn0.step)⟩
          by_cases c2 : bt a0 a1 < 194
          · obtain rfl : 0 = r := by rw [← H.out]; unfold sizeV; rw [if_neg h1, if_neg h2, if_neg c1, if_pos c2]
            clear H
            go_wp2
            simp only [Exit.jump]
            go_ret
            exact ⟨by first | rfl | (simp; done) | (simp [*]; done), by repeat (first | exact Drawn0.refl _ | apply Drawn0.step)⟩
          by_cases c3 : 244 < bt a0 a1
          · obtain rfl : 0 = r := by rw [← H.out]; unfold sizeV; rw [if_neg h1, if_neg h2, if_neg c1, if_neg c2, if_pos c3]
            clear H
            go_wp2
            simp only [Exit.jump]
            go_ret
            exact ⟨by first | rfl | (simp; done) | (simp [*]; done), by repeat (first | exact Drawn0.refl _ | apply Drawn0.step)⟩
          by_cases c4 : bt a0 a1 < 224
          · have H' := Aside0.mk (show sizeGo a0 a1 1 (a1 + 1) 128 191 = r by rw [← H.out]; unfold sizeV; rw [if_neg h1, if_neg h2, if_neg c1, if_neg c2, if_neg c3, if_pos c4])
            clear H 
            go_wp2
            go_meet
            case rel => exact ⟨1, 128, 191, rfl, rfl, rfl, H', by omega, by omega, by repeat (first | exact Drawn0.refl _ | apply Drawn0.step)⟩
          by_cases c5 : bt a0 a1 < 240
          · by_cases c6 : bt a0 a1 = 224
            · have c6b := beq_iff_eq.mpr c6
              have c7b : (bt a0 a1 == 237) = false := beq_eq_false_iff_ne.mpr (by omega)
              · have H' := Aside0.mk (show sizeGo a0 a1 2 (a1 + 1) 160 191 = r by rw [← H.out]; unfold sizeV; rw [if_neg h1, if_neg h2, if_neg c1, if_neg c2, if_neg c3, if_neg c4, if_pos c5, if_pos c6, if_neg (by omega)])
                clear H c6
                go_wp2
                go_meet
                case rel => exact ⟨2, 160, 191, rfl, rfl, rfl, H', by omega, by omega, by repeat (first | exact Drawn0.refl _ | apply Drawn0.step)⟩
            · have c6b := beq_eq_false_iff_ne.mpr c6
              by_cases c7 : bt a0 a1 = 237
              · have c7b := beq_iff_eq.mpr c7
                · have H' := Aside0.mk (show sizeGo a0 a1 2 (a1 + 1) 128 159 = r by rw [← H.out]; unfold sizeV; rw [if_neg h1, if_neg h2, if_neg c1, if_neg c2, if_neg c3, if_neg c4, if_pos c5, if_neg c6, if_pos c7])
                  clear H c7
                  go_wp2
                  go_meet
                  case rel => exact ⟨2, 128, 159, rfl, rfl, rfl, H', by omega, by omega, by repeat (first | exact Drawn0.refl _ | apply Drawn0.step)⟩
              · have c7b := beq_eq_false_iff_ne.mpr c7
                · have H' := Aside0.mk (show sizeGo a0 a1 2 (a1 + 1) 128 191 = r by rw [← H.out]; unfold sizeV; rw [if_neg h1, if_neg h2, if_neg c1, if_neg c2, if_neg c3, if_neg c4, if_pos c5, if_neg c6, if_neg c7])
                  clear H 
                  go_wp2
                  go_meet
                  case rel => exact ⟨2, 128, 191, rfl, rfl, rfl, H', by omega, by omega, by repeat (first | exact Drawn0.refl _ | apply Drawn0.step)⟩
          · by_cases c6 : bt a0 a1 = 240
            · have c6b := beq_iff_eq.mpr c6
              have c7b : (bt a0 a1 == 244) = false := beq_eq_false_iff_ne.mpr (by omega)
              · have H' := Aside0.mk (show sizeGo a0 a1 3 (a1 + 1) 144 191 = r by rw [← H.out]; unfold sizeV; rw [if_neg h1, if_neg h2, if_neg c1, if_neg c2, if_neg c3, if_neg c4, if_neg c5, if_pos c6, if_neg (by omega)])
                clear H c6
                go_wp2
                go_meet
                case rel => exact ⟨3, 144, 191, rfl, rfl, rfl, H', by omega, by omega, by repeat (first | exact Drawn0.refl _ | apply Drawn0.step)⟩
            · have c6b := beq_eq_false_iff_ne.mpr c6
              by_cases c7 : bt a0 a1 = 244
              · have c7b := beq_iff_eq.mpr c7
                · have H' := Aside0.mk (show sizeGo a0 a1 3 (a1 + 1) 128 143 = r by rw [← H.out]; unfold sizeV; rw [if_neg h1, if_neg h2, if_neg c1, if_neg c2, if_neg c3, if_neg c4, if_neg c5, if_neg c6, if_pos c7])
                  clear H c7
                  go_wp2
                  go_meet
                  case rel => exact ⟨3, 128, 143, rfl, rfl, rfl, H', by omega, by omega, by repeat (first | exact Drawn0.refl _ | apply Drawn0.step)⟩
              · have c7b := beq_eq_false_iff_ne.mpr c7
                · have H' := Aside0.mk (show sizeGo a0 a1 3 (a1 + 1) 128 191 = r by rw [← H.out]; unfold sizeV; rw [if_neg h1, if_neg h2, if_neg c1, if_neg c2, if_neg c3, if_neg c4, if_neg c5, if_neg c6, if_neg c7])
                  clear H 
                  go_wp2
                  go_meet
                  case rel => exact ⟨3, 128, 191, rfl, rfl, rfl, H', by omega, by omega, by repeat (first | exact Drawn0.refl _ | apply Drawn0.step)⟩
        case rest =>
          obtain ⟨nd, lo, hi, rfl, rfl, rfl, H', hnd0, hnd, ⟨mc, rfl⟩⟩ := hcut
          go_wp2
          go_step3
          obtain ⟨n, hn1⟩ : ∃ n, n = a1 + 1 := ⟨_, rfl⟩
          have hn2 : a1 < n := by omega
          have hn3 : n ≤ (a0.size : Int) := by omega
          rw [← hn1] at H' ⊢
          clear hn1

          by_cases z : nd = 0
          · obtain rfl : n - a1 = r := by rw [← H'.out, z]; rfl
            subst z
            clear H'
            go_wp2
            simp only [Exit.jump]
            go_ret
            exact ⟨by first | rfl | (simp; done) | (simp [*]; done), by repeat (first | exact Drawn0.refl _ | apply Drawn0.step)⟩
          · have z0 : (nd == 0) = false := beq_eq_false_iff_ne.mpr z
            have zs : nd.toNat = (nd - 1).toNat + 1 := by omega
            have z1 : 1 ≤ nd := by omega
            have H2 : (if cont a0 n lo hi = true then sizeGo a0 a1 (nd - 1).toNat (n + 1) 128 191 else 0) = r := by rw [← H'.out, zs]; rfl
            clear zs H' z
            by_cases e1 : n < (a0.size : Int)
            · have hx9 := bt_at a0 n
              have p9 : 0 ≤ n := by omega
              have p9 := eq_true p9
              have q9 := eq_true e1
              by_cases e2 : bt a0 n < lo
              · obtain rfl : 0 = r := by rw [← H2, if_neg]; unfold cont; simp; omega
                clear H2
                go_wp2
                simp only [Exit.jump]
                go_ret
                exact ⟨by first | rfl | (simp; done) | (simp [*]; done), by repeat (first | exact Drawn0.refl _ | apply Drawn0.step)⟩
              · by_cases e3 : hi < bt a0 n
                · obtain rfl : 0 = r := by rw [← H2, if_neg]; unfold cont; simp; omega
                  clear H2
                  go_wp2
                  simp only [Exit.jump]
                  go_ret
                  exact ⟨by first | rfl | (simp; done) | (simp [*]; done), by repeat (first | exact Drawn0.refl _ | apply Drawn0.step)⟩
                · have H3 := Aside0.mk (show sizeGo a0 a1 (nd - 1).toNat (n + 1) 128 191 = r by rw [← H2, if_pos]; unfold cont; simp; omega)
                  clear H2
                  go_wp2
                  go_step3
                  exact ⟨rfl, hZ (nd - 1).toNat _ _ ⟨nd - 1, 128, 191, n + 1, _, _, _, _, _, _, _, _, _, _, _, _, _, _, _, _, _, _, _, _, _, _, _, _, _, _, _, _, _, _, _, _, _, _, _, _, _, _, _, _, _, _, _, _, _, _, _, _, _, _, _, _, _, _, _, _, _, _, _, _, _, _, _, _, _, _, _, _, rfl, H3, by omega, by omega, by omega, by omega, by omega, by repeat (first | exact Drawn0.refl _ | apply Drawn0.step), rfl⟩⟩
            · obtain rfl : 0 = r := by rw [← H2, if_neg]; unfold cont; simp; omega
              clear H2
              go_wp2
              simp only [Exit.jump]
              go_ret
              exact ⟨by first | rfl | (simp; done) | (simp [*]; done), by repeat (first | exact Drawn0.refl _ | apply Drawn0.step)⟩

  · intro gn a' w' hJ Z hZ
    obtain ⟨nd, lo, hi, n, hJ⟩ := hJ
    obtain ⟨u2, hJ⟩ := hJ
    obtain ⟨u3, hJ⟩ := hJ
    obtain ⟨u4, hJ⟩ := hJ
    obtain ⟨u8, hJ⟩ := hJ
    obtain ⟨u10, hJ⟩ := hJ
    obtain ⟨u11, hJ⟩ := hJ
    obtain ⟨u12, hJ⟩ := hJ
    obtain ⟨u13, hJ⟩ := hJ
    obtain ⟨u14, hJ⟩ := hJ
    obtain ⟨u15, hJ⟩ := hJ
    obtain ⟨u16, hJ⟩ := hJ
    obtain ⟨u17, hJ⟩ := hJ
    obtain ⟨u18, hJ⟩ := hJ
    obtain ⟨u19, hJ⟩ := hJ
    obtain ⟨u20, hJ⟩ := hJ
    obtain ⟨u21, hJ⟩ := hJ
    obtain ⟨u22, hJ⟩ := hJ
    obtain ⟨u23, hJ⟩ := hJ
    obtain ⟨u24, hJ⟩ := hJ
    obtain ⟨u25, hJ⟩ := hJ
    obtain ⟨u26, hJ⟩ := hJ
    obtain ⟨u27, hJ⟩ := hJ
    obtain ⟨u28, hJ⟩ := hJ
    obtain ⟨u29, hJ⟩ := hJ
    obtain ⟨u30, hJ⟩ := hJ
    obtain ⟨u31, hJ⟩ := hJ
    obtain ⟨u32, hJ⟩ := hJ
    obtain ⟨u33, hJ⟩ := hJ
    obtain ⟨u34, hJ⟩ := hJ
    obtain ⟨u35, hJ⟩ := hJ
    obtain ⟨u36, hJ⟩ := hJ
    obtain ⟨u37, hJ⟩ := hJ
    obtain ⟨u38, hJ⟩ := hJ
    obtain ⟨u39, hJ⟩ := hJ
    obtain ⟨u40, hJ⟩ := hJ
    obtain ⟨u41, hJ⟩ := hJ
    obtain ⟨u42, hJ⟩ := hJ
    obtain ⟨u43, hJ⟩ := hJ
    obtain ⟨u44, hJ⟩ := hJ
    obtain ⟨u45, hJ⟩ := hJ
    obtain ⟨u46, hJ⟩ := hJ
    obtain ⟨u47, hJ⟩ := hJ
    obtain ⟨u48, hJ⟩ := hJ
    obtain ⟨u49, hJ⟩ := hJ
    obtain ⟨u50, hJ⟩ := hJ
    obtain ⟨u51, hJ⟩ := hJ
    obtain ⟨u52, hJ⟩ := hJ
    obtain ⟨u53, hJ⟩ := hJ
    obtain ⟨u54, hJ⟩ := hJ
    obtain ⟨u55, hJ⟩ := hJ
    obtain ⟨u56, hJ⟩ := hJ
    obtain ⟨u57, hJ⟩ := hJ
    obtain ⟨u58, hJ⟩ := hJ
    obtain ⟨u59, hJ⟩ := hJ
    obtain ⟨u60, hJ⟩ := hJ
    obtain ⟨u61, hJ⟩ := hJ
    obtain ⟨u62, hJ⟩ := hJ
    obtain ⟨u63, hJ⟩ := hJ
    obtain ⟨u64, hJ⟩ := hJ
    obtain ⟨u65, hJ⟩ := hJ
    obtain ⟨u66, hJ⟩ := hJ
    obtain ⟨u67, hJ⟩ := hJ
    obtain ⟨u68, hJ⟩ := hJ
    obtain ⟨u69, hJ⟩ := hJ
    obtain ⟨u70, hJ⟩ := hJ
    obtain ⟨u71, hJ⟩ := hJ
    obtain ⟨u72, hJ⟩ := hJ
    obtain ⟨u73, hJ⟩ := hJ
    obtain ⟨ha', H', ha1, hnd0, hnd, hn2, hn3, ⟨mc, rfl⟩, hgn⟩ := hJ
    subst ha'

    by_cases z : nd = 0
    · obtain rfl : n - a1 = r := by rw [← H'.out, z]; rfl
      subst z
      clear H'
      go_wp2
      simp only [Exit.jump]
      go_ret
      exact ⟨by first | rfl | (simp; done) | (simp [*]; done), by repeat (first | exact Drawn0.refl _ | apply Drawn0.step)⟩
    · have z0 : (nd == 0) = false := beq_eq_false_iff_ne.mpr z
      have zs : nd.toNat = (nd - 1).toNat + 1 := by omega
      have z1 : 1 ≤ nd := by omega
      have H2 : (if cont a0 n lo hi = true then sizeGo a0 a1 (nd - 1).toNat (n + 1) 128 191 else 0) = r := by rw [← H'.out, zs]; rfl
      clear zs H' z
      by_cases e1 : n < (a0.size : Int)
      · have hx9 := bt_at a0 n
        have p9 : 0 ≤ n := by omega
        have p9 := eq_true p9
        have q9 := eq_true e1
        by_cases e2 : bt a0 n < lo
        · obtain rfl : 0 = r := by rw [← H2, if_neg]; unfold cont; simp; omega
          clear H2
          go_wp2
          simp only [Exit.jump]
          go_ret
          exact ⟨by first | rfl | (simp; done) | (simp [*]; done), by repeat (first | exact Drawn0.refl _ | apply Drawn0.step)⟩
        · by_cases e3 : hi < bt a0 n
          · obtain rfl : 0 = r := by rw [← H2, if_neg]; unfold cont; simp; omega
            clear H2
            go_wp2
            simp only [Exit.jump]
            go_ret
            exact ⟨by first | rfl | (simp; done) | (simp [*]; done), by repeat (first | exact Drawn0.refl _ | apply Drawn0.step)⟩
          · have H3 := Aside0.mk (show sizeGo a0 a1 (nd - 1).toNat (n + 1) 128 191 = r by rw [← H2, if_pos]; unfold cont; simp; omega)
            clear H2
            go_wp2
            go_step3
            exact ⟨rfl, hZ (nd - 1).toNat _ _ (by omega) ⟨nd - 1, 128, 191, n + 1, _, _, _, _, _, _, _, _, _, _, _, _, _, _, _, _, _, _, _, _, _, _, _, _, _, _, _, _, _, _, _, _, _, _, _, _, _, _, _, _, _, _, _, _, _, _, _, _, _, _, _, _, _, _, _, _, _, _, _, _, _, _, _, _, _, _, _, _, rfl, H3, by omega, by omega, by omega, by omega, by omega, by repeat (first | exact Drawn0.refl _ | apply Drawn0.step), rfl⟩⟩
      · obtain rfl : 0 = r := by rw [← H2, if_neg]; unfold cont; simp; omega
        clear H2
        go_wp2
        simp only [Exit.jump]
        go_ret
        exact ⟨by first | rfl | (simp; done) | (simp [*]; done), by repeat (first | exact Drawn0.refl _ | apply Drawn0.step)⟩
end Go.Proofs.Ytbbnhameafolgaa.Given
