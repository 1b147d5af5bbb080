-- By wip/gprint.py (the kit's print with given functions).
import Derived.Test.YtbbnhameafolgaaPAllx0
import Derived.Test.YtbbnhameafolgaaPAllx1
import Derived.Test.YtbbnhameafolgaaPAllx2
namespace Go.Proofs.Ytbbnhameafolgaa.PAll
open Go.RowKit Go.Proofs.YtbbnhameafolgaaW.PrintWords Go.Proofs.YtbbnhameafolgaaW.PrintLast Go.Proofs.YtbbnhameafolgaaW.PrintMore Go.Proofs.Ytbbnhameafolgaa.Given
attribute [local go_sem] max2_int min2_int max_two min_two max_three min_three max_four min_four   -- for this text's walks alone
set_option linter.unusedVariables false
set_option linter.unusedSimpArgs false

/-! ### runes_Last: function 29 -/
mutual
def runes_Last.l0 : Nat → ByteArray → Int → Option (Int × Int)
  | 0, _, _ => none
  | k + 1, x0, x4 => if x4 ≤ 4 then (runes_Last.j1 k x0 x4 (decide (x4 ≤ (x0.size : Int)))) else (runes_Last.j1 k x0 x4 false)
def runes_Last.j1 : Nat → ByteArray → Int → Bool → Option (Int × Int)
  | 0, _, _, _ => none
  | k + 1, x0, x4, x12 => if x12 = true then (if 0 ≤ (wrap64 ((x0.size : Int) - x4)) then (if (wrap64 ((x0.size : Int) - x4)) < (x0.size : Int) then ((runes_Inside.f (bt x0 (wrap64 ((x0.size : Int) - x4)))).bind fun t302 => (if t302 = true then (runes_Last.l0 k x0 (wrap64 (x4 + 1))) else ((runes_size.f x0 (wrap64 ((x0.size : Int) - x4))).bind fun t303 => (if t303 = x4 then (if (wrap64 ((x0.size : Int) - x4)) ≤ (x0.size : Int) then ((runes_First.f (x0.extract ((wrap64 ((x0.size : Int) - x4)) : Int).toNat x0.size)).bind fun bt304 => (some (bt304.1, bt304.2))) else (none)) else (some (0, 0)))))) else (none)) else (none)) else (some (0, 0))
end
def runes_Last.f (k : Nat) (a0 : ByteArray) : Option (Int × Int) := runes_Last.l0 k a0 1
theorem runes_Last.mono_l : ∀ k, (∀ y0 y1, LeO (runes_Last.l0 k y0 y1) (runes_Last.l0 (k + 1) y0 y1)) ∧ (∀ y0 y1 y2, LeO (runes_Last.j1 k y0 y1 y2) (runes_Last.j1 (k + 1) y0 y1 y2))
  | 0 => ⟨fun _ _ r h => by simp [runes_Last.l0] at h, fun _ _ _ r h => by simp [runes_Last.j1] at h⟩
  | k + 1 => by
    obtain ⟨ih0, ih1⟩ := runes_Last.mono_l k
    refine ⟨?_, ?_⟩
    · intro y0 y1
      unfold runes_Last.l0
      repeat' first
      | (with_reducible exact ih0 _ _)
      | (with_reducible exact ih1 _ _ _)
      | (with_reducible exact LeO.refl _)
      | (with_reducible exact LeO.none _)
      | (with_reducible refine LeO.ite ?_ ?_)
      | (with_reducible refine LeO.bind ?_ (fun _ => ?_))
      | exact ih0 _ _
      | exact ih1 _ _ _
      | exact LeO.none _
      | refine LeO.ite ?_ ?_
      | refine LeO.bind ?_ (fun _ => ?_)
    · intro y0 y1 y2
      unfold runes_Last.j1
      repeat' first
      | (with_reducible exact ih0 _ _)
      | (with_reducible exact ih1 _ _ _)
      | (with_reducible exact LeO.refl _)
      | (with_reducible exact LeO.none _)
      | (with_reducible refine LeO.ite ?_ ?_)
      | (with_reducible refine LeO.bind ?_ (fun _ => ?_))
      | exact ih0 _ _
      | exact ih1 _ _ _
      | exact LeO.none _
      | refine LeO.ite ?_ ?_
      | refine LeO.bind ?_ (fun _ => ?_)
theorem runes_Last.mono : ∀ a0 k, LeO (runes_Last.f k a0) (runes_Last.f (k + 1) a0) := by
  intro a0 k
  obtain ⟨ih0, ih1⟩ := runes_Last.mono_l k
  unfold runes_Last.f
  repeat' first
      | (with_reducible exact ih0 _ _)
      | (with_reducible exact ih1 _ _ _)
      | (with_reducible exact LeO.refl _)
      | (with_reducible exact LeO.none _)
      | (with_reducible refine LeO.ite ?_ ?_)
      | (with_reducible refine LeO.bind ?_ (fun _ => ?_))
      | exact ih0 _ _
      | exact ih1 _ _ _
      | exact LeO.none _
      | refine LeO.ite ?_ ?_
      | refine LeO.bind ?_ (fun _ => ?_)
set_option maxHeartbeats 8000000 in
set_option maxRecDepth 100000 in
theorem runes_Last.calls (k : Nat) (a0 : ByteArray) (r1 : Int) (r2 : Int) (w : World) (h : runes_Last.f k a0 = some (r1, r2)) :
    Calls Try.prog 29 #[.string a0] w fun e w' => e = .returned (.tuple #[.int .i32 r1, .int .i64 r2]) ∧ Below w.heap.size w w' := by
  have HB := Aside0.mk (Below.refl w.heap.size w)
  have H : (runes_Last.l0 k a0 1) = some (r1, r2) := h
  clear h
  have H' := Aside0.mk H
  clear H
  go_enter Try.func29, Try.ntmps29
  go_wp2
  go_loopg [4] k (fun kq v4 w' => ∃ (x4_1 : Int), v4 = .int .i64 x4_1 ∧ Aside0 (runes_Last.l0 kq a0 x4_1 = some (r1, r2)) ∧ Aside0 (kq ≤ k) ∧ Aside0 (Below w.heap.size w w'))
  case atStart => exact ⟨(1), (by first | rfl | (simp; done) | (simp [*]; done)), H', ⟨Nat.le_refl _⟩, ⟨by repeat (first | (with_reducible first | exact HB.out | apply below_alloc | apply pw_below_drewN | apply below_drew1) | exact HB.out)⟩⟩
  case round =>
    clear H'
    obtain ⟨x4_1, rfl, HA, HK1, HB⟩ := hrel
    cases gk with
    | zero => exact absurd HA.out (by simp [runes_Last.l0])
    | succ k1 =>
      have H := HA.out
      clear HA
      simp only [runes_Last.l0] at H
      have HC2 := Aside0.mk H
      clear H
      go_upto_region 2 with (fail)
      go_cut [12] (fun v12 wc => ∃ (kq : Nat) (x12_1 : Bool), v12 = .bool x12_1 ∧ Aside0 (runes_Last.j1 kq a0 x4_1 x12_1 = some (r1, r2)) ∧ Aside0 (kq ≤ k1) ∧ Aside0 (Below w.heap.size w wc))
      case first =>
        have H := HC2.out
        clear HC2
        by_cases c3 : x4_1 ≤ 4
        · rw [if_pos c3] at H
          have c3b0 : decide (x4_1 ≤ 4) = true := decide_eq_true c3
          clear c3
          (first | rw [c3b0] | (simp only [i64_w, i32_w]; rw [c3b0]) | skip)
          have H' := Aside0.mk H
          clear H
          go_wp2
          go_meet
          case rel => exact ⟨_, (decide (x4_1 ≤ (a0.size : Int))), (by first | rfl | (simp; done) | (simp [*]; done)), H', ⟨by have := HK1.out; first | omega | exact Nat.le_refl _⟩, ⟨by repeat (first | (with_reducible first | exact HB.out | apply below_alloc | apply pw_below_drewN | apply below_drew1) | exact HB.out)⟩⟩
        · rw [if_neg c3] at H
          have c3b0 : decide (x4_1 ≤ 4) = false := decide_eq_false c3
          clear c3
          (first | rw [c3b0] | (simp only [i64_w, i32_w]; rw [c3b0]) | skip)
          have H' := Aside0.mk H
          clear H
          go_wp2
          go_meet
          case rel => exact ⟨_, (false), (by first | rfl | (simp; done) | (simp [*]; done)), H', ⟨by have := HK1.out; first | omega | exact Nat.le_refl _⟩, ⟨by repeat (first | (with_reducible first | exact HB.out | apply below_alloc | apply pw_below_drewN | apply below_drew1) | exact HB.out)⟩⟩
      case rest =>
        clear HC2
        try clear c2
        try clear p2
        try clear c3
        try clear c3b0
        obtain ⟨kq, x12_1, rfl, HA, HJ1, HB⟩ := hcut
        cases kq with
        | zero => exact absurd HA.out (by simp [runes_Last.j1])
        | succ kj1 =>
          have H := HA.out
          clear HA
          simp only [runes_Last.j1] at H
          by_cases c4 : x12_1 = true
          · subst c4
            have H1 : (if 0 ≤ (wrap64 ((a0.size : Int) - x4_1)) then (if (wrap64 ((a0.size : Int) - x4_1)) < (a0.size : Int) then ((runes_Inside.f (bt a0 (wrap64 ((a0.size : Int) - x4_1)))).bind fun t302 => (if t302 = true then (runes_Last.l0 kj1 a0 (wrap64 (x4_1 + 1))) else ((runes_size.f a0 (wrap64 ((a0.size : Int) - x4_1))).bind fun t303 => (if t303 = x4_1 then (if (wrap64 ((a0.size : Int) - x4_1)) ≤ (a0.size : Int) then ((runes_First.f (a0.extract ((wrap64 ((a0.size : Int) - x4_1)) : Int).toNat a0.size)).bind fun bt304 => (some (bt304.1, bt304.2))) else (none)) else (some (0, 0)))))) else (none)) else (none)) = some (r1, r2) := by rw [if_pos rfl] at H; exact H
            clear H
            have H := H1
            clear H1
            obtain ⟨ji5, hji5⟩ : ∃ j_ : Int, (wrap64 ((a0.size : Int) - x4_1)) = j_ := ⟨_, rfl⟩
            replace H : (if 0 ≤ (ji5) then (if (ji5) < (a0.size : Int) then ((runes_Inside.f (bt a0 (ji5))).bind fun t302 => (if t302 = true then (runes_Last.l0 kj1 a0 (wrap64 (x4_1 + 1))) else ((runes_size.f a0 (ji5)).bind fun t303 => (if t303 = x4_1 then (if (ji5) ≤ (a0.size : Int) then ((runes_First.f (a0.extract ((ji5) : Int).toNat a0.size)).bind fun bt304 => (some (bt304.1, bt304.2))) else (none)) else (some (0, 0)))))) else (none)) else (none)) = some (r1, r2) := by first | (rw [hji5] at H; exact H) | (simp only [hji5] at H ⊢; exact H)
            have hji5w : (IntKind.i64.wrap ((a0.size : Int) - x4_1)) = ji5 := (i64_w _).trans hji5
            by_cases c6 : 0 ≤ (ji5)
            · rw [if_pos c6] at H
              have c6b0 : decide (0 ≤ (ji5)) = true := decide_eq_true c6
              clear c6
              by_cases c7 : (ji5) < (a0.size : Int)
              · rw [if_pos c7] at H
                have c7b0 : decide ((ji5) < (a0.size : Int)) = true := decide_eq_true c7
                clear c7
                replace H := Option.bind_eq_some_iff.mp H
                obtain ⟨t302, A90, H⟩ := H
                replace H : (if t302 = true then (runes_Last.l0 kj1 a0 (wrap64 (x4_1 + 1))) else ((runes_size.f a0 (ji5)).bind fun t303 => (if t303 = x4_1 then (if (ji5) ≤ (a0.size : Int) then ((runes_First.f (a0.extract ((ji5) : Int).toNat a0.size)).bind fun bt304 => (some (bt304.1, bt304.2))) else (none)) else (some (0, 0))))) = some (r1, r2) := H
                have A9 := Aside0.mk A90
                clear A90
                by_cases c10 : t302 = true
                · subst c10
                  have H1 : (runes_Last.l0 kj1 a0 (wrap64 (x4_1 + 1))) = some (r1, r2) := by rw [if_pos rfl] at H; exact H
                  clear H
                  have H := H1
                  clear H1
                  have H' := Aside0.mk H
                  clear H
                  have p8 : 0 ≤ ((ji5) : Int) := of_decide_eq_true (by first | (with_reducible assumption) | assumption)
                  have q8 : (ji5) < (a0.size : Int) := of_decide_eq_true (by first | (with_reducible assumption) | assumption)
                  have hx8 := bt_at a0 (ji5)
                  replace p8 := eq_true p8
                  replace q8 := eq_true q8
                  go_wp2_with (first | ((with_reducible refine gate_callee (f := 21) rfl ?_); refine goesL_ (some 21) rfl rfl Try.func21 (by kernel_rfl) rfl #[.int .u8 (bt a0 (ji5))] rfl (by (try simp only [List.map_toArray, List.map_cons, List.map_nil]); first | done | (simp only [hji5]; rfl) | rfl | (simp only [List.length_drop, List.length_take]; rfl)) ?_; (with_reducible refine (runes_Inside.calls (bt a0 (ji5)) true _ A9.out).mono ?_); rintro e w' ⟨rfl, ⟨nd, rfl⟩⟩; refine ⟨_, rfl, ?_⟩))
                  go_roundg kj1
                  case measure => have := HK1.out; have := HJ1.out; omega
                  case rel => exact ⟨(wrap64 (x4_1 + 1)), (by first | rfl | (simp; done) | (simp [*]; done)), H', ⟨by have := HK1.out; have := HJ1.out; omega⟩, ⟨by repeat (first | (with_reducible first | exact HB.out | apply below_alloc | apply pw_below_drewN | apply below_drew1) | exact HB.out)⟩⟩
                · replace c10 := Bool.eq_false_iff.mpr c10
                  subst c10
                  have H1 : ((runes_size.f a0 (ji5)).bind fun t303 => (if t303 = x4_1 then (if (ji5) ≤ (a0.size : Int) then ((runes_First.f (a0.extract ((ji5) : Int).toNat a0.size)).bind fun bt304 => (some (bt304.1, bt304.2))) else (none)) else (some (0, 0)))) = some (r1, r2) := by rw [if_neg (show ¬ (false = true) by decide)] at H; exact H
                  clear H
                  have H := H1
                  clear H1
                  replace H := Option.bind_eq_some_iff.mp H
                  obtain ⟨t303, A110, H⟩ := H
                  replace H : (if t303 = x4_1 then (if (ji5) ≤ (a0.size : Int) then ((runes_First.f (a0.extract ((ji5) : Int).toNat a0.size)).bind fun bt304 => (some (bt304.1, bt304.2))) else (none)) else (some (0, 0))) = some (r1, r2) := H
                  have A11 := Aside0.mk A110
                  clear A110
                  by_cases c12 : t303 = x4_1
                  · rw [if_pos c12] at H
                    have c12b0 : (t303 == x4_1) = true := beq_iff_eq.mpr c12
                    have c12b1 : (t303 != x4_1) = false := bne_eq_false_iff_eq.mpr c12
                    clear c12
                    have c13b0 := eq_true (of_decide_eq_true (by first | (with_reducible assumption) | assumption) : 0 ≤ (ji5))
                    by_cases c14 : (ji5) ≤ (a0.size : Int)
                    · rw [if_pos c14] at H
                      have c14b0 := eq_true c14
                      have c14b1 : decide ((ji5) ≤ (a0.size : Int)) = true := decide_eq_true c14
                      clear c14
                      replace H := Option.bind_eq_some_iff.mp H
                      obtain ⟨⟨t304, t305⟩, A150, H⟩ := H
                      replace H : (some (t304, t305)) = some (r1, r2) := H
                      have A15 := Aside0.mk A150
                      clear A150
                      simp only [Option.some.injEq, Prod.mk.injEq] at H
                      obtain ⟨rfl, rfl⟩ := H
                      have p8 : 0 ≤ ((ji5) : Int) := of_decide_eq_true (by first | (with_reducible assumption) | assumption)
                      have q8 : (ji5) < (a0.size : Int) := of_decide_eq_true (by first | (with_reducible assumption) | assumption)
                      have hx8 := bt_at a0 (ji5)
                      replace p8 := eq_true p8
                      replace q8 := eq_true q8
                      go_wp2_with (first | ((with_reducible refine gate_callee (f := 21) rfl ?_); refine goesL_ (some 21) rfl rfl Try.func21 (by kernel_rfl) rfl #[.int .u8 (bt a0 (ji5))] rfl (by (try simp only [List.map_toArray, List.map_cons, List.map_nil]); first | done | (simp only [hji5]; rfl) | rfl | (simp only [List.length_drop, List.length_take]; rfl)) ?_; (with_reducible refine (runes_Inside.calls (bt a0 (ji5)) false _ A9.out).mono ?_); rintro e w' ⟨rfl, ⟨nd, rfl⟩⟩; refine ⟨_, rfl, ?_⟩) | ((with_reducible refine gate_callee (f := 32) rfl ?_); refine goesL_ (some 27) rfl rfl Try.func32 (by kernel_rfl) rfl #[.string a0, .int .i64 ji5] rfl (by (try simp only [List.map_toArray, List.map_cons, List.map_nil]); first | done | (simp only [hji5]; rfl) | rfl | (simp only [List.length_drop, List.length_take]; rfl)) ?_; (with_reducible refine (runes_size.calls a0 ji5 t303 _ A11.out).mono ?_); rintro e w' ⟨rfl, ⟨nd, rfl⟩⟩; refine ⟨_, rfl, ?_⟩) | ((with_reducible refine gate_callee (f := 28) rfl ?_); refine goesL_ (some 36) rfl rfl Try.func28 (by kernel_rfl) rfl #[.string (a0.extract ((ji5) : Int).toNat a0.size)] rfl (by (try simp only [List.map_toArray, List.map_cons, List.map_nil]); first | done | (simp only [hji5]; rfl) | rfl | (simp only [List.length_drop, List.length_take]; rfl)) ?_; (with_reducible refine (runes_First.calls (a0.extract ((ji5) : Int).toNat a0.size) t304 t305 _ A15.out).mono ?_); rintro e w16 ⟨rfl, hb⟩; refine ⟨_, rfl, ?_⟩; have n0_ := Aside0.mk (below_step (by repeat (first | (with_reducible first | exact HB.out | apply below_alloc | apply pw_below_drewN | apply below_drew1) | exact HB.out)) hb); clear HB; have HB := n0_; clear n0_; (try clear hb); (try clear hb2); (try clear hk); (try clear hi)))
                      go_ret2
                      exact ⟨by first | rfl | (simp [errW_none, errW_some] <;> rfl) | (simp only [← hji5]; first | rfl | (simp [errW_none, errW_some] <;> rfl)) | (simp [*, errW_none, errW_some] <;> rfl), by repeat (first | (with_reducible first | exact HB.out | apply below_alloc | apply pw_below_drewN | apply below_drew1) | exact HB.out)⟩
                    · rw [if_neg c14] at H
                      exact absurd H (by simp)
                  · rw [if_neg c12] at H
                    have c12b0 : (t303 == x4_1) = false := beq_eq_false_iff_ne.mpr c12
                    have c12b1 : (t303 != x4_1) = true := bne_iff_ne.mpr c12
                    simp only [Option.some.injEq, Prod.mk.injEq] at H
                    obtain ⟨rfl, rfl⟩ := H
                    have p8 : 0 ≤ ((ji5) : Int) := of_decide_eq_true (by first | (with_reducible assumption) | assumption)
                    have q8 : (ji5) < (a0.size : Int) := of_decide_eq_true (by first | (with_reducible assumption) | assumption)
                    have hx8 := bt_at a0 (ji5)
                    replace p8 := eq_true p8
                    replace q8 := eq_true q8
                    go_wp2_with (first | ((with_reducible refine gate_callee (f := 21) rfl ?_); refine goesL_ (some 21) rfl rfl Try.func21 (by kernel_rfl) rfl #[.int .u8 (bt a0 (ji5))] rfl (by (try simp only [List.map_toArray, List.map_cons, List.map_nil]); first | done | (simp only [hji5]; rfl) | rfl | (simp only [List.length_drop, List.length_take]; rfl)) ?_; (with_reducible refine (runes_Inside.calls (bt a0 (ji5)) false _ A9.out).mono ?_); rintro e w' ⟨rfl, ⟨nd, rfl⟩⟩; refine ⟨_, rfl, ?_⟩) | ((with_reducible refine gate_callee (f := 32) rfl ?_); refine goesL_ (some 27) rfl rfl Try.func32 (by kernel_rfl) rfl #[.string a0, .int .i64 ji5] rfl (by (try simp only [List.map_toArray, List.map_cons, List.map_nil]); first | done | (simp only [hji5]; rfl) | rfl | (simp only [List.length_drop, List.length_take]; rfl)) ?_; (with_reducible refine (runes_size.calls a0 ji5 t303 _ A11.out).mono ?_); rintro e w' ⟨rfl, ⟨nd, rfl⟩⟩; refine ⟨_, rfl, ?_⟩))
                    go_ret2
                    exact ⟨by first | rfl | (simp [errW_none, errW_some] <;> rfl) | (simp only [← hji5]; first | rfl | (simp [errW_none, errW_some] <;> rfl)) | (simp [*, errW_none, errW_some] <;> rfl), by repeat (first | (with_reducible first | exact HB.out | apply below_alloc | apply pw_below_drewN | apply below_drew1) | exact HB.out)⟩
              · rw [if_neg c7] at H
                exact absurd H (by simp)
            · rw [if_neg c6] at H
              exact absurd H (by simp)
          · replace c4 := Bool.eq_false_iff.mpr c4
            subst c4
            have H1 : (some (0, 0)) = some (r1, r2) := by rw [if_neg (show ¬ (false = true) by decide)] at H; exact H
            clear H
            have H := H1
            clear H1
            simp only [Option.some.injEq, Prod.mk.injEq] at H
            obtain ⟨rfl, rfl⟩ := H
            go_wp2
            go_ret2
            exact ⟨by first | rfl | (simp [errW_none, errW_some] <;> rfl) | (simp [*, errW_none, errW_some] <;> rfl), by repeat (first | (with_reducible first | exact HB.out | apply below_alloc | apply pw_below_drewN | apply below_drew1) | exact HB.out)⟩

/-! ### regletlaw02_RunesEnds: function 11 -/
mutual
def regletlaw02_RunesEnds.l0 : Nat → ByteArray → List Int → List Int → Int → Int → Int → Int → Int → Int → Option (Bool)
  | 0, _, _, _, _, _, _, _, _, _ => none
  | k + 1, x0, x3, x4, x6, x7, x8, x9, x10, x11 => if x11 < (x3.length : Int) then (if 0 ≤ x11 then (if (rd x3 x11) = 10 then (regletlaw02_RunesEnds.l0 k x0 x3 x4 x6 x7 x8 x9 (wrap64 (x10 + 1)) (wrap64 (x11 + 1))) else (regletlaw02_RunesEnds.l0 k x0 x3 x4 x6 x7 x8 x9 x10 (wrap64 (x11 + 1)))) else (none)) else ((runes_Count.f x0).bind fun t319 => (if t319 = (x3.length : Int) then ((runes_Lines.f x0).bind fun t320 => (regletlaw02_RunesEnds.j1 k x0 x3 x4 x6 x7 x8 x9 (t320 != x10))) else (regletlaw02_RunesEnds.j1 k x0 x3 x4 x6 x7 x8 x9 true)))
def regletlaw02_RunesEnds.j1 : Nat → ByteArray → List Int → List Int → Int → Int → Int → Int → Bool → Option (Bool)
  | 0, _, _, _, _, _, _, _, _ => none
  | k + 1, x0, x3, x4, x6, x7, x8, x9, x56 => if x56 = true then (some false) else (if (x3.length : Int) = 0 then (if x6 = 0 then (if x8 = 0 then (if x7 = 0 then (some (x9 == 0)) else (some false)) else (some false)) else (some false)) else (if 0 < (x3.length : Int) then (if (wrap64 (x6)) = (rd x3 0) then (if 0 ≤ (wrap64 ((x3.length : Int) - 1)) then (if (wrap64 ((x3.length : Int) - 1)) < (x3.length : Int) then (if (wrap64 (x8)) = (rd x3 (wrap64 ((x3.length : Int) - 1))) then (if (wrap64 ((x3.length : Int) - 1)) < (x4.length : Int) then (if x9 = (wrap64 ((x0.size : Int) - (rd x4 (wrap64 ((x3.length : Int) - 1))))) then (if (wrap64 ((x3.length : Int) - 1)) = 0 then (if x7 = (x0.size : Int) then (some true) else (if (wrap64 ((x3.length : Int) - 1)) > 0 then (if 1 < (x4.length : Int) then (some (x7 == (rd x4 1))) else (none)) else (some false))) else (if (wrap64 ((x3.length : Int) - 1)) > 0 then (if 1 < (x4.length : Int) then (some (x7 == (rd x4 1))) else (none)) else (some false))) else (some false)) else (none)) else (some false)) else (none)) else (none)) else (some false)) else (none)))
end
def regletlaw02_RunesEnds.f (k : Nat) (a0 : ByteArray) : Option (Bool) := (regletlaw02_awake.f k).bind fun t306 => (if t306 = true then ((regletref02_Runes.f k a0).bind fun bt307 => ((runes_First.f a0).bind fun bt314 => ((runes_Last.f k a0).bind fun bt316 => (if bt307.2.2 ≥ 0 then (some true) else (regletlaw02_RunesEnds.l0 k a0 bt307.1 bt307.2.1 bt314.1 bt314.2 bt316.1 bt316.2 0 0))))) else (some false))
theorem regletlaw02_RunesEnds.mono_l : ∀ k, (∀ y0 y1 y2 y3 y4 y5 y6 y7 y8, LeO (regletlaw02_RunesEnds.l0 k y0 y1 y2 y3 y4 y5 y6 y7 y8) (regletlaw02_RunesEnds.l0 (k + 1) y0 y1 y2 y3 y4 y5 y6 y7 y8)) ∧ (∀ y0 y1 y2 y3 y4 y5 y6 y7, LeO (regletlaw02_RunesEnds.j1 k y0 y1 y2 y3 y4 y5 y6 y7) (regletlaw02_RunesEnds.j1 (k + 1) y0 y1 y2 y3 y4 y5 y6 y7))
  | 0 => ⟨fun _ _ _ _ _ _ _ _ _ r h => by simp [regletlaw02_RunesEnds.l0] at h, fun _ _ _ _ _ _ _ _ r h => by simp [regletlaw02_RunesEnds.j1] at h⟩
  | k + 1 => by
    obtain ⟨ih0, ih1⟩ := regletlaw02_RunesEnds.mono_l k
    refine ⟨?_, ?_⟩
    · intro y0 y1 y2 y3 y4 y5 y6 y7 y8
      unfold regletlaw02_RunesEnds.l0
      repeat' first
      | (with_reducible exact ih0 _ _ _ _ _ _ _ _ _)
      | (with_reducible exact ih1 _ _ _ _ _ _ _ _)
      | (with_reducible exact regletlaw02_awake.mono _)
      | (with_reducible exact regletref02_Runes.mono _ _)
      | (with_reducible exact runes_Last.mono _ _)
      | (with_reducible exact LeO.refl _)
      | (with_reducible exact LeO.none _)
      | (with_reducible refine LeO.ite ?_ ?_)
      | (with_reducible refine LeO.bind ?_ (fun _ => ?_))
      | exact ih0 _ _ _ _ _ _ _ _ _
      | exact ih1 _ _ _ _ _ _ _ _
      | exact regletlaw02_awake.mono _
      | exact regletref02_Runes.mono _ _
      | exact runes_Last.mono _ _
      | exact LeO.none _
      | refine LeO.ite ?_ ?_
      | refine LeO.bind ?_ (fun _ => ?_)
    · intro y0 y1 y2 y3 y4 y5 y6 y7
      unfold regletlaw02_RunesEnds.j1
      repeat' first
      | (with_reducible exact ih0 _ _ _ _ _ _ _ _ _)
      | (with_reducible exact ih1 _ _ _ _ _ _ _ _)
      | (with_reducible exact regletlaw02_awake.mono _)
      | (with_reducible exact regletref02_Runes.mono _ _)
      | (with_reducible exact runes_Last.mono _ _)
      | (with_reducible exact LeO.refl _)
      | (with_reducible exact LeO.none _)
      | (with_reducible refine LeO.ite ?_ ?_)
      | (with_reducible refine LeO.bind ?_ (fun _ => ?_))
      | exact ih0 _ _ _ _ _ _ _ _ _
      | exact ih1 _ _ _ _ _ _ _ _
      | exact regletlaw02_awake.mono _
      | exact regletref02_Runes.mono _ _
      | exact runes_Last.mono _ _
      | exact LeO.none _
      | refine LeO.ite ?_ ?_
      | refine LeO.bind ?_ (fun _ => ?_)
theorem regletlaw02_RunesEnds.mono : ∀ a0 k, LeO (regletlaw02_RunesEnds.f k a0) (regletlaw02_RunesEnds.f (k + 1) a0) := by
  intro a0 k
  obtain ⟨ih0, ih1⟩ := regletlaw02_RunesEnds.mono_l k
  unfold regletlaw02_RunesEnds.f
  repeat' first
      | (with_reducible exact ih0 _ _ _ _ _ _ _ _ _)
      | (with_reducible exact ih1 _ _ _ _ _ _ _ _)
      | (with_reducible exact regletlaw02_awake.mono _)
      | (with_reducible exact regletref02_Runes.mono _ _)
      | (with_reducible exact runes_Last.mono _ _)
      | (with_reducible exact LeO.refl _)
      | (with_reducible exact LeO.none _)
      | (with_reducible refine LeO.ite ?_ ?_)
      | (with_reducible refine LeO.bind ?_ (fun _ => ?_))
      | exact ih0 _ _ _ _ _ _ _ _ _
      | exact ih1 _ _ _ _ _ _ _ _
      | exact regletlaw02_awake.mono _
      | exact regletref02_Runes.mono _ _
      | exact runes_Last.mono _ _
      | exact LeO.none _
      | refine LeO.ite ?_ ?_
      | refine LeO.bind ?_ (fun _ => ?_)
set_option maxHeartbeats 8000000 in
set_option maxRecDepth 100000 in
theorem regletlaw02_RunesEnds.calls (k : Nat) (a0 : ByteArray) (r : Bool) (w : World) (h : regletlaw02_RunesEnds.f k a0 = some r) :
    Calls Try.prog 11 #[.string a0] w fun e w' => e = .returned (.bool r) ∧ Below w.heap.size w w' := by
  have HB := Aside0.mk (Below.refl w.heap.size w)
  have H : ((regletlaw02_awake.f k).bind fun t306 => (if t306 = true then ((regletref02_Runes.f k a0).bind fun bt307 => ((runes_First.f a0).bind fun bt314 => ((runes_Last.f k a0).bind fun bt316 => (if bt307.2.2 ≥ 0 then (some true) else (regletlaw02_RunesEnds.l0 k a0 bt307.1 bt307.2.1 bt314.1 bt314.2 bt316.1 bt316.2 0 0))))) else (some false))) = some r := h
  clear h
  replace H := Option.bind_eq_some_iff.mp H
  obtain ⟨t306, A20, H⟩ := H
  replace H : (if t306 = true then ((regletref02_Runes.f k a0).bind fun bt307 => ((runes_First.f a0).bind fun bt314 => ((runes_Last.f k a0).bind fun bt316 => (if bt307.2.2 ≥ 0 then (some true) else (regletlaw02_RunesEnds.l0 k a0 bt307.1 bt307.2.1 bt314.1 bt314.2 bt316.1 bt316.2 0 0))))) else (some false)) = some r := H
  have A2 := Aside0.mk A20
  clear A20
  by_cases c3 : t306 = true
  · subst c3
    have H1 : ((regletref02_Runes.f k a0).bind fun bt307 => ((runes_First.f a0).bind fun bt314 => ((runes_Last.f k a0).bind fun bt316 => (if bt307.2.2 ≥ 0 then (some true) else (regletlaw02_RunesEnds.l0 k a0 bt307.1 bt307.2.1 bt314.1 bt314.2 bt316.1 bt316.2 0 0))))) = some r := by rw [if_pos rfl] at H; exact H
    clear H
    have H := H1
    clear H1
    replace H := Option.bind_eq_some_iff.mp H
    obtain ⟨⟨t307, t308, t309⟩, A40, H⟩ := H
    replace H : ((runes_First.f a0).bind fun bt314 => ((runes_Last.f k a0).bind fun bt316 => (if t309 ≥ 0 then (some true) else (regletlaw02_RunesEnds.l0 k a0 t307 t308 bt314.1 bt314.2 bt316.1 bt316.2 0 0)))) = some r := H
    have A4 := Aside0.mk A40
    clear A40
    replace H := Option.bind_eq_some_iff.mp H
    obtain ⟨⟨t314, t315⟩, A50, H⟩ := H
    replace H : ((runes_Last.f k a0).bind fun bt316 => (if t309 ≥ 0 then (some true) else (regletlaw02_RunesEnds.l0 k a0 t307 t308 t314 t315 bt316.1 bt316.2 0 0))) = some r := H
    have A5 := Aside0.mk A50
    clear A50
    replace H := Option.bind_eq_some_iff.mp H
    obtain ⟨⟨t316, t317⟩, A60, H⟩ := H
    replace H : (if t309 ≥ 0 then (some true) else (regletlaw02_RunesEnds.l0 k a0 t307 t308 t314 t315 t316 t317 0 0)) = some r := H
    have A6 := Aside0.mk A60
    clear A60
    by_cases c7 : t309 ≥ 0
    · rw [if_pos c7] at H
      have c7b0 : decide (0 ≤ t309) = true := decide_eq_true c7
      clear c7
      obtain rfl := Option.some.inj H
      go_enter Try.func11, Try.ntmps11
      go_wp2_with (first | ((with_reducible refine gate_callee (f := 12) rfl ?_); refine goesL_ (some 13) rfl rfl Try.func12 (by kernel_rfl) rfl #[] rfl (by (try simp only [List.map_toArray, List.map_cons, List.map_nil]); first | done | rfl | (simp only [List.length_drop, List.length_take]; rfl)) ?_; (with_reducible refine (regletlaw02_awake.calls k  true _ A2.out).mono ?_); rintro e w' ⟨rfl, ⟨nd, rfl⟩⟩; refine ⟨_, rfl, ?_⟩) | ((with_reducible refine gate_callee (f := 18) rfl ?_); refine goesL_ (some 17) rfl rfl Try.func18 (by kernel_rfl) rfl #[.string a0] rfl (by (try simp only [List.map_toArray, List.map_cons, List.map_nil]); first | done | rfl | (simp only [List.length_drop, List.length_take]; rfl)) ?_; (with_reducible refine (regletref02_Runes.calls k a0 t307 t308 t309 _ A4.out).mono ?_); rintro e w8 ⟨v310, v312, rfl, ho0, ho1, hb⟩; refine ⟨_, rfl, ?_⟩; have n0_ := Aside0.mk (Kd.R_lower ho0 (below_size (by repeat (first | (with_reducible first | exact HB.out | apply below_alloc | apply pw_below_drewN | apply below_drew1) | exact HB.out)))); have n1_ := Aside0.mk (Kd.R_lower ho1 (below_size (by repeat (first | (with_reducible first | exact HB.out | apply below_alloc | apply pw_below_drewN | apply below_drew1) | exact HB.out)))); have n2_ := Aside0.mk (below_step (by repeat (first | (with_reducible first | exact HB.out | apply below_alloc | apply pw_below_drewN | apply below_drew1) | exact HB.out)) hb); clear HB; have HO311 := n0_; have HO313 := n1_; have HB := n2_; clear n0_ n1_ n2_; (try clear hb); (try clear hb2); (try clear hk); (try clear hi); (try clear ho0); (try clear ho1)) | ((with_reducible refine gate_callee (f := 28) rfl ?_); refine goesL_ (some 23) rfl rfl Try.func28 (by kernel_rfl) rfl #[.string a0] rfl (by (try simp only [List.map_toArray, List.map_cons, List.map_nil]); first | done | rfl | (simp only [List.length_drop, List.length_take]; rfl)) ?_; (with_reducible refine (runes_First.calls a0 t314 t315 _ A5.out).mono ?_); rintro e w9 ⟨rfl, hb⟩; refine ⟨_, rfl, ?_⟩; have n0_ := Aside0.mk (Kd.R_below (by (with_reducible repeat (first | apply Kd.R_alloc | apply Kd.R_drewN | apply Kd.R_drew)); exact HO311.out) hb); have n1_ := Aside0.mk (Kd.R_below (by (with_reducible repeat (first | apply Kd.R_alloc | apply Kd.R_drewN | apply Kd.R_drew)); exact HO313.out) hb); have n2_ := Aside0.mk (below_step (by repeat (first | (with_reducible first | exact HB.out | apply below_alloc | apply pw_below_drewN | apply below_drew1) | exact HB.out)) hb); clear HO311; clear HO313; clear HB; have HO311 := n0_; have HO313 := n1_; have HB := n2_; clear n0_ n1_ n2_; (try clear hb); (try clear hb2); (try clear hk); (try clear hi)) | ((with_reducible refine gate_callee (f := 29) rfl ?_); refine goesL_ (some 28) rfl rfl Try.func29 (by kernel_rfl) rfl #[.string a0] rfl (by (try simp only [List.map_toArray, List.map_cons, List.map_nil]); first | done | rfl | (simp only [List.length_drop, List.length_take]; rfl)) ?_; (with_reducible refine (runes_Last.calls k a0 t316 t317 _ A6.out).mono ?_); rintro e w10 ⟨rfl, hb⟩; refine ⟨_, rfl, ?_⟩; have n0_ := Aside0.mk (Kd.R_below (by (with_reducible repeat (first | apply Kd.R_alloc | apply Kd.R_drewN | apply Kd.R_drew)); exact HO311.out) hb); have n1_ := Aside0.mk (Kd.R_below (by (with_reducible repeat (first | apply Kd.R_alloc | apply Kd.R_drewN | apply Kd.R_drew)); exact HO313.out) hb); have n2_ := Aside0.mk (below_step (by repeat (first | (with_reducible first | exact HB.out | apply below_alloc | apply pw_below_drewN | apply below_drew1) | exact HB.out)) hb); clear HO311; clear HO313; clear HB; have HO311 := n0_; have HO313 := n1_; have HB := n2_; clear n0_ n1_ n2_; (try clear hb); (try clear hb2); (try clear hk); (try clear hi)))
      go_ret
      exact ⟨by first | rfl | (simp [errW_none, errW_some] <;> rfl) | (simp [*, errW_none, errW_some] <;> rfl), by repeat (first | (with_reducible first | exact HB.out | apply below_alloc | apply pw_below_drewN | apply below_drew1) | exact HB.out)⟩
    · rw [if_neg c7] at H
      have c7b0 : decide (0 ≤ t309) = false := decide_eq_false c7
      clear c7
      have H' := Aside0.mk H
      clear H
      go_enter Try.func11, Try.ntmps11
      go_wp2_with (first | ((with_reducible refine gate_callee (f := 12) rfl ?_); refine goesL_ (some 13) rfl rfl Try.func12 (by kernel_rfl) rfl #[] rfl (by (try simp only [List.map_toArray, List.map_cons, List.map_nil]); first | done | rfl | (simp only [List.length_drop, List.length_take]; rfl)) ?_; (with_reducible refine (regletlaw02_awake.calls k  true _ A2.out).mono ?_); rintro e w' ⟨rfl, ⟨nd, rfl⟩⟩; refine ⟨_, rfl, ?_⟩) | ((with_reducible refine gate_callee (f := 18) rfl ?_); refine goesL_ (some 17) rfl rfl Try.func18 (by kernel_rfl) rfl #[.string a0] rfl (by (try simp only [List.map_toArray, List.map_cons, List.map_nil]); first | done | rfl | (simp only [List.length_drop, List.length_take]; rfl)) ?_; (with_reducible refine (regletref02_Runes.calls k a0 t307 t308 t309 _ A4.out).mono ?_); rintro e w11 ⟨v310, v312, rfl, ho0, ho1, hb⟩; refine ⟨_, rfl, ?_⟩; have n0_ := Aside0.mk (Kd.R_lower ho0 (below_size (by repeat (first | (with_reducible first | exact HB.out | apply below_alloc | apply pw_below_drewN | apply below_drew1) | exact HB.out)))); have n1_ := Aside0.mk (Kd.R_lower ho1 (below_size (by repeat (first | (with_reducible first | exact HB.out | apply below_alloc | apply pw_below_drewN | apply below_drew1) | exact HB.out)))); have n2_ := Aside0.mk (below_step (by repeat (first | (with_reducible first | exact HB.out | apply below_alloc | apply pw_below_drewN | apply below_drew1) | exact HB.out)) hb); clear HB; have HO311 := n0_; have HO313 := n1_; have HB := n2_; clear n0_ n1_ n2_; (try clear hb); (try clear hb2); (try clear hk); (try clear hi); (try clear ho0); (try clear ho1)) | ((with_reducible refine gate_callee (f := 28) rfl ?_); refine goesL_ (some 23) rfl rfl Try.func28 (by kernel_rfl) rfl #[.string a0] rfl (by (try simp only [List.map_toArray, List.map_cons, List.map_nil]); first | done | rfl | (simp only [List.length_drop, List.length_take]; rfl)) ?_; (with_reducible refine (runes_First.calls a0 t314 t315 _ A5.out).mono ?_); rintro e w12 ⟨rfl, hb⟩; refine ⟨_, rfl, ?_⟩; have n0_ := Aside0.mk (Kd.R_below (by (with_reducible repeat (first | apply Kd.R_alloc | apply Kd.R_drewN | apply Kd.R_drew)); exact HO311.out) hb); have n1_ := Aside0.mk (Kd.R_below (by (with_reducible repeat (first | apply Kd.R_alloc | apply Kd.R_drewN | apply Kd.R_drew)); exact HO313.out) hb); have n2_ := Aside0.mk (below_step (by repeat (first | (with_reducible first | exact HB.out | apply below_alloc | apply pw_below_drewN | apply below_drew1) | exact HB.out)) hb); clear HO311; clear HO313; clear HB; have HO311 := n0_; have HO313 := n1_; have HB := n2_; clear n0_ n1_ n2_; (try clear hb); (try clear hb2); (try clear hk); (try clear hi)) | ((with_reducible refine gate_callee (f := 29) rfl ?_); refine goesL_ (some 28) rfl rfl Try.func29 (by kernel_rfl) rfl #[.string a0] rfl (by (try simp only [List.map_toArray, List.map_cons, List.map_nil]); first | done | rfl | (simp only [List.length_drop, List.length_take]; rfl)) ?_; (with_reducible refine (runes_Last.calls k a0 t316 t317 _ A6.out).mono ?_); rintro e w13 ⟨rfl, hb⟩; refine ⟨_, rfl, ?_⟩; have n0_ := Aside0.mk (Kd.R_below (by (with_reducible repeat (first | apply Kd.R_alloc | apply Kd.R_drewN | apply Kd.R_drew)); exact HO311.out) hb); have n1_ := Aside0.mk (Kd.R_below (by (with_reducible repeat (first | apply Kd.R_alloc | apply Kd.R_drewN | apply Kd.R_drew)); exact HO313.out) hb); have n2_ := Aside0.mk (below_step (by repeat (first | (with_reducible first | exact HB.out | apply below_alloc | apply pw_below_drewN | apply below_drew1) | exact HB.out)) hb); clear HO311; clear HO313; clear HB; have HO311 := n0_; have HO313 := n1_; have HB := n2_; clear n0_ n1_ n2_; (try clear hb); (try clear hb2); (try clear hk); (try clear hi)))
      go_loopg [10, 11] k (fun kq v10 v11 w' => ∃ (x10_1 : Int) (x11_1 : Int), v10 = .int .i64 x10_1 ∧ v11 = .int .i64 x11_1 ∧ Aside0 (regletlaw02_RunesEnds.l0 kq a0 t307 t308 t314 t315 t316 t317 x10_1 x11_1 = some r) ∧ Aside0 (kq ≤ k) ∧ Aside0 (Kd.R (Kd.int .i64) 3 w' w.heap.size (fun k_ => some k_ ≠ (v312 : Value).ownBlock) v310 t307) ∧ Aside0 (Kd.R (Kd.int .i64) 3 w' w.heap.size (fun k_ => some k_ ≠ (v310 : Value).ownBlock) v312 t308) ∧ Aside0 (Below w.heap.size w w'))
      case atStart => exact ⟨(0), (0), (by first | rfl | (simp; done) | (simp [*]; done)), (by first | rfl | (simp; done) | (simp [*]; done)), H', ⟨Nat.le_refl _⟩, ⟨by (with_reducible repeat (first | apply Kd.R_alloc | apply Kd.R_drewN | apply Kd.R_drew)); exact HO311.out⟩, ⟨by (with_reducible repeat (first | apply Kd.R_alloc | apply Kd.R_drewN | apply Kd.R_drew)); exact HO313.out⟩, ⟨by repeat (first | (with_reducible first | exact HB.out | apply below_alloc | apply pw_below_drewN | apply below_drew1) | exact HB.out)⟩⟩
      case round =>
        clear H'
        try clear c1
        try clear c2
        try clear p2
        try clear c3
        try clear c7
        try clear c7b0
        try clear c11
        try clear c12
        obtain ⟨x10_1, x11_1, rfl, rfl, HA, HK1, HO_3, HO_4, HB⟩ := hrel
        cases gk with
        | zero => exact absurd HA.out (by simp [regletlaw02_RunesEnds.l0])
        | succ k1 =>
          have H := HA.out
          clear HA
          simp only [regletlaw02_RunesEnds.l0] at H
          by_cases c14 : x11_1 < (t307.length : Int)
          · rw [if_pos c14] at H
            have c14b0 : decide (x11_1 < (t307.length : Int)) = true := decide_eq_true c14
            clear c14
            by_cases c15 : 0 ≤ x11_1
            · rw [if_pos c15] at H
              have c15b0 : decide (0 ≤ x11_1) = true := decide_eq_true c15
              clear c15
              by_cases c16 : (rd t307 x11_1) = 10
              · rw [if_pos c16] at H
                have c16b0 : ((rd t307 x11_1) == 10) = true := beq_iff_eq.mpr c16
                have c16b1 : ((rd t307 x11_1) != 10) = false := bne_eq_false_iff_eq.mpr c16
                clear c16
                have H' := Aside0.mk H
                clear H
                obtain ⟨Ao17, co17, eo17⟩ := Kd.R_slice HO_3.out
                subst eo17
                have p318 : 0 ≤ (x11_1 : Int) := of_decide_eq_true (by first | (with_reducible assumption) | assumption)
                have q318 : x11_1 < (t307.length : Int) := of_decide_eq_true (by first | (with_reducible assumption) | assumption)
                obtain ⟨ad318, e318, hx318_0⟩ := Kd.at_int (Kd.R_reads' HO_3.out).2.2 x11_1 p318 q318
                cases e318
                replace p318 := eq_true p318
                replace q318 := eq_true q318
                go_wp2
                go_roundg k1
                case measure => have := HK1.out; omega
                case rel => exact ⟨(wrap64 (x10_1 + 1)), (wrap64 (x11_1 + 1)), (by first | rfl | (simp; done) | (simp [*]; done)), (by first | rfl | (simp; done) | (simp [*]; done)), H', ⟨by have := HK1.out; omega⟩, ⟨by (with_reducible repeat (first | apply Kd.R_alloc | apply Kd.R_drewN | apply Kd.R_drew)); exact HO_3.out⟩, ⟨by (with_reducible repeat (first | apply Kd.R_alloc | apply Kd.R_drewN | apply Kd.R_drew)); exact HO_4.out⟩, ⟨by repeat (first | (with_reducible first | exact HB.out | apply below_alloc | apply pw_below_drewN | apply below_drew1) | exact HB.out)⟩⟩
              · rw [if_neg c16] at H
                have c16b0 : ((rd t307 x11_1) == 10) = false := beq_eq_false_iff_ne.mpr c16
                have c16b1 : ((rd t307 x11_1) != 10) = true := bne_iff_ne.mpr c16
                have H' := Aside0.mk H
                clear H
                obtain ⟨Ao18, co18, eo18⟩ := Kd.R_slice HO_3.out
                subst eo18
                have p318 : 0 ≤ (x11_1 : Int) := of_decide_eq_true (by first | (with_reducible assumption) | assumption)
                have q318 : x11_1 < (t307.length : Int) := of_decide_eq_true (by first | (with_reducible assumption) | assumption)
                obtain ⟨ad318, e318, hx318_0⟩ := Kd.at_int (Kd.R_reads' HO_3.out).2.2 x11_1 p318 q318
                cases e318
                replace p318 := eq_true p318
                replace q318 := eq_true q318
                go_wp2
                go_roundg k1
                case measure => have := HK1.out; omega
                case rel => exact ⟨(x10_1), (wrap64 (x11_1 + 1)), (by first | rfl | (simp; done) | (simp [*]; done)), (by first | rfl | (simp; done) | (simp [*]; done)), H', ⟨by have := HK1.out; omega⟩, ⟨by (with_reducible repeat (first | apply Kd.R_alloc | apply Kd.R_drewN | apply Kd.R_drew)); exact HO_3.out⟩, ⟨by (with_reducible repeat (first | apply Kd.R_alloc | apply Kd.R_drewN | apply Kd.R_drew)); exact HO_4.out⟩, ⟨by repeat (first | (with_reducible first | exact HB.out | apply below_alloc | apply pw_below_drewN | apply below_drew1) | exact HB.out)⟩⟩
            · rw [if_neg c15] at H
              exact absurd H (by simp)
          · rw [if_neg c14] at H
            have c14b0 : decide (x11_1 < (t307.length : Int)) = false := decide_eq_false c14
            clear c14
            have HC19 := Aside0.mk H
            clear H
            obtain ⟨Ao20, co20, eo20⟩ := Kd.R_slice HO_3.out
            subst eo20
            go_upto_region 14 with (fail)
            go_cut [56] (fun v56 wc => ∃ (kq : Nat) (x56_18 : Bool), v56 = .bool x56_18 ∧ Aside0 (regletlaw02_RunesEnds.j1 kq a0 t307 t308 t314 t315 t316 t317 x56_18 = some r) ∧ Aside0 (kq ≤ k1) ∧ Aside0 (Kd.R (Kd.int .i64) 3 wc w.heap.size (fun k_ => some k_ ≠ (v312 : Value).ownBlock) (.slice Ao20 t307.length co20) t307) ∧ Aside0 (Kd.R (Kd.int .i64) 3 wc w.heap.size (fun k_ => some k_ ≠ ((.slice Ao20 t307.length co20) : Value).ownBlock) v312 t308) ∧ Aside0 (Below w.heap.size w wc))
            case first =>
              have H := HC19.out
              clear HC19
              replace H := Option.bind_eq_some_iff.mp H
              obtain ⟨t319, A210, H⟩ := H
              replace H : (if t319 = (t307.length : Int) then ((runes_Lines.f a0).bind fun t320 => (regletlaw02_RunesEnds.j1 k1 a0 t307 t308 t314 t315 t316 t317 (t320 != x10_1))) else (regletlaw02_RunesEnds.j1 k1 a0 t307 t308 t314 t315 t316 t317 true)) = some r := H
              have A21 := Aside0.mk A210
              clear A210
              by_cases c22 : t319 = (t307.length : Int)
              · rw [if_pos c22] at H
                have c22b0 : (t319 == (t307.length : Int)) = true := beq_iff_eq.mpr c22
                have c22b1 : (t319 != (t307.length : Int)) = false := bne_eq_false_iff_eq.mpr c22
                clear c22
                (first | rw [c22b0] | (simp only [i64_w, i32_w]; rw [c22b0]) | skip)
                replace H := Option.bind_eq_some_iff.mp H
                obtain ⟨t320, A230, H⟩ := H
                replace H : (regletlaw02_RunesEnds.j1 k1 a0 t307 t308 t314 t315 t316 t317 (t320 != x10_1)) = some r := H
                have A23 := Aside0.mk A230
                clear A230
                have H' := Aside0.mk H
                clear H
                go_wp2_with (first | ((with_reducible refine gate_callee (f := 22) rfl ?_); refine goesL_ (some 47) rfl rfl Try.func22 (by kernel_rfl) rfl #[.string a0] rfl (by (try simp only [List.map_toArray, List.map_cons, List.map_nil]); first | done | rfl | (simp only [List.length_drop, List.length_take]; rfl)) ?_; (with_reducible refine (runes_Count.calls a0 t319 _ A21.out).mono ?_); rintro e w24 ⟨rfl, hb⟩; refine ⟨_, rfl, ?_⟩; have n0_ := Aside0.mk (Kd.R_below (by (with_reducible repeat (first | apply Kd.R_alloc | apply Kd.R_drewN | apply Kd.R_drew)); exact HO_3.out) hb); have n1_ := Aside0.mk (Kd.R_below (by (with_reducible repeat (first | apply Kd.R_alloc | apply Kd.R_drewN | apply Kd.R_drew)); exact HO_4.out) hb); have n2_ := Aside0.mk (below_step (by repeat (first | (with_reducible first | exact HB.out | apply below_alloc | apply pw_below_drewN | apply below_drew1) | exact HB.out)) hb); clear HO_3; clear HO_4; clear HB; have HO_3 := n0_; have HO_4 := n1_; have HB := n2_; clear n0_ n1_ n2_; (try clear hb); (try clear hb2); (try clear hk); (try clear hi)) | (go_at_call 24; (with_reducible refine (runes_Lines.calls a0 t320 _ A23.out).mono ?_); rintro e w25 ⟨rfl, hb⟩; have n0_ := Aside0.mk (Kd.R_below (by (with_reducible repeat (first | apply Kd.R_alloc | apply Kd.R_drewN | apply Kd.R_drew)); exact HO_3.out) hb); have n1_ := Aside0.mk (Kd.R_below (by (with_reducible repeat (first | apply Kd.R_alloc | apply Kd.R_drewN | apply Kd.R_drew)); exact HO_4.out) hb); have n2_ := Aside0.mk (below_step (by repeat (first | (with_reducible first | exact HB.out | apply below_alloc | apply pw_below_drewN | apply below_drew1) | exact HB.out)) hb); clear HO_3; clear HO_4; clear HB; have HO_3 := n0_; have HO_4 := n1_; have HB := n2_; clear n0_ n1_ n2_; (try clear hb); (try clear hb2); (try clear hk); (try clear hi)))
                go_meet
                case rel => exact ⟨_, ((t320 != x10_1)), (by first | rfl | (simp; done) | (simp [*]; done)), H', ⟨by have := HK1.out; first | omega | exact Nat.le_refl _⟩, ⟨by (with_reducible repeat (first | apply Kd.R_alloc | apply Kd.R_drewN | apply Kd.R_drew)); exact HO_3.out⟩, ⟨by (with_reducible repeat (first | apply Kd.R_alloc | apply Kd.R_drewN | apply Kd.R_drew)); exact HO_4.out⟩, ⟨by repeat (first | (with_reducible first | exact HB.out | apply below_alloc | apply pw_below_drewN | apply below_drew1) | exact HB.out)⟩⟩
              · rw [if_neg c22] at H
                have c22b0 : (t319 == (t307.length : Int)) = false := beq_eq_false_iff_ne.mpr c22
                have c22b1 : (t319 != (t307.length : Int)) = true := bne_iff_ne.mpr c22
                (first | rw [c22b0] | (simp only [i64_w, i32_w]; rw [c22b0]) | skip)
                have H' := Aside0.mk H
                clear H
                go_wp2_with (first | ((with_reducible refine gate_callee (f := 22) rfl ?_); refine goesL_ (some 47) rfl rfl Try.func22 (by kernel_rfl) rfl #[.string a0] rfl (by (try simp only [List.map_toArray, List.map_cons, List.map_nil]); first | done | rfl | (simp only [List.length_drop, List.length_take]; rfl)) ?_; (with_reducible refine (runes_Count.calls a0 t319 _ A21.out).mono ?_); rintro e w26 ⟨rfl, hb⟩; refine ⟨_, rfl, ?_⟩; have n0_ := Aside0.mk (Kd.R_below (by (with_reducible repeat (first | apply Kd.R_alloc | apply Kd.R_drewN | apply Kd.R_drew)); exact HO_3.out) hb); have n1_ := Aside0.mk (Kd.R_below (by (with_reducible repeat (first | apply Kd.R_alloc | apply Kd.R_drewN | apply Kd.R_drew)); exact HO_4.out) hb); have n2_ := Aside0.mk (below_step (by repeat (first | (with_reducible first | exact HB.out | apply below_alloc | apply pw_below_drewN | apply below_drew1) | exact HB.out)) hb); clear HO_3; clear HO_4; clear HB; have HO_3 := n0_; have HO_4 := n1_; have HB := n2_; clear n0_ n1_ n2_; (try clear hb); (try clear hb2); (try clear hk); (try clear hi)))
                go_meet
                case rel => exact ⟨_, (true), (by first | rfl | (simp; done) | (simp [*]; done)), H', ⟨by have := HK1.out; first | omega | exact Nat.le_refl _⟩, ⟨by (with_reducible repeat (first | apply Kd.R_alloc | apply Kd.R_drewN | apply Kd.R_drew)); exact HO_3.out⟩, ⟨by (with_reducible repeat (first | apply Kd.R_alloc | apply Kd.R_drewN | apply Kd.R_drew)); exact HO_4.out⟩, ⟨by repeat (first | (with_reducible first | exact HB.out | apply below_alloc | apply pw_below_drewN | apply below_drew1) | exact HB.out)⟩⟩
            case rest =>
              clear HC19
              try clear c1
              try clear c2
              try clear p2
              try clear c3
              try clear p3
              try clear q3
              try clear hx3
              try clear p6
              try clear c7
              try clear c7b0
              try clear c11
              try clear c12
              try clear c14
              try clear c14b0
              try clear c15
              try clear c15b0
              try clear c16
              try clear c16b0
              try clear c16b1
              try clear c18
              try clear c22
              try clear c22b0
              try clear c22b1
              try clear hx318_0
              try clear p2
              try clear p318
              try clear q318
              obtain ⟨kq, x56_18, rfl, HA, HJ18, HO_3, HO_4, HB⟩ := hcut
              cases kq with
              | zero => exact absurd HA.out (by simp [regletlaw02_RunesEnds.j1])
              | succ kj18 =>
                have H := HA.out
                clear HA
                simp only [regletlaw02_RunesEnds.j1] at H
                by_cases c27 : x56_18 = true
                · subst c27
                  have H1 : (some false) = some r := by rw [if_pos rfl] at H; exact H
                  clear H
                  have H := H1
                  clear H1
                  obtain rfl := Option.some.inj H
                  go_wp2
                  go_ret
                  exact ⟨by first | rfl | (simp [errW_none, errW_some] <;> rfl) | (simp [*, errW_none, errW_some] <;> rfl), by repeat (first | (with_reducible first | exact HB.out | apply below_alloc | apply pw_below_drewN | apply below_drew1) | exact HB.out)⟩
                · replace c27 := Bool.eq_false_iff.mpr c27
                  subst c27
                  have H1 : (if (t307.length : Int) = 0 then (if t314 = 0 then (if t316 = 0 then (if t315 = 0 then (some (t317 == 0)) else (some false)) else (some false)) else (some false)) else (if 0 < (t307.length : Int) then (if (wrap64 (t314)) = (rd t307 0) then (if 0 ≤ (wrap64 ((t307.length : Int) - 1)) then (if (wrap64 ((t307.length : Int) - 1)) < (t307.length : Int) then (if (wrap64 (t316)) = (rd t307 (wrap64 ((t307.length : Int) - 1))) then (if (wrap64 ((t307.length : Int) - 1)) < (t308.length : Int) then (if t317 = (wrap64 ((a0.size : Int) - (rd t308 (wrap64 ((t307.length : Int) - 1))))) then (if (wrap64 ((t307.length : Int) - 1)) = 0 then (if t315 = (a0.size : Int) then (some true) else (if (wrap64 ((t307.length : Int) - 1)) > 0 then (if 1 < (t308.length : Int) then (some (t315 == (rd t308 1))) else (none)) else (some false))) else (if (wrap64 ((t307.length : Int) - 1)) > 0 then (if 1 < (t308.length : Int) then (some (t315 == (rd t308 1))) else (none)) else (some false))) else (some false)) else (none)) else (some false)) else (none)) else (none)) else (some false)) else (none))) = some r := by rw [if_neg (show ¬ (false = true) by decide)] at H; exact H
                  clear H
                  have H := H1
                  clear H1
                  by_cases c28 : (t307.length : Int) = 0
                  · rw [if_pos c28] at H
                    have c28b0 : ((t307.length : Int) == 0) = true := beq_iff_eq.mpr c28
                    have c28b1 : ((t307.length : Int) != 0) = false := bne_eq_false_iff_eq.mpr c28
                    clear c28
                    by_cases c29 : t314 = 0
                    · rw [if_pos c29] at H
                      have c29b0 : (t314 == 0) = true := beq_iff_eq.mpr c29
                      have c29b1 : (t314 != 0) = false := bne_eq_false_iff_eq.mpr c29
                      clear c29
                      by_cases c30 : t316 = 0
                      · rw [if_pos c30] at H
                        have c30b0 : (t316 == 0) = true := beq_iff_eq.mpr c30
                        have c30b1 : (t316 != 0) = false := bne_eq_false_iff_eq.mpr c30
                        clear c30
                        by_cases c31 : t315 = 0
                        · rw [if_pos c31] at H
                          have c31b0 : (t315 == 0) = true := beq_iff_eq.mpr c31
                          have c31b1 : (t315 != 0) = false := bne_eq_false_iff_eq.mpr c31
                          clear c31
                          obtain rfl := Option.some.inj H
                          go_wp2
                          go_ret
                          exact ⟨by first | rfl | (simp [errW_none, errW_some] <;> rfl) | (simp [*, errW_none, errW_some] <;> rfl), by repeat (first | (with_reducible first | exact HB.out | apply below_alloc | apply pw_below_drewN | apply below_drew1) | exact HB.out)⟩
                        · rw [if_neg c31] at H
                          have c31b0 : (t315 == 0) = false := beq_eq_false_iff_ne.mpr c31
                          have c31b1 : (t315 != 0) = true := bne_iff_ne.mpr c31
                          obtain rfl := Option.some.inj H
                          go_wp2
                          go_ret
                          exact ⟨by first | rfl | (simp [errW_none, errW_some] <;> rfl) | (simp [*, errW_none, errW_some] <;> rfl), by repeat (first | (with_reducible first | exact HB.out | apply below_alloc | apply pw_below_drewN | apply below_drew1) | exact HB.out)⟩
                      · rw [if_neg c30] at H
                        have c30b0 : (t316 == 0) = false := beq_eq_false_iff_ne.mpr c30
                        have c30b1 : (t316 != 0) = true := bne_iff_ne.mpr c30
                        obtain rfl := Option.some.inj H
                        go_wp2
                        go_ret
                        exact ⟨by first | rfl | (simp [errW_none, errW_some] <;> rfl) | (simp [*, errW_none, errW_some] <;> rfl), by repeat (first | (with_reducible first | exact HB.out | apply below_alloc | apply pw_below_drewN | apply below_drew1) | exact HB.out)⟩
                    · rw [if_neg c29] at H
                      have c29b0 : (t314 == 0) = false := beq_eq_false_iff_ne.mpr c29
                      have c29b1 : (t314 != 0) = true := bne_iff_ne.mpr c29
                      obtain rfl := Option.some.inj H
                      go_wp2
                      go_ret
                      exact ⟨by first | rfl | (simp [errW_none, errW_some] <;> rfl) | (simp [*, errW_none, errW_some] <;> rfl), by repeat (first | (with_reducible first | exact HB.out | apply below_alloc | apply pw_below_drewN | apply below_drew1) | exact HB.out)⟩
                  · rw [if_neg c28] at H
                    have c28b0 : ((t307.length : Int) == 0) = false := beq_eq_false_iff_ne.mpr c28
                    have c28b1 : ((t307.length : Int) != 0) = true := bne_iff_ne.mpr c28
                    have c28b2 : ¬ (t307 = []) := fun h_ => c28 (by rw [h_]; rfl)
                    by_cases c32 : 0 < (t307.length : Int)
                    · rw [if_pos c32] at H
                      have c32b0 : decide (0 < (t307.length : Int)) = true := decide_eq_true c32
                      have c32b1 : decide (0 < t307.length) = true := decide_eq_true (by omega)
                      clear c32
                      by_cases c33 : (wrap64 (t314)) = (rd t307 0)
                      · rw [if_pos c33] at H
                        have c33b0 : ((wrap64 (t314)) == (rd t307 0)) = true := beq_iff_eq.mpr c33
                        have c33b1 : ((wrap64 (t314)) != (rd t307 0)) = false := bne_eq_false_iff_eq.mpr c33
                        clear c33
                        obtain ⟨ji34, hji34⟩ : ∃ j_ : Int, (wrap64 ((t307.length : Int) - 1)) = j_ := ⟨_, rfl⟩
                        replace H : (if 0 ≤ (ji34) then (if (ji34) < (t307.length : Int) then (if (wrap64 (t316)) = (rd t307 (ji34)) then (if (ji34) < (t308.length : Int) then (if t317 = (wrap64 ((a0.size : Int) - (rd t308 (ji34)))) then (if (ji34) = 0 then (if t315 = (a0.size : Int) then (some true) else (if (ji34) > 0 then (if 1 < (t308.length : Int) then (some (t315 == (rd t308 1))) else (none)) else (some false))) else (if (ji34) > 0 then (if 1 < (t308.length : Int) then (some (t315 == (rd t308 1))) else (none)) else (some false))) else (some false)) else (none)) else (some false)) else (none)) else (none)) = some r := by first | (rw [hji34] at H; exact H) | (simp only [hji34] at H ⊢; exact H)
                        have hji34w : (IntKind.i64.wrap ((t307.length : Int) - 1)) = ji34 := (i64_w _).trans hji34
                        by_cases c35 : 0 ≤ (ji34)
                        · rw [if_pos c35] at H
                          have c35b0 : decide (0 ≤ (ji34)) = true := decide_eq_true c35
                          clear c35
                          by_cases c36 : (ji34) < (t307.length : Int)
                          · rw [if_pos c36] at H
                            have c36b0 : decide ((ji34) < (t307.length : Int)) = true := decide_eq_true c36
                            clear c36
                            by_cases c37 : (wrap64 (t316)) = (rd t307 (ji34))
                            · rw [if_pos c37] at H
                              have c37b0 : ((wrap64 (t316)) == (rd t307 (ji34))) = true := beq_iff_eq.mpr c37
                              have c37b1 : ((wrap64 (t316)) != (rd t307 (ji34))) = false := bne_eq_false_iff_eq.mpr c37
                              clear c37
                              by_cases c38 : (ji34) < (t308.length : Int)
                              · rw [if_pos c38] at H
                                have c38b0 : decide ((ji34) < (t308.length : Int)) = true := decide_eq_true c38
                                clear c38
                                by_cases c39 : t317 = (wrap64 ((a0.size : Int) - (rd t308 (ji34))))
                                · rw [if_pos c39] at H
                                  have c39b0 : (t317 == (wrap64 ((a0.size : Int) - (rd t308 (ji34))))) = true := beq_iff_eq.mpr c39
                                  have c39b1 : (t317 != (wrap64 ((a0.size : Int) - (rd t308 (ji34))))) = false := bne_eq_false_iff_eq.mpr c39
                                  clear c39
                                  by_cases c40 : (ji34) = 0
                                  · rw [if_pos c40] at H
                                    have c40b0 : ((ji34) == 0) = true := beq_iff_eq.mpr c40
                                    have c40b1 : ((ji34) != 0) = false := bne_eq_false_iff_eq.mpr c40
                                    clear c40
                                    by_cases c41 : t315 = (a0.size : Int)
                                    · rw [if_pos c41] at H
                                      have c41b0 : (t315 == (a0.size : Int)) = true := beq_iff_eq.mpr c41
                                      have c41b1 : (t315 != (a0.size : Int)) = false := bne_eq_false_iff_eq.mpr c41
                                      clear c41
                                      obtain rfl := Option.some.inj H
                                      have p321 : 0 ≤ (0 : Int) := (by omega)
                                      have q321 : 0 < (t307.length : Int) := of_decide_eq_true (by first | (with_reducible assumption) | assumption)
                                      obtain ⟨ad321, e321, hx321_0⟩ := Kd.at_int (Kd.R_reads' HO_3.out).2.2 0 p321 q321
                                      cases e321
                                      have qi321 : (0 < t307.length) = True := eq_true (by omega)
                                      (try rw [show ((0 : Int)).toNat = 0 from rfl] at hx321_0)
                                      (try rw [Addr.add_zero'] at hx321_0)
                                      replace p321 := eq_true p321
                                      replace q321 := eq_true q321
                                      have p322 : 0 ≤ ((ji34) : Int) := of_decide_eq_true (by first | (with_reducible assumption) | assumption)
                                      have q322 : (ji34) < (t307.length : Int) := of_decide_eq_true (by first | (with_reducible assumption) | assumption)
                                      obtain ⟨ad322, e322, hx322_0⟩ := Kd.at_int (Kd.R_reads' HO_3.out).2.2 (ji34) p322 q322
                                      obtain rfl : ad321 = ad322 := (by injection e322)
                                      replace p322 := eq_true p322
                                      replace q322 := eq_true q322
                                      obtain ⟨Ao42, co42, eo42⟩ := Kd.R_slice HO_4.out
                                      subst eo42
                                      have p323 : 0 ≤ ((ji34) : Int) := of_decide_eq_true (by first | (with_reducible assumption) | assumption)
                                      have q323 : (ji34) < (t308.length : Int) := of_decide_eq_true (by first | (with_reducible assumption) | assumption)
                                      obtain ⟨ad323, e323, hx323_0⟩ := Kd.at_int (Kd.R_reads' HO_4.out).2.2 (ji34) p323 q323
                                      cases e323
                                      replace p323 := eq_true p323
                                      replace q323 := eq_true q323
                                      go_wp2
                                      go_ret
                                      exact ⟨by first | rfl | (simp [errW_none, errW_some] <;> rfl) | (simp only [← hji34]; first | rfl | (simp [errW_none, errW_some] <;> rfl)) | (simp [*, errW_none, errW_some] <;> rfl), by repeat (first | (with_reducible first | exact HB.out | apply below_alloc | apply pw_below_drewN | apply below_drew1) | exact HB.out)⟩
                                    · rw [if_neg c41] at H
                                      have c41b0 : (t315 == (a0.size : Int)) = false := beq_eq_false_iff_ne.mpr c41
                                      have c41b1 : (t315 != (a0.size : Int)) = true := bne_iff_ne.mpr c41
                                      by_cases c43 : (ji34) > 0
                                      · rw [if_pos c43] at H
                                        have c43b0 : decide (0 < (ji34)) = true := decide_eq_true c43
                                        clear c43
                                        by_cases c44 : 1 < (t308.length : Int)
                                        · rw [if_pos c44] at H
                                          have c44b0 : decide (1 < (t308.length : Int)) = true := decide_eq_true c44
                                          have c44b1 : decide (1 < t308.length) = true := decide_eq_true (by omega)
                                          clear c44
                                          obtain rfl := Option.some.inj H
                                          have p321 : 0 ≤ (0 : Int) := (by omega)
                                          have q321 : 0 < (t307.length : Int) := of_decide_eq_true (by first | (with_reducible assumption) | assumption)
                                          obtain ⟨ad321, e321, hx321_0⟩ := Kd.at_int (Kd.R_reads' HO_3.out).2.2 0 p321 q321
                                          cases e321
                                          have qi321 : (0 < t307.length) = True := eq_true (by omega)
                                          (try rw [show ((0 : Int)).toNat = 0 from rfl] at hx321_0)
                                          (try rw [Addr.add_zero'] at hx321_0)
                                          replace p321 := eq_true p321
                                          replace q321 := eq_true q321
                                          have p322 : 0 ≤ ((ji34) : Int) := of_decide_eq_true (by first | (with_reducible assumption) | assumption)
                                          have q322 : (ji34) < (t307.length : Int) := of_decide_eq_true (by first | (with_reducible assumption) | assumption)
                                          obtain ⟨ad322, e322, hx322_0⟩ := Kd.at_int (Kd.R_reads' HO_3.out).2.2 (ji34) p322 q322
                                          obtain rfl : ad321 = ad322 := (by injection e322)
                                          replace p322 := eq_true p322
                                          replace q322 := eq_true q322
                                          obtain ⟨Ao45, co45, eo45⟩ := Kd.R_slice HO_4.out
                                          subst eo45
                                          have p323 : 0 ≤ ((ji34) : Int) := of_decide_eq_true (by first | (with_reducible assumption) | assumption)
                                          have q323 : (ji34) < (t308.length : Int) := of_decide_eq_true (by first | (with_reducible assumption) | assumption)
                                          obtain ⟨ad323, e323, hx323_0⟩ := Kd.at_int (Kd.R_reads' HO_4.out).2.2 (ji34) p323 q323
                                          cases e323
                                          replace p323 := eq_true p323
                                          replace q323 := eq_true q323
                                          have p324 : 0 ≤ (1 : Int) := (by omega)
                                          have q324 : 1 < (t308.length : Int) := of_decide_eq_true (by first | (with_reducible assumption) | assumption)
                                          obtain ⟨ad324, e324, hx324_0⟩ := Kd.at_int (Kd.R_reads' HO_4.out).2.2 1 p324 q324
                                          obtain rfl : ad323 = ad324 := (by injection e324)
                                          (try simp only [show (1 : Int).toNat = 1 from rfl, Nat.reduceMul, Nat.reduceEqDiff, Go.Addr.add, ↓reduceIte] at hx324_0)
                                          have qi324 : (1 < t308.length) = True := eq_true (by omega)
                                          (try rw [show ((1 : Int)).toNat = 1 from rfl] at hx324_0)
                                          replace p324 := eq_true p324
                                          replace q324 := eq_true q324
                                          go_wp2
                                          go_ret
                                          exact ⟨by first | rfl | (simp [errW_none, errW_some] <;> rfl) | (simp only [← hji34]; first | rfl | (simp [errW_none, errW_some] <;> rfl)) | (simp [*, errW_none, errW_some] <;> rfl), by repeat (first | (with_reducible first | exact HB.out | apply below_alloc | apply pw_below_drewN | apply below_drew1) | exact HB.out)⟩
                                        · rw [if_neg c44] at H
                                          exact absurd H (by simp)
                                      · rw [if_neg c43] at H
                                        have c43b0 : decide (0 < (ji34)) = false := decide_eq_false c43
                                        clear c43
                                        obtain rfl := Option.some.inj H
                                        have p321 : 0 ≤ (0 : Int) := (by omega)
                                        have q321 : 0 < (t307.length : Int) := of_decide_eq_true (by first | (with_reducible assumption) | assumption)
                                        obtain ⟨ad321, e321, hx321_0⟩ := Kd.at_int (Kd.R_reads' HO_3.out).2.2 0 p321 q321
                                        cases e321
                                        have qi321 : (0 < t307.length) = True := eq_true (by omega)
                                        (try rw [show ((0 : Int)).toNat = 0 from rfl] at hx321_0)
                                        (try rw [Addr.add_zero'] at hx321_0)
                                        replace p321 := eq_true p321
                                        replace q321 := eq_true q321
                                        have p322 : 0 ≤ ((ji34) : Int) := of_decide_eq_true (by first | (with_reducible assumption) | assumption)
                                        have q322 : (ji34) < (t307.length : Int) := of_decide_eq_true (by first | (with_reducible assumption) | assumption)
                                        obtain ⟨ad322, e322, hx322_0⟩ := Kd.at_int (Kd.R_reads' HO_3.out).2.2 (ji34) p322 q322
                                        obtain rfl : ad321 = ad322 := (by injection e322)
                                        replace p322 := eq_true p322
                                        replace q322 := eq_true q322
                                        obtain ⟨Ao46, co46, eo46⟩ := Kd.R_slice HO_4.out
                                        subst eo46
                                        have p323 : 0 ≤ ((ji34) : Int) := of_decide_eq_true (by first | (with_reducible assumption) | assumption)
                                        have q323 : (ji34) < (t308.length : Int) := of_decide_eq_true (by first | (with_reducible assumption) | assumption)
                                        obtain ⟨ad323, e323, hx323_0⟩ := Kd.at_int (Kd.R_reads' HO_4.out).2.2 (ji34) p323 q323
                                        cases e323
                                        replace p323 := eq_true p323
                                        replace q323 := eq_true q323
                                        go_wp2
                                        go_ret
                                        exact ⟨by first | rfl | (simp [errW_none, errW_some] <;> rfl) | (simp only [← hji34]; first | rfl | (simp [errW_none, errW_some] <;> rfl)) | (simp [*, errW_none, errW_some] <;> rfl), by repeat (first | (with_reducible first | exact HB.out | apply below_alloc | apply pw_below_drewN | apply below_drew1) | exact HB.out)⟩
                                  · rw [if_neg c40] at H
                                    have c40b0 : ((ji34) == 0) = false := beq_eq_false_iff_ne.mpr c40
                                    have c40b1 : ((ji34) != 0) = true := bne_iff_ne.mpr c40
                                    by_cases c47 : (ji34) > 0
                                    · rw [if_pos c47] at H
                                      have c47b0 : decide (0 < (ji34)) = true := decide_eq_true c47
                                      clear c47
                                      by_cases c48 : 1 < (t308.length : Int)
                                      · rw [if_pos c48] at H
                                        have c48b0 : decide (1 < (t308.length : Int)) = true := decide_eq_true c48
                                        have c48b1 : decide (1 < t308.length) = true := decide_eq_true (by omega)
                                        clear c48
                                        obtain rfl := Option.some.inj H
                                        have p321 : 0 ≤ (0 : Int) := (by omega)
                                        have q321 : 0 < (t307.length : Int) := of_decide_eq_true (by first | (with_reducible assumption) | assumption)
                                        obtain ⟨ad321, e321, hx321_0⟩ := Kd.at_int (Kd.R_reads' HO_3.out).2.2 0 p321 q321
                                        cases e321
                                        have qi321 : (0 < t307.length) = True := eq_true (by omega)
                                        (try rw [show ((0 : Int)).toNat = 0 from rfl] at hx321_0)
                                        (try rw [Addr.add_zero'] at hx321_0)
                                        replace p321 := eq_true p321
                                        replace q321 := eq_true q321
                                        have p322 : 0 ≤ ((ji34) : Int) := of_decide_eq_true (by first | (with_reducible assumption) | assumption)
                                        have q322 : (ji34) < (t307.length : Int) := of_decide_eq_true (by first | (with_reducible assumption) | assumption)
                                        obtain ⟨ad322, e322, hx322_0⟩ := Kd.at_int (Kd.R_reads' HO_3.out).2.2 (ji34) p322 q322
                                        obtain rfl : ad321 = ad322 := (by injection e322)
                                        replace p322 := eq_true p322
                                        replace q322 := eq_true q322
                                        obtain ⟨Ao49, co49, eo49⟩ := Kd.R_slice HO_4.out
                                        subst eo49
                                        have p323 : 0 ≤ ((ji34) : Int) := of_decide_eq_true (by first | (with_reducible assumption) | assumption)
                                        have q323 : (ji34) < (t308.length : Int) := of_decide_eq_true (by first | (with_reducible assumption) | assumption)
                                        obtain ⟨ad323, e323, hx323_0⟩ := Kd.at_int (Kd.R_reads' HO_4.out).2.2 (ji34) p323 q323
                                        cases e323
                                        replace p323 := eq_true p323
                                        replace q323 := eq_true q323
                                        have p325 : 0 ≤ (1 : Int) := (by omega)
                                        have q325 : 1 < (t308.length : Int) := of_decide_eq_true (by first | (with_reducible assumption) | assumption)
                                        obtain ⟨ad325, e325, hx325_0⟩ := Kd.at_int (Kd.R_reads' HO_4.out).2.2 1 p325 q325
                                        obtain rfl : ad323 = ad325 := (by injection e325)
                                        (try simp only [show (1 : Int).toNat = 1 from rfl, Nat.reduceMul, Nat.reduceEqDiff, Go.Addr.add, ↓reduceIte] at hx325_0)
                                        have qi325 : (1 < t308.length) = True := eq_true (by omega)
                                        (try rw [show ((1 : Int)).toNat = 1 from rfl] at hx325_0)
                                        replace p325 := eq_true p325
                                        replace q325 := eq_true q325
                                        go_wp2
                                        go_ret
                                        exact ⟨by first | rfl | (simp [errW_none, errW_some] <;> rfl) | (simp only [← hji34]; first | rfl | (simp [errW_none, errW_some] <;> rfl)) | (simp [*, errW_none, errW_some] <;> rfl), by repeat (first | (with_reducible first | exact HB.out | apply below_alloc | apply pw_below_drewN | apply below_drew1) | exact HB.out)⟩
                                      · rw [if_neg c48] at H
                                        exact absurd H (by simp)
                                    · rw [if_neg c47] at H
                                      have c47b0 : decide (0 < (ji34)) = false := decide_eq_false c47
                                      clear c47
                                      obtain rfl := Option.some.inj H
                                      have p321 : 0 ≤ (0 : Int) := (by omega)
                                      have q321 : 0 < (t307.length : Int) := of_decide_eq_true (by first | (with_reducible assumption) | assumption)
                                      obtain ⟨ad321, e321, hx321_0⟩ := Kd.at_int (Kd.R_reads' HO_3.out).2.2 0 p321 q321
                                      cases e321
                                      have qi321 : (0 < t307.length) = True := eq_true (by omega)
                                      (try rw [show ((0 : Int)).toNat = 0 from rfl] at hx321_0)
                                      (try rw [Addr.add_zero'] at hx321_0)
                                      replace p321 := eq_true p321
                                      replace q321 := eq_true q321
                                      have p322 : 0 ≤ ((ji34) : Int) := of_decide_eq_true (by first | (with_reducible assumption) | assumption)
                                      have q322 : (ji34) < (t307.length : Int) := of_decide_eq_true (by first | (with_reducible assumption) | assumption)
                                      obtain ⟨ad322, e322, hx322_0⟩ := Kd.at_int (Kd.R_reads' HO_3.out).2.2 (ji34) p322 q322
                                      obtain rfl : ad321 = ad322 := (by injection e322)
                                      replace p322 := eq_true p322
                                      replace q322 := eq_true q322
                                      obtain ⟨Ao50, co50, eo50⟩ := Kd.R_slice HO_4.out
                                      subst eo50
                                      have p323 : 0 ≤ ((ji34) : Int) := of_decide_eq_true (by first | (with_reducible assumption) | assumption)
                                      have q323 : (ji34) < (t308.length : Int) := of_decide_eq_true (by first | (with_reducible assumption) | assumption)
                                      obtain ⟨ad323, e323, hx323_0⟩ := Kd.at_int (Kd.R_reads' HO_4.out).2.2 (ji34) p323 q323
                                      cases e323
                                      replace p323 := eq_true p323
                                      replace q323 := eq_true q323
                                      go_wp2
                                      go_ret
                                      exact ⟨by first | rfl | (simp [errW_none, errW_some] <;> rfl) | (simp only [← hji34]; first | rfl | (simp [errW_none, errW_some] <;> rfl)) | (simp [*, errW_none, errW_some] <;> rfl), by repeat (first | (with_reducible first | exact HB.out | apply below_alloc | apply pw_below_drewN | apply below_drew1) | exact HB.out)⟩
                                · rw [if_neg c39] at H
                                  have c39b0 : (t317 == (wrap64 ((a0.size : Int) - (rd t308 (ji34))))) = false := beq_eq_false_iff_ne.mpr c39
                                  have c39b1 : (t317 != (wrap64 ((a0.size : Int) - (rd t308 (ji34))))) = true := bne_iff_ne.mpr c39
                                  obtain rfl := Option.some.inj H
                                  have p321 : 0 ≤ (0 : Int) := (by omega)
                                  have q321 : 0 < (t307.length : Int) := of_decide_eq_true (by first | (with_reducible assumption) | assumption)
                                  obtain ⟨ad321, e321, hx321_0⟩ := Kd.at_int (Kd.R_reads' HO_3.out).2.2 0 p321 q321
                                  cases e321
                                  have qi321 : (0 < t307.length) = True := eq_true (by omega)
                                  (try rw [show ((0 : Int)).toNat = 0 from rfl] at hx321_0)
                                  (try rw [Addr.add_zero'] at hx321_0)
                                  replace p321 := eq_true p321
                                  replace q321 := eq_true q321
                                  have p322 : 0 ≤ ((ji34) : Int) := of_decide_eq_true (by first | (with_reducible assumption) | assumption)
                                  have q322 : (ji34) < (t307.length : Int) := of_decide_eq_true (by first | (with_reducible assumption) | assumption)
                                  obtain ⟨ad322, e322, hx322_0⟩ := Kd.at_int (Kd.R_reads' HO_3.out).2.2 (ji34) p322 q322
                                  obtain rfl : ad321 = ad322 := (by injection e322)
                                  replace p322 := eq_true p322
                                  replace q322 := eq_true q322
                                  obtain ⟨Ao51, co51, eo51⟩ := Kd.R_slice HO_4.out
                                  subst eo51
                                  have p323 : 0 ≤ ((ji34) : Int) := of_decide_eq_true (by first | (with_reducible assumption) | assumption)
                                  have q323 : (ji34) < (t308.length : Int) := of_decide_eq_true (by first | (with_reducible assumption) | assumption)
                                  obtain ⟨ad323, e323, hx323_0⟩ := Kd.at_int (Kd.R_reads' HO_4.out).2.2 (ji34) p323 q323
                                  cases e323
                                  replace p323 := eq_true p323
                                  replace q323 := eq_true q323
                                  go_wp2
                                  go_ret
                                  exact ⟨by first | rfl | (simp [errW_none, errW_some] <;> rfl) | (simp only [← hji34]; first | rfl | (simp [errW_none, errW_some] <;> rfl)) | (simp [*, errW_none, errW_some] <;> rfl), by repeat (first | (with_reducible first | exact HB.out | apply below_alloc | apply pw_below_drewN | apply below_drew1) | exact HB.out)⟩
                              · rw [if_neg c38] at H
                                exact absurd H (by simp)
                            · rw [if_neg c37] at H
                              have c37b0 : ((wrap64 (t316)) == (rd t307 (ji34))) = false := beq_eq_false_iff_ne.mpr c37
                              have c37b1 : ((wrap64 (t316)) != (rd t307 (ji34))) = true := bne_iff_ne.mpr c37
                              obtain rfl := Option.some.inj H
                              have p321 : 0 ≤ (0 : Int) := (by omega)
                              have q321 : 0 < (t307.length : Int) := of_decide_eq_true (by first | (with_reducible assumption) | assumption)
                              obtain ⟨ad321, e321, hx321_0⟩ := Kd.at_int (Kd.R_reads' HO_3.out).2.2 0 p321 q321
                              cases e321
                              have qi321 : (0 < t307.length) = True := eq_true (by omega)
                              (try rw [show ((0 : Int)).toNat = 0 from rfl] at hx321_0)
                              (try rw [Addr.add_zero'] at hx321_0)
                              replace p321 := eq_true p321
                              replace q321 := eq_true q321
                              have p322 : 0 ≤ ((ji34) : Int) := of_decide_eq_true (by first | (with_reducible assumption) | assumption)
                              have q322 : (ji34) < (t307.length : Int) := of_decide_eq_true (by first | (with_reducible assumption) | assumption)
                              obtain ⟨ad322, e322, hx322_0⟩ := Kd.at_int (Kd.R_reads' HO_3.out).2.2 (ji34) p322 q322
                              obtain rfl : ad321 = ad322 := (by injection e322)
                              replace p322 := eq_true p322
                              replace q322 := eq_true q322
                              go_wp2
                              go_ret
                              exact ⟨by first | rfl | (simp [errW_none, errW_some] <;> rfl) | (simp only [← hji34]; first | rfl | (simp [errW_none, errW_some] <;> rfl)) | (simp [*, errW_none, errW_some] <;> rfl), by repeat (first | (with_reducible first | exact HB.out | apply below_alloc | apply pw_below_drewN | apply below_drew1) | exact HB.out)⟩
                          · rw [if_neg c36] at H
                            exact absurd H (by simp)
                        · rw [if_neg c35] at H
                          exact absurd H (by simp)
                      · rw [if_neg c33] at H
                        have c33b0 : ((wrap64 (t314)) == (rd t307 0)) = false := beq_eq_false_iff_ne.mpr c33
                        have c33b1 : ((wrap64 (t314)) != (rd t307 0)) = true := bne_iff_ne.mpr c33
                        obtain rfl := Option.some.inj H
                        have p321 : 0 ≤ (0 : Int) := (by omega)
                        have q321 : 0 < (t307.length : Int) := of_decide_eq_true (by first | (with_reducible assumption) | assumption)
                        obtain ⟨ad321, e321, hx321_0⟩ := Kd.at_int (Kd.R_reads' HO_3.out).2.2 0 p321 q321
                        cases e321
                        have qi321 : (0 < t307.length) = True := eq_true (by omega)
                        (try rw [show ((0 : Int)).toNat = 0 from rfl] at hx321_0)
                        (try rw [Addr.add_zero'] at hx321_0)
                        replace p321 := eq_true p321
                        replace q321 := eq_true q321
                        go_wp2
                        go_ret
                        exact ⟨by first | rfl | (simp [errW_none, errW_some] <;> rfl) | (simp [*, errW_none, errW_some] <;> rfl), by repeat (first | (with_reducible first | exact HB.out | apply below_alloc | apply pw_below_drewN | apply below_drew1) | exact HB.out)⟩
                    · rw [if_neg c32] at H
                      exact absurd H (by simp)
  · replace c3 := Bool.eq_false_iff.mpr c3
    subst c3
    have H1 : (some false) = some r := by rw [if_neg (show ¬ (false = true) by decide)] at H; exact H
    clear H
    have H := H1
    clear H1
    obtain rfl := Option.some.inj H
    go_enter Try.func11, Try.ntmps11
    go_wp2_with (first | ((with_reducible refine gate_callee (f := 12) rfl ?_); refine goesL_ (some 13) rfl rfl Try.func12 (by kernel_rfl) rfl #[] rfl (by (try simp only [List.map_toArray, List.map_cons, List.map_nil]); first | done | rfl | (simp only [List.length_drop, List.length_take]; rfl)) ?_; (with_reducible refine (regletlaw02_awake.calls k  false _ A2.out).mono ?_); rintro e w' ⟨rfl, ⟨nd, rfl⟩⟩; refine ⟨_, rfl, ?_⟩))
    go_ret
    exact ⟨by first | rfl | (simp [errW_none, errW_some] <;> rfl) | (simp [*, errW_none, errW_some] <;> rfl), by repeat (first | (with_reducible first | exact HB.out | apply below_alloc | apply pw_below_drewN | apply below_drew1) | exact HB.out)⟩

/-- THE ONE PURE STATEMENT of regletlaw02_RunesEnds: yours. -/
def regletlaw02_RunesEnds.Pure : Prop := ∀ (a0 : ByteArray), a0.size ≤ 140737488351232 → ∃ k, regletlaw02_RunesEnds.f k a0 = some true
theorem regletlaw02_RunesEnds.walk (P : regletlaw02_RunesEnds.Pure) (a0 : ByteArray) (w : World) (w0 : a0.size ≤ 140737488351232) :
    Calls Try.prog 11 #[.string a0] w fun e w' => e = .returned (.bool true) ∧ Below w.heap.size w w' := by
  obtain ⟨k, h⟩ := P a0 w0
  refine (regletlaw02_RunesEnds.calls k a0 true w h).mono ?_
  rintro e w' ⟨rfl, hd⟩
  exact ⟨rfl, hd⟩

end Go.Proofs.Ytbbnhameafolgaa.PAll
