/- The walk of RunsSame. -/
import Derived.Test.YtkliboeebookeaaProg
import Derived.Test.YtkliboeebookeaaSxGlue
import Derived.Test.YtkliboeebookeaaSxKinds
import Derived.Test.YtkliboeebookeaaRunsTh
import Derived.Test.YtkliboeebookeaaSxRuns
import Derived.Test.YtkliboeebookeaaSxRunsB
import Derived.Test.YtkliboeebookeaaSxRef
import Derived.Test.YtkliboeebookeaaSxPlain
import Derived.Test.YtkliboeebookeaaSxPlainB
import Derived.Test.YtkliboeebookeaaSxPlay
import Derived.Test.YtkliboeebookeaaSxAwake
namespace Go.Proofs.Ytkliboeebookeaa.Runs.L
open Go Go.RowKit Go.Proofs.YtkliboeebookeaaW.PrintWords Go.Proofs.Ytkliboeebookeaa.Kinds Go.Proofs.Ytkliboeebookeaa.Runs Go.Proofs.Ytkliboeebookeaa.Runs.B Go.Proofs.Ytkliboeebookeaa.Runs.C Go.Proofs.Ytkliboeebookeaa.Runs.D Go.Proofs.Ytkliboeebookeaa.Runs.E Go.Proofs.Ytkliboeebookeaa.Runs.F Go.Proofs.Ytkliboeebookeaa.Runs.G
set_option linter.unusedVariables false
set_option linter.unusedSimpArgs false
theorem ent11 : Sx.Ent Try.prog 11 := ⟨Try.f11, Try.func11, by kernel_rfl, by kernel_rfl⟩
theorem es33 : Sx.elemSz Try.prog 33 = some (66, 2) := by kernel_rfl
theorem fo66_0 : Sx.fieldOff Try.prog 66 0 = some 0 := by kernel_rfl
theorem sh3 : Sx.shapeOf Try.prog 3 = some (false, 1) := by kernel_rfl
theorem ent33 : Sx.Ent Try.prog 33 := ⟨Try.f33, Try.func33, by kernel_rfl, by kernel_rfl⟩
theorem ent34 : Sx.Ent Try.prog 34 := ⟨Try.f34, Try.func34, by kernel_rfl, by kernel_rfl⟩
theorem ent15 : Sx.Ent Try.prog 15 := ⟨Try.f15, Try.func15, by kernel_rfl, by kernel_rfl⟩

theorem exp_bound {l : List Rn} {k : Nat} (h : ∀ j, j < k → (l.getD j z66).f0 ≤ 1099511627776) (hk : k ≤ l.length) : (expand (l.take k)).length ≤ k * 1099511627776 := by
  induction k with
  | zero => simp [expand]
  | succ k ih =>
    rw [expand_next (by omega) z66]
    have h1 := ih (fun j hj => h j (by omega)) (by omega)
    have h2 := h k (by omega)
    simp only [List.length_append, List.length_replicate]
    omega

set_option maxRecDepth 100000 in
theorem RunsSame_calls {w0 w : World} {F0 : Nat → Prop} {R : List Sx.HP} {v0 : World} (a : List S66) (Aa : Option Addr) (ca : Nat) (b : List S66) (Ab : Option Addr) (cb : Nat) (hv : Sx.RO v0 w0 F0) (hla : a.length ≤ ca) (hCa : k66.C v0 Aa a.length a) (hma : a.length ≤ 9223372036854775807) (hlb : b.length ≤ cb) (hCb : k66.C v0 Ab b.length b) (hmb : b.length ≤ 9223372036854775807) (h : Sx.St w0 F0 ([] ++ R) w) : Calls Try.prog 9 #[.slice (Aa) (a.length) (ca), .slice (Ab) (b.length) (cb)] w (fun e w1 => e = .returned (.bool true) ∧ Sx.St w0 F0 R w1) := by
  refine Sx.calls_fn (vs := [.slice (Aa) (a.length) (ca), .slice (Ab) (b.length) (cb)]) Try.func9 rfl Try.ntmps9 rfl ?_
  refine Sx.wc_seq ?_
  refine Sx.wc_region ?_
  refine Sx.wl_v rfl rfl (Sx.ov_assign _ rfl) ?_
  refine Sx.wl_nil ?_
  refine Sx.qn_then ?_
  refine Sx.wc_seq ?_
  refine Sx.wc_seq ?_
  refine Sx.wc_region ?_
  refine Sx.wl_call _ rfl rfl rfl ent11 (awake_calls (R := [] ++ R) h) ?_
  rintro e_ w_ ⟨rfl, h⟩
  refine ⟨_, rfl, ?_⟩
  refine Sx.wl_v rfl rfl (Sx.ov_notb _ rfl) ?_
  refine Sx.wl_nil ?_
  refine Sx.qn_then ?_
  refine Sx.wc_cond_false rfl ?_
  refine Sx.wc_skip ?_
  refine Sx.qn_then ?_
  refine Sx.wc_seq ?_
  refine Sx.wc_seq ?_
  refine Sx.wc_region ?_
  refine Sx.wl_v rfl rfl (Sx.ov_move _ rfl) ?_
  refine Sx.wl_v rfl rfl (Sx.ov_len _ _ _ _ _ rfl es33) ?_
  refine Sx.wl_v rfl rfl (Sx.ov_bin _ rfl rfl (Sx.binR_gtr)) ?_
  refine Sx.wl_v rfl rfl (Sx.ov_move _ rfl) ?_
  refine Sx.wl_split 12 rfl (fun c1 => ?_) (fun c1 => ?_)
  · refine Sx.wl_skip rfl rfl ?_
    refine Sx.wl_skip rfl rfl ?_
    refine Sx.wl_skip rfl rfl ?_
    refine Sx.wl_v rfl rfl (Sx.ov_pick_true _ rfl rfl) ?_
    refine Sx.wl_nil ?_
    refine Sx.qn_then ?_
    refine Sx.wc_cond_true rfl ?_
    refine Sx.wc_seq ?_
    refine Sx.wc_region ?_
    refine Sx.wl_v rfl rfl (Sx.ov_assign _ rfl) ?_
    refine Sx.wl_nil ?_
    refine Sx.qn_then ?_
    refine Sx.wc_ret ?_
    refine Sx.qn_then_ret ?_
    refine Sx.qn_ret [_] ⟨rfl, trivial⟩ ?_
    exact ⟨rfl, h⟩
  · refine Sx.wl_v rfl rfl (Sx.ov_move _ rfl) ?_
    refine Sx.wl_v rfl rfl (Sx.ov_len _ _ _ _ _ rfl es33) ?_
    refine Sx.wl_v rfl rfl (Sx.ov_bin _ rfl rfl (Sx.binR_gtr)) ?_
    refine Sx.wl_v rfl rfl (Sx.ov_pick_false _ rfl rfl) ?_
    refine Sx.wl_nil ?_
    refine Sx.qn_then ?_
    refine Sx.wc_cond (by rfl) (fun c2 => ?_) (fun c2 => ?_)
    · refine Sx.wc_seq ?_
      refine Sx.wc_region ?_
      refine Sx.wl_v rfl rfl (Sx.ov_assign _ rfl) ?_
      refine Sx.wl_nil ?_
      refine Sx.qn_then ?_
      refine Sx.wc_ret ?_
      refine Sx.qn_then_ret ?_
      refine Sx.qn_ret [_] ⟨rfl, trivial⟩ ?_
      exact ⟨rfl, h⟩
    · refine Sx.wc_skip ?_
      refine Sx.qn_then ?_
      refine Sx.wc_seq ?_
      refine Sx.wc_seq ?_
      refine Sx.wc_region ?_
      refine Sx.wl_v rfl rfl (Sx.ov_assign _ rfl) ?_
      refine Sx.wl_nil ?_
      refine Sx.qn_then ?_
      refine Sx.wc_block ?_
      refine Sx.wc_loop (fun (x_ : Nat) => [(0, .slice (Aa) (a.length) (ca)), (1, .slice (Ab) (b.length) (cb)), (5, .int .i64 ((x_ : Int)))]) (fun (x_ : Nat) (w : World) => (x_ ≤ a.length ∧ ∀ j_, j_ < x_ → (a.getD j_ z66).f0 ≤ 1099511627776) ∧ Sx.St w0 F0 ([] ++ R) w) (fun (x_ : Nat) => a.length - x_) (0) ?_ ?_ ?_
      · exact ⟨rfl, rfl, (congrArg (fun z_ => some (Value.int .i64 z_)) (show (0 : Int) = (0 : Int) by omega)), trivial⟩
      · exact ⟨⟨Nat.zero_le _, fun j_ hj_ => by omega⟩, h⟩
      intro k w h
      obtain ⟨hJ, h⟩ := h
      replace hJ : k ≤ a.length ∧ ∀ j_, j_ < k → (a.getD j_ z66).f0 ≤ 1099511627776 := hJ
      replace h : Sx.St w0 F0 ([] ++ R) w := h
      show Sx.WC _ _ _ _ [(0, .slice (Aa) (a.length) (ca)), (1, .slice (Ab) (b.length) (cb)), (5, .int .i64 ((k : Int)))] _
      refine Sx.wc_seq ?_
      refine Sx.wc_seq ?_
      refine Sx.wc_region ?_
      refine Sx.wl_v rfl rfl (Sx.ov_move _ rfl) ?_
      refine Sx.wl_v rfl rfl (Sx.ov_move _ rfl) ?_
      refine Sx.wl_v rfl rfl (Sx.ov_len _ _ _ _ _ rfl es33) ?_
      refine Sx.wl_v rfl rfl (Sx.ov_bin _ rfl rfl (Sx.binR_lss)) ?_
      refine Sx.wl_nil ?_
      refine Sx.qn_then ?_
      refine Sx.wc_cond (by rfl) (fun c3 => ?_) (fun c3 => ?_)
      · have hka : k < a.length := by omega
        refine Sx.wc_skip ?_
        refine Sx.qn_then ?_
        refine Sx.wc_seq ?_
        refine Sx.wc_block ?_
        refine Sx.wc_seq ?_
        refine Sx.wc_region ?_
        refine Sx.wl_v rfl rfl (Sx.ov_move _ rfl) ?_
        refine Sx.wl_v rfl rfl (Sx.ov_move _ rfl) ?_
        obtain ⟨ad4, rfl⟩ := Sx.C_some ((Sx.ro_C hv h hCa)) (k := k) (by first | assumption | omega)
        refine Sx.wl_v rfl rfl (Sx.ov_indexAddrN _ _ _ _ _ k rfl rfl es33 rfl (by first | assumption | omega | (simp only [List.length_take, List.length_drop, List.length_set]; omega))) ?_
        refine Sx.wl_v rfl rfl (Sx.ov_fieldAddr _ ((ad4).add (k * 2 + 0)) _ rfl fo66_0 (by first | exact Deep.add_add _ _ _ | (rw [Deep.add_add]) | rfl)) ?_
        obtain ⟨cl7, _, hk6, hc5⟩ := Sx.C_cells (hCa) (z := z66) (k := k) (by first | assumption | omega)
        obtain rfl := k66_open hk6
        refine Sx.wl_v rfl rfl (Sx.ov_load1 _ _ rfl sh3 (Sx.ro_cell hv h (hc5 0 _ rfl))) ?_
        refine Sx.wl_v rfl rfl (Sx.ov_bin _ rfl rfl (Sx.binR_gtr)) ?_
        refine Sx.wl_nil ?_
        refine Sx.qn_then ?_
        refine Sx.wc_cond (by rfl) (fun c8 => ?_) (fun c8 => ?_)
        · refine Sx.wc_seq ?_
          refine Sx.wc_region ?_
          refine Sx.wl_v rfl rfl (Sx.ov_assign _ rfl) ?_
          refine Sx.wl_nil ?_
          refine Sx.qn_then ?_
          refine Sx.wc_ret ?_
          refine Sx.qn_block_ret ?_
          refine Sx.qn_then_ret ?_
          refine Sx.qn_then_ret ?_
          refine Sx.qn_block_ret ?_
          refine Sx.qn_then_ret ?_
          refine Sx.qn_ret [_] ⟨rfl, trivial⟩ ?_
          exact ⟨rfl, h⟩
        · refine Sx.wc_skip ?_
          refine Sx.qn_block_normal ?_
          refine Sx.qn_then ?_
          refine Sx.wc_region ?_
          refine Sx.wl_v rfl rfl (Sx.ov_move _ rfl) ?_
          refine Sx.wl_v rfl rfl (Sx.ov_bin _ rfl rfl (Sx.binR_add (r := ((k : Int)) + 1) (Sx.w64 (by omega)))) ?_
          refine Sx.wl_v rfl rfl (Sx.ov_assign _ rfl) ?_
          refine Sx.wl_nil ?_
          refine Sx.qn_next ((k + 1)) (by show a.length - (k + 1) < a.length - k; omega) ⟨(congrArg (fun z_ => some (Value.slice (some ad4) z_ (ca))) (show (a.length : Nat) = a.length by first | rfl | simp)), rfl, (congrArg (fun z_ => some (Value.int .i64 z_)) (show (((k : Int)) + 1 : Int) = ((k + 1) : Int) by omega)), trivial⟩ ?_
          show ((k + 1) ≤ a.length ∧ ∀ j_, j_ < (k + 1) → (a.getD j_ z66).f0 ≤ 1099511627776) ∧ _
          exact ⟨⟨by omega, fun j_ hj_ => by
            by_cases e_ : j_ = k
            · subst e_; omega
            · exact hJ.2 j_ (by omega)⟩, h⟩
      · have hBa : (expand a).length ≤ a.length * 1099511627776 := by
          have h_ := exp_bound (l := a) (k := a.length) (fun j_ hj_ => hJ.2 j_ (by omega)) (Nat.le_refl _)
          rwa [List.take_length] at h_
        refine Sx.wc_exit ?_
        refine Sx.qn_then_exit ?_
        refine Sx.qn_then_exit ?_
        refine Sx.qn_block_exit ?_
        refine Sx.qn_then ?_
        refine Sx.wc_seq ?_
        refine Sx.wc_seq ?_
        refine Sx.wc_region ?_
        refine Sx.wl_v rfl rfl (Sx.ov_assign _ rfl) ?_
        refine Sx.wl_nil ?_
        refine Sx.qn_then ?_
        refine Sx.wc_block ?_
        refine Sx.wc_loop (fun (x_ : Nat) => [(0, .slice (Aa) (a.length) (ca)), (1, .slice (Ab) (b.length) (cb)), (6, .int .i64 ((x_ : Int)))]) (fun (x_ : Nat) (w : World) => (x_ ≤ b.length ∧ ∀ j_, j_ < x_ → (b.getD j_ z66).f0 ≤ 1099511627776) ∧ Sx.St w0 F0 ([] ++ R) w) (fun (x_ : Nat) => b.length - x_) (0) ?_ ?_ ?_
        · exact ⟨rfl, rfl, (congrArg (fun z_ => some (Value.int .i64 z_)) (show (0 : Int) = (0 : Int) by omega)), trivial⟩
        · exact ⟨⟨Nat.zero_le _, fun j_ hj_ => by omega⟩, h⟩
        intro j w h
        obtain ⟨hJ, h⟩ := h
        replace hJ : j ≤ b.length ∧ ∀ j_, j_ < j → (b.getD j_ z66).f0 ≤ 1099511627776 := hJ
        replace h : Sx.St w0 F0 ([] ++ R) w := h
        show Sx.WC _ _ _ _ [(0, .slice (Aa) (a.length) (ca)), (1, .slice (Ab) (b.length) (cb)), (6, .int .i64 ((j : Int)))] _
        refine Sx.wc_seq ?_
        refine Sx.wc_seq ?_
        refine Sx.wc_region ?_
        refine Sx.wl_v rfl rfl (Sx.ov_move _ rfl) ?_
        refine Sx.wl_v rfl rfl (Sx.ov_move _ rfl) ?_
        refine Sx.wl_v rfl rfl (Sx.ov_len _ _ _ _ _ rfl es33) ?_
        refine Sx.wl_v rfl rfl (Sx.ov_bin _ rfl rfl (Sx.binR_lss)) ?_
        refine Sx.wl_nil ?_
        refine Sx.qn_then ?_
        refine Sx.wc_cond (by rfl) (fun c9 => ?_) (fun c9 => ?_)
        · have hkb : j < b.length := by omega
          refine Sx.wc_skip ?_
          refine Sx.qn_then ?_
          refine Sx.wc_seq ?_
          refine Sx.wc_block ?_
          refine Sx.wc_seq ?_
          refine Sx.wc_region ?_
          refine Sx.wl_v rfl rfl (Sx.ov_move _ rfl) ?_
          refine Sx.wl_v rfl rfl (Sx.ov_move _ rfl) ?_
          obtain ⟨ad10, rfl⟩ := Sx.C_some ((Sx.ro_C hv h hCb)) (k := j) (by first | assumption | omega)
          refine Sx.wl_v rfl rfl (Sx.ov_indexAddrN _ _ _ _ _ j rfl rfl es33 rfl (by first | assumption | omega | (simp only [List.length_take, List.length_drop, List.length_set]; omega))) ?_
          refine Sx.wl_v rfl rfl (Sx.ov_fieldAddr _ ((ad10).add (j * 2 + 0)) _ rfl fo66_0 (by first | exact Deep.add_add _ _ _ | (rw [Deep.add_add]) | rfl)) ?_
          obtain ⟨cl13, _, hk12, hc11⟩ := Sx.C_cells (hCb) (z := z66) (k := j) (by first | assumption | omega)
          obtain rfl := k66_open hk12
          refine Sx.wl_v rfl rfl (Sx.ov_load1 _ _ rfl sh3 (Sx.ro_cell hv h (hc11 0 _ rfl))) ?_
          refine Sx.wl_v rfl rfl (Sx.ov_bin _ rfl rfl (Sx.binR_gtr)) ?_
          refine Sx.wl_nil ?_
          refine Sx.qn_then ?_
          refine Sx.wc_cond (by rfl) (fun c14 => ?_) (fun c14 => ?_)
          · refine Sx.wc_seq ?_
            refine Sx.wc_region ?_
            refine Sx.wl_v rfl rfl (Sx.ov_assign _ rfl) ?_
            refine Sx.wl_nil ?_
            refine Sx.qn_then ?_
            refine Sx.wc_ret ?_
            refine Sx.qn_block_ret ?_
            refine Sx.qn_then_ret ?_
            refine Sx.qn_then_ret ?_
            refine Sx.qn_block_ret ?_
            refine Sx.qn_then_ret ?_
            refine Sx.qn_ret [_] ⟨rfl, trivial⟩ ?_
            exact ⟨rfl, h⟩
          · refine Sx.wc_skip ?_
            refine Sx.qn_block_normal ?_
            refine Sx.qn_then ?_
            refine Sx.wc_region ?_
            refine Sx.wl_v rfl rfl (Sx.ov_move _ rfl) ?_
            refine Sx.wl_v rfl rfl (Sx.ov_bin _ rfl rfl (Sx.binR_add (r := ((j : Int)) + 1) (Sx.w64 (by omega)))) ?_
            refine Sx.wl_v rfl rfl (Sx.ov_assign _ rfl) ?_
            refine Sx.wl_nil ?_
            refine Sx.qn_next ((j + 1)) (by show b.length - (j + 1) < b.length - j; omega) ⟨rfl, (congrArg (fun z_ => some (Value.slice (some ad10) z_ (cb))) (show (b.length : Nat) = b.length by first | rfl | simp)), (congrArg (fun z_ => some (Value.int .i64 z_)) (show (((j : Int)) + 1 : Int) = ((j + 1) : Int) by omega)), trivial⟩ ?_
            show ((j + 1) ≤ b.length ∧ ∀ j_, j_ < (j + 1) → (b.getD j_ z66).f0 ≤ 1099511627776) ∧ _
            exact ⟨⟨by omega, fun j_ hj_ => by
              by_cases e_ : j_ = j
              · subst e_; omega
              · exact hJ.2 j_ (by omega)⟩, h⟩
        · have hBb : (expand b).length ≤ b.length * 1099511627776 := by
            have h_ := exp_bound (l := b) (k := b.length) (fun j_ hj_ => hJ.2 j_ (by omega)) (Nat.le_refl _)
            rwa [List.take_length] at h_
          refine Sx.wc_exit ?_
          refine Sx.qn_then_exit ?_
          refine Sx.qn_then_exit ?_
          refine Sx.qn_block_exit ?_
          refine Sx.qn_then ?_
          refine Sx.wc_seq ?_
          refine Sx.wc_region ?_
          refine Sx.wl_v rfl rfl (Sx.ov_move _ rfl) ?_
          refine Sx.wl_v rfl rfl (Sx.ov_move _ rfl) ?_
          refine Sx.wl_call _ rfl rfl rfl ent33 (Same_calls (R := [] ++ R) (a) (b) (Aa) (Ab) (ca) (cb) (by omega) (by omega) (by omega) (by omega) (fun _ _ h_ => Sx.ro_C hv h_ hCa) (fun _ _ h_ => Sx.ro_C hv h_ hCb) h) ?_
          rintro e_ w_ ⟨rfl, h⟩
          refine ⟨_, rfl, ?_⟩
          refine Sx.wl_v rfl rfl (Sx.ov_move _ rfl) ?_
          refine Sx.wl_call _ rfl rfl rfl ent34 (rMerged_calls (R := [] ++ R) (a) (Aa) (ca) (by exact ⟨by omega, by omega⟩) (fun _ _ h_ => Sx.ro_C hv h_ hCa) h) ?_
          rintro e_ w_ ⟨A15, cp16, rfl, h⟩
          refine ⟨_, rfl, ?_⟩
          refine Sx.wl_v rfl rfl (Sx.ov_move _ rfl) ?_
          refine Sx.wl_call _ rfl rfl rfl ent34 (rMerged_calls (R := [Sx.row k66 66 (A15) (cp16) (runsOf (expand (a)))] ++ R) (b) (Ab) (cb) (by exact ⟨by omega, by omega⟩) (fun _ _ h_ => Sx.ro_C hv h_ hCb) h) ?_
          rintro e_ w_ ⟨A17, cp18, rfl, h⟩
          refine ⟨_, rfl, ?_⟩
          refine Sx.wl_call _ rfl rfl rfl ent15 (rSame_calls (R := [Sx.row k66 66 (A17) (cp18) (runsOf (expand (b))), Sx.row k66 66 (A15) (cp16) (runsOf (expand (a)))] ++ R) (runsOf (expand (a))) (runsOf (expand (b))) (A15) (A17) (cp16) (cp18) (by refine Nat.le_trans (exp_runs_len _) ?_; omega) (by refine Nat.le_trans (exp_runs_len _) ?_; omega) (Sx.row_reads_at (R := [Sx.row k66 66 (A17) (cp18) (runsOf (expand (b))), Sx.row k66 66 (A15) (cp16) (runsOf (expand (a)))] ++ R) (j := 1) rfl) (Sx.row_reads_at (R := [Sx.row k66 66 (A17) (cp18) (runsOf (expand (b))), Sx.row k66 66 (A15) (cp16) (runsOf (expand (a)))] ++ R) (j := 0) rfl) h) ?_
          rintro e_ w_ ⟨rfl, h⟩
          refine ⟨_, rfl, ?_⟩
          refine Sx.wl_v rfl rfl (Sx.ov_bin _ rfl rfl (Sx.binR_eqb Try.underlying4)) ?_
          refine Sx.wl_v rfl rfl (Sx.ov_assign _ rfl) ?_
          refine Sx.wl_nil ?_
          refine Sx.qn_then ?_
          refine Sx.wc_ret ?_
          replace h := Sx.st_selT [false, false] h
          refine Sx.qn_ret [_] ⟨rfl, trivial⟩ ?_
          have b_ : (decide ((sameV (a) (b)) = (sameB (runsOf (expand (a))) (runsOf (expand (b)))))) = true := by exact decide_eq_true rfl
          exact ⟨congrArg (fun z => Ending.returned (Value.bool z)) b_, h⟩
end Go.Proofs.Ytkliboeebookeaa.Runs.L
