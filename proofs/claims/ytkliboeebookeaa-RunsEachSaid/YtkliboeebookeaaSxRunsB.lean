/- More walks of the package runs. -/
import Derived.Test.YtkliboeebookeaaProg
import Derived.Test.YtkliboeebookeaaSxEq
import Derived.Test.YtkliboeebookeaaSxKinds
import Derived.Test.YtkliboeebookeaaRunsTh
import Derived.Test.YtkliboeebookeaaSxRuns
namespace Go.Proofs.Ytkliboeebookeaa.Runs.B
open Go Go.RowKit Go.Proofs.YtkliboeebookeaaW.PrintWords Go.Proofs.Ytkliboeebookeaa.Kinds Go.Proofs.Ytkliboeebookeaa.Runs
set_option linter.unusedVariables false
set_option linter.unusedSimpArgs false
theorem ent37 : Sx.Ent Try.prog 37 := ⟨Try.f37, Try.func37, by kernel_rfl, by kernel_rfl⟩
theorem ent39 : Sx.Ent Try.prog 39 := ⟨Try.f39, Try.func39, by kernel_rfl, by kernel_rfl⟩
theorem ent38 : Sx.Ent Try.prog 38 := ⟨Try.f38, Try.func38, by kernel_rfl, by kernel_rfl⟩
theorem ent42 : Sx.Ent Try.prog 42 := ⟨Try.f42, Try.func42, by kernel_rfl, by kernel_rfl⟩
theorem ent40 : Sx.Ent Try.prog 40 := ⟨Try.f40, Try.func40, by kernel_rfl, by kernel_rfl⟩
theorem fo72_1 : Sx.fieldOff Try.prog 72 1 = some 1 := by kernel_rfl
theorem sh3 : Sx.shapeOf Try.prog 3 = some (false, 1) := by kernel_rfl
theorem ent43 : Sx.Ent Try.prog 43 := ⟨Try.f43, Try.func43, by kernel_rfl, by kernel_rfl⟩
theorem es33 : Sx.elemSz Try.prog 33 = some (66, 2) := by kernel_rfl
theorem fo66_1 : Sx.fieldOff Try.prog 66 1 = some 1 := by kernel_rfl
theorem fo72_0 : Sx.fieldOff Try.prog 72 0 = some 0 := by kernel_rfl
theorem sh33 : Sx.shapeOf Try.prog 33 = some (false, 1) := by kernel_rfl
theorem sh66 : Sx.shapeOf Try.prog 66 = some (true, 2) := by kernel_rfl
theorem zo66 : Sx.zeroOf Try.prog 66 = some (.agg #[.int .i64 (0), .int .i64 (0)]) := by kernel_rfl
theorem fo66_0 : Sx.fieldOff Try.prog 66 0 = some 0 := by kernel_rfl

theorem any_runs (τ : List Int) (s : Int) (z : Rn) : (1 < (runsOf τ).length ∨ ((runsOf τ).length = 1 ∧ ((runsOf τ).getD 0 z).f1 ≠ s)) ↔ τ.any (fun y => decide (y ≠ s)) = true := by
  constructor
  · intro h
    cases ha : τ.any (fun y => decide (y ≠ s)) with
    | true => rfl
    | false =>
      exfalso
      have e : τ = List.replicate τ.length s := by
        apply List.eq_replicate_of_mem
        intro y hy
        have := List.any_eq_false.1 ha y hy
        simpa using this
      have e2 := runsOf_rep [] τ.length s
      rw [List.nil_append, ← e] at e2
      unfold putL at e2
      by_cases h0 : τ.length = 0
      · rw [if_pos h0] at e2; rw [e2] at h; simp [runsOf_nil] at h
      · rw [if_neg h0] at e2
        have e3 : runsOf τ = [⟨(τ.length : Int), s⟩] := e2
        rw [e3] at h
        simp at h
  · intro h
    obtain ⟨y, hy, hs⟩ := List.any_eq_true.1 h
    have hs : y ≠ s := by simpa using hs
    have hx := expand_runs τ
    generalize runsOf τ = L at *
    match L, hx with
    | [], hx => subst hx; simp [expand] at hy
    | [r], hx =>
      refine .inr ⟨rfl, ?_⟩
      subst hx
      simp [expand] at hy
      show r.f1 ≠ s
      rw [← hy.2]; exact hs
    | a :: b :: l, hx => exact .inl (by simp)
/-- The greatest style. -/
def mostV (σ : List Int) : Int := σ.foldl max (-1)
theorem foldl_max_rep (n : Nat) (s m : Int) (hn : 0 < n) : (List.replicate n s).foldl max m = max m s := by
  induction n generalizing m with
  | zero => omega
  | succ n ih =>
    rw [List.replicate_succ, List.foldl_cons]
    by_cases h : n = 0
    · subst h; rfl
    · rw [ih _ (by omega)]; omega
theorem most_next (σ : List Int) (k : Nat) (hk : k < (runsOf σ).length) (z : Rn) : max ((σ.take (posR (runsOf σ) k)).foldl max (-1)) ((runsOf σ).getD k z).f1 = (σ.take (posR (runsOf σ) (k + 1))).foldl max (-1) := by
  have h1 := take_expand (runsOf σ) (k + 1)
  have h0 := take_expand (runsOf σ) k
  rw [expand_runs] at h0 h1
  rw [h1, expand_take_succ _ k hk z, List.foldl_append, ← h0, foldl_max_rep _ _ _ (by have := (run_fits σ k hk z).2; omega)]
/-- What a list begins as. -/
def newE (n s : Int) : Int := if n < 0 ∨ 65536 < n then 1 else if ¬ styleP s then 43 else 0

set_option maxRecDepth 100000 in
theorem Set_calls {w0 w : World} {F0 : Nat → Prop} {R : List Sx.HP} (g : Nat) (x : LS) (a b s : Int) (hx : x.st.length ≤ 65536) (h : Sx.St w0 F0 ([listS g (x)] ++ R) w) : Calls Try.prog 30 #[.pointer (some ⟨g, 0, none⟩), .int .i64 (a), .int .i64 (b), .int .i64 (s)] w (fun e w1 => e = .returned (.tuple #[.bool (setV x a b s).2.1, .int .i64 (setV x a b s).2.2]) ∧ Sx.St w0 F0 (listS g (setV x a b s).1 :: R) w1) := by
 refine Sx.calls_fn (vs := [.pointer (some ⟨g, 0, none⟩), .int .i64 (a), .int .i64 (b), .int .i64 (s)]) Try.func30 rfl Try.ntmps30 rfl ?_
 refine Sx.wc_seq ?_
 refine Sx.wc_region ?_
 refine Sx.wl_v rfl rfl (Sx.ov_assign _ rfl) ?_
 refine Sx.wl_v rfl rfl (Sx.ov_assign _ rfl) ?_
 refine Sx.wl_nil ?_
 refine Sx.qn_then ?_
 refine Sx.wc_seq ?_
 refine Sx.wc_seq ?_
 refine Sx.wc_region ?_
 refine Sx.wl_v rfl rfl (Sx.ov_move _ rfl) ?_
 refine Sx.wl_v rfl rfl (Sx.ov_move _ rfl) ?_
 refine Sx.wl_v rfl rfl (Sx.ov_move _ rfl) ?_
 refine Sx.wl_call _ rfl rfl rfl ent37 (span_calls g x a b  h) ?_
 rintro e_ w_ ⟨rfl, h⟩
 refine ⟨_, rfl, ?_⟩
 refine Sx.wl_v rfl rfl (Sx.ov_assign _ rfl) ?_
 refine Sx.wl_nil ?_
 refine Sx.qn_then ?_
 refine Sx.wc_seq ?_
 refine Sx.wc_region ?_
 refine Sx.wl_v rfl rfl (Sx.ov_move _ rfl) ?_
 refine Sx.wl_v rfl rfl (Sx.ov_bin _ rfl rfl (Sx.binR_neq)) ?_
 refine Sx.wl_nil ?_
 refine Sx.qn_then ?_
 refine Sx.wc_cond (by rfl) (fun c1 => ?_) (fun c1 => ?_)
 ·
  refine Sx.wc_seq ?_
  refine Sx.wc_region ?_
  refine Sx.wl_v rfl rfl (Sx.ov_move _ rfl) ?_
  refine Sx.wl_v rfl rfl (Sx.ov_assign _ rfl) ?_
  refine Sx.wl_v rfl rfl (Sx.ov_assign _ rfl) ?_
  refine Sx.wl_nil ?_
  refine Sx.qn_then ?_
  refine Sx.wc_ret ?_
  refine Sx.qn_then_ret ?_
  refine Sx.qn_ret [_, _] ⟨rfl, rfl, trivial⟩ ?_
  have e_ : setV x a b s = (x, false, spanV x a b) := by unfold setV; rw [if_pos (by omega)]
  rw [e_]
  exact ⟨rfl, h⟩
 ·
  have hok := span_ok c1
  refine Sx.wc_skip ?_
  refine Sx.qn_then ?_
  refine Sx.wc_seq ?_
  refine Sx.wc_seq ?_
  refine Sx.wc_region ?_
  refine Sx.wl_v rfl rfl (Sx.ov_move _ rfl) ?_
  refine Sx.wl_call _ rfl rfl rfl ent39 (style_calls (R := [listS g (x)] ++ R) s h) ?_
  rintro e_ w_ ⟨rfl, h⟩
  refine ⟨_, rfl, ?_⟩
  refine Sx.wl_v rfl rfl (Sx.ov_not _ (¬ (styleP s)) rfl (by first | exact decide_not.symm | simp)) ?_
  refine Sx.wl_nil ?_
  refine Sx.qn_then ?_
  refine Sx.wc_cond (by rfl) (fun c2 => ?_) (fun c2 => ?_)
  ·
   refine Sx.wc_seq ?_
   refine Sx.wc_region ?_
   refine Sx.wl_v rfl rfl (Sx.ov_assign _ rfl) ?_
   refine Sx.wl_v rfl rfl (Sx.ov_assign _ rfl) ?_
   refine Sx.wl_nil ?_
   refine Sx.qn_then ?_
   refine Sx.wc_ret ?_
   refine Sx.qn_then_ret ?_
   refine Sx.qn_ret [_, _] ⟨rfl, rfl, trivial⟩ ?_
   have e_ : setV x a b s = (x, false, 43) := by unfold setV; rw [if_neg (by omega), if_pos (by omega)]
   rw [e_]
   exact ⟨rfl, h⟩
  ·
   refine Sx.wc_skip ?_
   refine Sx.qn_then ?_
   refine Sx.wc_seq ?_
   refine Sx.wc_region ?_
   refine Sx.wl_v rfl rfl (Sx.ov_move _ rfl) ?_
   refine Sx.wl_v rfl rfl (Sx.ov_move _ rfl) ?_
   refine Sx.wl_v rfl rfl (Sx.ov_move _ rfl) ?_
   refine Sx.wl_call _ rfl rfl rfl ent38 (part_calls g x a b (by omega) (by omega) (by omega) (by omega) (by omega) h) ?_
   rintro e_ w_ ⟨A3, cp4, rfl, h⟩
   refine ⟨_, rfl, ?_⟩
   refine Sx.wl_v rfl rfl (Sx.ov_assign _ rfl) ?_
   refine Sx.wl_nil ?_
   refine Sx.qn_then ?_
   refine Sx.wc_seq ?_
   refine Sx.wc_region ?_
   refine Sx.wl_v rfl rfl (Sx.ov_build [] [.slice (none) (0) (0), .int .i64 (0), .int .i64 (0)] rfl rfl (by kernel_rfl)) ?_
   refine Sx.wl_box _ h rfl rfl rfl (fun b5 _ h => ?_)
   replace h : Sx.St _ _ (Sx.blk b5 [.slice (none) (0) (0), .int .i64 (0), .int .i64 (0)] 72 :: _) _ := h
   refine Sx.wl_v rfl rfl (Sx.ov_assign _ rfl) ?_
   refine Sx.wl_nil ?_
   refine Sx.qn_then ?_
   refine Sx.wc_seq ?_
   refine Sx.wc_region ?_
   refine Sx.wl_v rfl rfl (Sx.ov_move _ rfl) ?_
   refine Sx.wl_v rfl rfl (Sx.ov_move _ rfl) ?_
   refine Sx.wl_v rfl rfl (Sx.ov_move _ rfl) ?_
   replace h := Sx.st_nilrow k66 66 h
   replace h := Sx.st_front 1 h
   replace h := listS_close (σ := []) (by first | rfl | simp) (by first | rfl | simp) h
   replace h := Sx.st_front 1 h
   refine Sx.wl_call _ rfl rfl rfl ent42 (copyTo_calls g b5 x ((⟨[], 0⟩ : LS)) 0 a (by first | omega | (simp only [List.length_append, List.length_nil, List.length_replicate, part, List.length_take, List.length_drop]; omega)) (by first | omega | (simp only [List.length_append, List.length_nil, List.length_replicate, part, List.length_take, List.length_drop]; omega)) (by first | omega | (simp only [List.length_append, List.length_nil, List.length_replicate, part, List.length_take, List.length_drop]; omega)) (by first | omega | (simp only [List.length_append, List.length_nil, List.length_replicate, part, List.length_take, List.length_drop]; omega)) (by first | omega | (simp only [List.length_append, List.length_nil, List.length_replicate, part, List.length_take, List.length_drop]; omega)) (by first | omega | (simp only [List.length_append, List.length_nil, List.length_replicate, part, List.length_take, List.length_drop]; omega)) h) ?_
   rintro e_ w_ ⟨rfl, h⟩
   refine ⟨_, rfl, ?_⟩
   refine Sx.wl_nil ?_
   refine Sx.qn_then ?_
   refine Sx.wc_seq ?_
   refine Sx.wc_region ?_
   refine Sx.wl_v rfl rfl (Sx.ov_move _ rfl) ?_
   refine Sx.wl_v rfl rfl (Sx.ov_move _ rfl) ?_
   refine Sx.wl_v rfl rfl (Sx.ov_move _ rfl) ?_
   refine Sx.wl_v rfl rfl (Sx.ov_bin _ rfl rfl (Sx.binR_sub (r := b - a) (Sx.w64 (by omega)))) ?_
   refine Sx.wl_v rfl rfl (Sx.ov_move _ rfl) ?_
   replace h := Sx.st_front 1 h
   refine Sx.wl_call _ rfl rfl rfl ent40 (put_S b5 ((⟨((⟨[], 0⟩ : LS)).st ++ part (x).st (0 : Int).toNat (a : Int).toNat, ((⟨[], 0⟩ : LS)).base⟩ : LS)) (b - a) s (by first | omega | (simp only [List.length_append, List.length_nil, List.length_replicate, part, List.length_take, List.length_drop]; omega)) (by refine Nat.le_trans (runs_len _) ?_; simp only [List.length_append, List.length_nil, List.length_replicate, part, List.length_take, List.length_drop]; omega) h) ?_
   rintro e_ w_ ⟨rfl, h⟩
   refine ⟨_, rfl, ?_⟩
   refine Sx.wl_nil ?_
   refine Sx.qn_then ?_
   refine Sx.wc_seq ?_
   refine Sx.wc_region ?_
   refine Sx.wl_v rfl rfl (Sx.ov_move _ rfl) ?_
   refine Sx.wl_v rfl rfl (Sx.ov_move _ rfl) ?_
   refine Sx.wl_v rfl rfl (Sx.ov_move _ rfl) ?_
   refine Sx.wl_v rfl rfl (Sx.ov_move _ rfl) ?_
   refine Sx.wl_v rfl rfl (Sx.ov_nilCheck _ rfl) ?_
   refine Sx.wl_v rfl rfl (Sx.ov_fieldAddr _ ⟨g, 1, none⟩ _ rfl fo72_1 rfl) ?_
   replace h := Sx.st_front 1 h
   obtain ⟨A6, c7, h⟩ := listS_open h
   refine Sx.wl_v rfl rfl (Sx.ov_loadb 0 _ h rfl rfl sh3 rfl) ?_
   replace h := Sx.st_front 1 h
   replace h := Sx.st_front 1 h
   replace h := listS_close (σ := (x).st) (by first | rfl | simp) (by first | rfl | simp) h
   replace h := Sx.st_front 1 h
   replace h := Sx.st_front 1 h
   refine Sx.wl_call _ rfl rfl rfl ent42 (copyTo_calls g b5 ((⟨(x).st, (x).base⟩ : LS)) ((⟨((⟨((⟨[], 0⟩ : LS)).st ++ part (x).st (0 : Int).toNat (a : Int).toNat, ((⟨[], 0⟩ : LS)).base⟩ : LS)).st ++ List.replicate ((b - a) : Int).toNat s, ((⟨((⟨[], 0⟩ : LS)).st ++ part (x).st (0 : Int).toNat (a : Int).toNat, ((⟨[], 0⟩ : LS)).base⟩ : LS)).base⟩ : LS)) b ((((x).st).length : Int)) (by first | omega | (simp only [List.length_append, List.length_nil, List.length_replicate, part, List.length_take, List.length_drop]; omega)) (by first | omega | (simp only [List.length_append, List.length_nil, List.length_replicate, part, List.length_take, List.length_drop]; omega)) (by first | omega | (simp only [List.length_append, List.length_nil, List.length_replicate, part, List.length_take, List.length_drop]; omega)) (by first | omega | (simp only [List.length_append, List.length_nil, List.length_replicate, part, List.length_take, List.length_drop]; omega)) (by first | omega | (simp only [List.length_append, List.length_nil, List.length_replicate, part, List.length_take, List.length_drop]; omega)) (by first | omega | (simp only [List.length_append, List.length_nil, List.length_replicate, part, List.length_take, List.length_drop]; omega)) h) ?_
   rintro e_ w_ ⟨rfl, h⟩
   refine ⟨_, rfl, ?_⟩
   refine Sx.wl_nil ?_
   refine Sx.qn_then ?_
   refine Sx.wc_seq ?_
   refine Sx.wc_region ?_
   refine Sx.wl_v rfl rfl (Sx.ov_move _ rfl) ?_
   refine Sx.wl_v rfl rfl (Sx.ov_move _ rfl) ?_
   replace h := Sx.st_front 1 h
   replace h := Sx.st_front 1 h
   refine Sx.wl_call _ rfl rfl rfl ent43 (take_calls g b5 ((⟨(x).st, (x).base⟩ : LS)) ((⟨((⟨((⟨((⟨[], 0⟩ : LS)).st ++ part (x).st (0 : Int).toNat (a : Int).toNat, ((⟨[], 0⟩ : LS)).base⟩ : LS)).st ++ List.replicate ((b - a) : Int).toNat s, ((⟨((⟨[], 0⟩ : LS)).st ++ part (x).st (0 : Int).toNat (a : Int).toNat, ((⟨[], 0⟩ : LS)).base⟩ : LS)).base⟩ : LS)).st ++ part ((⟨(x).st, (x).base⟩ : LS)).st (b : Int).toNat (((((x).st).length : Int)) : Int).toNat, ((⟨((⟨((⟨[], 0⟩ : LS)).st ++ part (x).st (0 : Int).toNat (a : Int).toNat, ((⟨[], 0⟩ : LS)).base⟩ : LS)).st ++ List.replicate ((b - a) : Int).toNat s, ((⟨((⟨[], 0⟩ : LS)).st ++ part (x).st (0 : Int).toNat (a : Int).toNat, ((⟨[], 0⟩ : LS)).base⟩ : LS)).base⟩ : LS)).base⟩ : LS)) h) ?_
   rintro e_ w_ ⟨rfl, h⟩
   refine ⟨_, rfl, ?_⟩
   refine Sx.wl_nil ?_
   refine Sx.qn_then ?_
   refine Sx.wc_seq ?_
   refine Sx.wc_region ?_
   refine Sx.wl_v rfl rfl (Sx.ov_move _ rfl) ?_
   refine Sx.wl_v rfl rfl (Sx.ov_len _ _ _ _ _ rfl es33) ?_
   refine Sx.wl_v rfl rfl (Sx.ov_bin _ rfl rfl (Sx.binR_gtr)) ?_
   refine Sx.wl_v rfl rfl (Sx.ov_move _ rfl) ?_
   refine Sx.wl_split 53 rfl (fun c8 => ?_) (fun c8 => ?_)
   ·
    refine Sx.wl_skip rfl rfl ?_
    refine Sx.wl_skip rfl rfl ?_
    refine Sx.wl_skip rfl rfl ?_
    refine Sx.wl_skip rfl rfl ?_
    refine Sx.wl_skip rfl rfl ?_
    refine Sx.wl_skip rfl rfl ?_
    refine Sx.wl_skip rfl rfl ?_
    refine Sx.wl_skip rfl rfl ?_
    refine Sx.wl_skip rfl rfl ?_
    refine Sx.wl_skip rfl rfl ?_
    refine Sx.wl_skip rfl rfl ?_
    refine Sx.wl_v rfl rfl (Sx.ov_pick_true _ rfl rfl) ?_
    refine Sx.wl_v rfl rfl (Sx.ov_assign _ rfl) ?_
    refine Sx.wl_v rfl rfl (Sx.ov_assign _ rfl) ?_
    refine Sx.wl_nil ?_
    refine Sx.qn_then ?_
    refine Sx.wc_ret ?_
    have e_ : (⟨((⟨((⟨((⟨((⟨[], 0⟩ : LS)).st ++ part (x).st (0 : Int).toNat (a : Int).toNat, ((⟨[], 0⟩ : LS)).base⟩ : LS)).st ++ List.replicate ((b - a) : Int).toNat s, ((⟨((⟨[], 0⟩ : LS)).st ++ part (x).st (0 : Int).toNat (a : Int).toNat, ((⟨[], 0⟩ : LS)).base⟩ : LS)).base⟩ : LS)).st ++ part ((⟨(x).st, (x).base⟩ : LS)).st (b : Int).toNat (((((x).st).length : Int)) : Int).toNat, ((⟨((⟨((⟨[], 0⟩ : LS)).st ++ part (x).st (0 : Int).toNat (a : Int).toNat, ((⟨[], 0⟩ : LS)).base⟩ : LS)).st ++ List.replicate ((b - a) : Int).toNat s, ((⟨((⟨[], 0⟩ : LS)).st ++ part (x).st (0 : Int).toNat (a : Int).toNat, ((⟨[], 0⟩ : LS)).base⟩ : LS)).base⟩ : LS)).base⟩ : LS)).st, ((⟨(x).st, (x).base⟩ : LS)).base⟩ : LS) = (⟨x.st.take a.toNat ++ List.replicate (b - a).toNat s ++ x.st.drop b.toNat, x.base⟩ : LS) := by simp only [List.nil_append, Int.toNat_natCast, show (0 : Int).toNat = 0 from rfl, part_zero, part_end]
    replace h := Sx.st_cast (congrArg (fun z_ => ([listS g (z_), Sx.row k66 66 (A3) (cp4) (runsOf (part (x).st (a : Int).toNat (b : Int).toNat))] ++ R)) e_) h
    clear e_
    replace h := Sx.st_selT [true, false] h
    refine Sx.qn_ret [_, _] ⟨rfl, rfl, trivial⟩ ?_
    have hb_ : true = decide (1 < (runsOf (part x.st a.toNat b.toNat)).length ∨ ((runsOf (part x.st a.toNat b.toNat)).length = 1 ∧ ((runsOf (part x.st a.toNat b.toNat)).getD 0 z66).f1 ≠ s)) := (decide_eq_true (show 1 < (runsOf (part x.st a.toNat b.toNat)).length ∨ ((runsOf (part x.st a.toNat b.toNat)).length = 1 ∧ ((runsOf (part x.st a.toNat b.toNat)).getD 0 z66).f1 ≠ s) by omega)).symm
    have hc_ : (part x.st a.toNat b.toNat).any (fun y => decide (y ≠ s)) = true := by
      refine Eq.trans ?_ hb_.symm
      rw [Bool.eq_iff_iff, decide_eq_true_iff]
      exact (any_runs _ s z66).symm
    have e_ : setV x a b s = ((⟨x.st.take a.toNat ++ List.replicate (b - a).toNat s ++ x.st.drop b.toNat, x.base⟩ : LS), true, 0) := by unfold setV; rw [if_neg (by omega), if_neg (by omega), hc_]
    rw [e_]
    exact ⟨rfl, h⟩
   ·
    refine Sx.wl_v rfl rfl (Sx.ov_move _ rfl) ?_
    refine Sx.wl_v rfl rfl (Sx.ov_len _ _ _ _ _ rfl es33) ?_
    refine Sx.wl_v rfl rfl (Sx.ov_bin _ rfl rfl (Sx.binR_eql)) ?_
    refine Sx.wl_v rfl rfl (Sx.ov_move _ rfl) ?_
    refine Sx.wl_split 57 rfl (fun c9 => ?_) (fun c9 => ?_)
    ·
     refine Sx.wl_v rfl rfl (Sx.ov_move _ rfl) ?_
     obtain ⟨ad10, rfl⟩ := Sx.C_some ((Sx.row_reads h (i := 1) rfl).2) (k := 0) (by first | assumption | omega)
     refine Sx.wl_v rfl rfl (Sx.ov_indexAddrN _ _ _ _ _ 0 rfl rfl es33 rfl (by first | assumption | omega | (simp only [List.length_take, List.length_drop, List.length_set]; omega))) ?_
     refine Sx.wl_v rfl rfl (Sx.ov_fieldAddr _ ((ad10).add (0 * 2 + 1)) _ rfl fo66_1 (by first | exact Deep.add_add _ _ _ | (rw [Deep.add_add]) | rfl)) ?_
     obtain ⟨cl13, _, hk12, hc11⟩ := Sx.C_cells ((Sx.row_reads h (i := 1) rfl).2) (z := z66) (k := 0) (by first | assumption | omega)
     obtain rfl := k66_open hk12
     refine Sx.wl_v rfl rfl (Sx.ov_load1 _ _ rfl sh3 ((hc11 1 _ rfl))) ?_
     refine Sx.wl_v rfl rfl (Sx.ov_move _ rfl) ?_
     refine Sx.wl_v rfl rfl (Sx.ov_bin _ rfl rfl (Sx.binR_neq)) ?_
     refine Sx.wl_v rfl rfl (Sx.ov_pick_true _ rfl rfl) ?_
     refine Sx.wl_v rfl rfl (Sx.ov_pick_false _ rfl rfl) ?_
     refine Sx.wl_v rfl rfl (Sx.ov_assign _ rfl) ?_
     refine Sx.wl_v rfl rfl (Sx.ov_assign _ rfl) ?_
     refine Sx.wl_nil ?_
     refine Sx.qn_then ?_
     refine Sx.wc_ret ?_
     have e_ : (⟨((⟨((⟨((⟨((⟨[], 0⟩ : LS)).st ++ part (x).st (0 : Int).toNat (a : Int).toNat, ((⟨[], 0⟩ : LS)).base⟩ : LS)).st ++ List.replicate ((b - a) : Int).toNat s, ((⟨((⟨[], 0⟩ : LS)).st ++ part (x).st (0 : Int).toNat (a : Int).toNat, ((⟨[], 0⟩ : LS)).base⟩ : LS)).base⟩ : LS)).st ++ part ((⟨(x).st, (x).base⟩ : LS)).st (b : Int).toNat (((((x).st).length : Int)) : Int).toNat, ((⟨((⟨((⟨[], 0⟩ : LS)).st ++ part (x).st (0 : Int).toNat (a : Int).toNat, ((⟨[], 0⟩ : LS)).base⟩ : LS)).st ++ List.replicate ((b - a) : Int).toNat s, ((⟨((⟨[], 0⟩ : LS)).st ++ part (x).st (0 : Int).toNat (a : Int).toNat, ((⟨[], 0⟩ : LS)).base⟩ : LS)).base⟩ : LS)).base⟩ : LS)).st, ((⟨(x).st, (x).base⟩ : LS)).base⟩ : LS) = (⟨x.st.take a.toNat ++ List.replicate (b - a).toNat s ++ x.st.drop b.toNat, x.base⟩ : LS) := by simp only [List.nil_append, Int.toNat_natCast, show (0 : Int).toNat = 0 from rfl, part_zero, part_end]
     replace h := Sx.st_cast (congrArg (fun z_ => ([listS g (z_), Sx.row k66 66 (some ad10) (cp4) (runsOf (part (x).st (a : Int).toNat (b : Int).toNat))] ++ R)) e_) h
     clear e_
     replace h := Sx.st_selT [true, false] h
     refine Sx.qn_ret [_, _] ⟨rfl, rfl, trivial⟩ ?_
     have hb_ : (decide ((((runsOf (part (x).st (a : Int).toNat (b : Int).toNat)).getD 0 z66).f1 : Int) ≠ s)) = decide (1 < (runsOf (part x.st a.toNat b.toNat)).length ∨ ((runsOf (part x.st a.toNat b.toNat)).length = 1 ∧ ((runsOf (part x.st a.toNat b.toNat)).getD 0 z66).f1 ≠ s)) := decide_eq_decide.2 (by omega)
     have hc_ : (part x.st a.toNat b.toNat).any (fun y => decide (y ≠ s)) = (decide ((((runsOf (part (x).st (a : Int).toNat (b : Int).toNat)).getD 0 z66).f1 : Int) ≠ s)) := by
       refine Eq.trans ?_ hb_.symm
       rw [Bool.eq_iff_iff, decide_eq_true_iff]
       exact (any_runs _ s z66).symm
     have e_ : setV x a b s = ((⟨x.st.take a.toNat ++ List.replicate (b - a).toNat s ++ x.st.drop b.toNat, x.base⟩ : LS), (decide ((((runsOf (part (x).st (a : Int).toNat (b : Int).toNat)).getD 0 z66).f1 : Int) ≠ s)), 0) := by unfold setV; rw [if_neg (by omega), if_neg (by omega), hc_]
     rw [e_]
     exact ⟨rfl, h⟩
    ·
     refine Sx.wl_skip rfl rfl ?_
     refine Sx.wl_skip rfl rfl ?_
     refine Sx.wl_skip rfl rfl ?_
     refine Sx.wl_skip rfl rfl ?_
     refine Sx.wl_skip rfl rfl ?_
     refine Sx.wl_skip rfl rfl ?_
     refine Sx.wl_v rfl rfl (Sx.ov_pick_false _ rfl rfl) ?_
     refine Sx.wl_v rfl rfl (Sx.ov_pick_false _ rfl rfl) ?_
     refine Sx.wl_v rfl rfl (Sx.ov_assign _ rfl) ?_
     refine Sx.wl_v rfl rfl (Sx.ov_assign _ rfl) ?_
     refine Sx.wl_nil ?_
     refine Sx.qn_then ?_
     refine Sx.wc_ret ?_
     have e_ : (⟨((⟨((⟨((⟨((⟨[], 0⟩ : LS)).st ++ part (x).st (0 : Int).toNat (a : Int).toNat, ((⟨[], 0⟩ : LS)).base⟩ : LS)).st ++ List.replicate ((b - a) : Int).toNat s, ((⟨((⟨[], 0⟩ : LS)).st ++ part (x).st (0 : Int).toNat (a : Int).toNat, ((⟨[], 0⟩ : LS)).base⟩ : LS)).base⟩ : LS)).st ++ part ((⟨(x).st, (x).base⟩ : LS)).st (b : Int).toNat (((((x).st).length : Int)) : Int).toNat, ((⟨((⟨((⟨[], 0⟩ : LS)).st ++ part (x).st (0 : Int).toNat (a : Int).toNat, ((⟨[], 0⟩ : LS)).base⟩ : LS)).st ++ List.replicate ((b - a) : Int).toNat s, ((⟨((⟨[], 0⟩ : LS)).st ++ part (x).st (0 : Int).toNat (a : Int).toNat, ((⟨[], 0⟩ : LS)).base⟩ : LS)).base⟩ : LS)).base⟩ : LS)).st, ((⟨(x).st, (x).base⟩ : LS)).base⟩ : LS) = (⟨x.st.take a.toNat ++ List.replicate (b - a).toNat s ++ x.st.drop b.toNat, x.base⟩ : LS) := by simp only [List.nil_append, Int.toNat_natCast, show (0 : Int).toNat = 0 from rfl, part_zero, part_end]
     replace h := Sx.st_cast (congrArg (fun z_ => ([listS g (z_), Sx.row k66 66 (A3) (cp4) (runsOf (part (x).st (a : Int).toNat (b : Int).toNat))] ++ R)) e_) h
     clear e_
     replace h := Sx.st_selT [true, false] h
     refine Sx.qn_ret [_, _] ⟨rfl, rfl, trivial⟩ ?_
     have hb_ : false = decide (1 < (runsOf (part x.st a.toNat b.toNat)).length ∨ ((runsOf (part x.st a.toNat b.toNat)).length = 1 ∧ ((runsOf (part x.st a.toNat b.toNat)).getD 0 z66).f1 ≠ s)) := (decide_eq_false (show ¬ (1 < (runsOf (part x.st a.toNat b.toNat)).length ∨ ((runsOf (part x.st a.toNat b.toNat)).length = 1 ∧ ((runsOf (part x.st a.toNat b.toNat)).getD 0 z66).f1 ≠ s)) by omega)).symm
     have hc_ : (part x.st a.toNat b.toNat).any (fun y => decide (y ≠ s)) = false := by
       refine Eq.trans ?_ hb_.symm
       rw [Bool.eq_iff_iff, decide_eq_true_iff]
       exact (any_runs _ s z66).symm
     have e_ : setV x a b s = ((⟨x.st.take a.toNat ++ List.replicate (b - a).toNat s ++ x.st.drop b.toNat, x.base⟩ : LS), false, 0) := by unfold setV; rw [if_neg (by omega), if_neg (by omega), hc_]
     rw [e_]
     exact ⟨rfl, h⟩

def sliceV (x : LS) (a b : Int) : List Rn := if spanV x a b ≠ 0 then [] else runsOf (part x.st a.toNat b.toNat)

set_option maxRecDepth 100000 in
theorem Slice_calls {w0 w : World} {F0 : Nat → Prop} {R : List Sx.HP} (g : Nat) (x : LS) (a b : Int) (hx : x.st.length ≤ 65536) (h : Sx.St w0 F0 ([listS g (x)] ++ R) w) : Calls Try.prog 19 #[.pointer (some ⟨g, 0, none⟩), .int .i64 (a), .int .i64 (b)] w (fun e w1 => ∃ A c, e = .returned (.tuple #[.slice A (sliceV x a b).length c, .int .i64 (spanV x a b)]) ∧ Sx.St w0 F0 (listS g x :: Sx.row k66 66 A c (sliceV x a b) :: R) w1) := by
 refine Sx.calls_fn (vs := [.pointer (some ⟨g, 0, none⟩), .int .i64 (a), .int .i64 (b)]) Try.func19 rfl Try.ntmps19 rfl ?_
 refine Sx.wc_seq ?_
 refine Sx.wc_region ?_
 refine Sx.wl_v rfl rfl (Sx.ov_assign _ rfl) ?_
 refine Sx.wl_v rfl rfl (Sx.ov_assign _ rfl) ?_
 refine Sx.wl_nil ?_
 refine Sx.qn_then ?_
 refine Sx.wc_seq ?_
 refine Sx.wc_seq ?_
 refine Sx.wc_region ?_
 refine Sx.wl_v rfl rfl (Sx.ov_move _ rfl) ?_
 refine Sx.wl_v rfl rfl (Sx.ov_move _ rfl) ?_
 refine Sx.wl_v rfl rfl (Sx.ov_move _ rfl) ?_
 refine Sx.wl_call _ rfl rfl rfl ent37 (span_calls g x a b  h) ?_
 rintro e_ w_ ⟨rfl, h⟩
 refine ⟨_, rfl, ?_⟩
 refine Sx.wl_v rfl rfl (Sx.ov_assign _ rfl) ?_
 refine Sx.wl_nil ?_
 refine Sx.qn_then ?_
 refine Sx.wc_seq ?_
 refine Sx.wc_region ?_
 refine Sx.wl_v rfl rfl (Sx.ov_move _ rfl) ?_
 refine Sx.wl_v rfl rfl (Sx.ov_bin _ rfl rfl (Sx.binR_neq)) ?_
 refine Sx.wl_nil ?_
 refine Sx.qn_then ?_
 refine Sx.wc_cond (by rfl) (fun c1 => ?_) (fun c1 => ?_)
 ·
  refine Sx.wc_seq ?_
  refine Sx.wc_region ?_
  refine Sx.wl_v rfl rfl (Sx.ov_move _ rfl) ?_
  refine Sx.wl_v rfl rfl (Sx.ov_assign _ rfl) ?_
  refine Sx.wl_v rfl rfl (Sx.ov_assign _ rfl) ?_
  refine Sx.wl_nil ?_
  refine Sx.qn_then ?_
  refine Sx.wc_ret ?_
  refine Sx.qn_then_ret ?_
  replace h := Sx.st_nilrow k66 66 h
  replace h := Sx.st_front 1 h
  refine Sx.qn_ret [_, _] ⟨rfl, rfl, trivial⟩ ?_
  have e_ : sliceV x a b = [] := by unfold sliceV; rw [if_pos (by omega)]
  rw [e_]
  exact ⟨none, 0, rfl, h⟩
 ·
  have hok := span_ok c1
  refine Sx.wc_skip ?_
  refine Sx.qn_then ?_
  refine Sx.wc_seq ?_
  refine Sx.wc_region ?_
  refine Sx.wl_v rfl rfl (Sx.ov_move _ rfl) ?_
  refine Sx.wl_v rfl rfl (Sx.ov_move _ rfl) ?_
  refine Sx.wl_v rfl rfl (Sx.ov_move _ rfl) ?_
  refine Sx.wl_call _ rfl rfl rfl ent38 (part_calls g x a b (by omega) (by omega) (by omega) (by omega) (by omega) h) ?_
  rintro e_ w_ ⟨A2, cp3, rfl, h⟩
  refine ⟨_, rfl, ?_⟩
  refine Sx.wl_v rfl rfl (Sx.ov_assign _ rfl) ?_
  refine Sx.wl_v rfl rfl (Sx.ov_assign _ rfl) ?_
  refine Sx.wl_nil ?_
  refine Sx.qn_then ?_
  refine Sx.wc_ret ?_
  replace h := Sx.st_front 1 h
  replace h := Sx.st_front 1 h
  refine Sx.qn_ret [_, _] ⟨rfl, rfl, trivial⟩ ?_
  have e_ : sliceV x a b = runsOf (part x.st a.toNat b.toNat) := by unfold sliceV; rw [if_neg (by omega)]
  have e2_ : spanV x a b = 0 := by omega
  rw [e_, e2_]
  exact ⟨_, _, rfl, h⟩
set_option maxRecDepth 100000 in
theorem Most_calls {w0 w : World} {F0 : Nat → Prop} {R : List Sx.HP} (g : Nat) (x : LS) (hx : x.st.length ≤ 1099511627776) (h : Sx.St w0 F0 ([listS g (x)] ++ R) w) : Calls Try.prog 24 #[.pointer (some ⟨g, 0, none⟩)] w (fun e w1 => e = .returned (.int .i64 (mostV x.st)) ∧ Sx.St w0 F0 (listS g x :: R) w1) := by
 have hlen := runs_len x.st
 refine Sx.calls_fn (vs := [.pointer (some ⟨g, 0, none⟩)]) Try.func24 rfl Try.ntmps24 rfl ?_
 refine Sx.wc_seq ?_
 refine Sx.wc_region ?_
 refine Sx.wl_v rfl rfl (Sx.ov_assign _ rfl) ?_
 refine Sx.wl_nil ?_
 refine Sx.qn_then ?_
 refine Sx.wc_seq ?_
 refine Sx.wc_region ?_
 refine Sx.wl_v rfl rfl (Sx.ov_assign _ rfl) ?_
 refine Sx.wl_nil ?_
 refine Sx.qn_then ?_
 refine Sx.wc_seq ?_
 refine Sx.wc_seq ?_
 refine Sx.wc_region ?_
 refine Sx.wl_v rfl rfl (Sx.ov_move _ rfl) ?_
 refine Sx.wl_v rfl rfl (Sx.ov_nilCheck _ rfl) ?_
 refine Sx.wl_v rfl rfl (Sx.ov_fieldAddr _ ⟨g, 0, none⟩ _ rfl fo72_0 rfl) ?_
 obtain ⟨A1, c2, h⟩ := listS_open h
 refine Sx.wl_v rfl rfl (Sx.ov_loadb 0 _ h rfl rfl sh33 rfl) ?_
 refine Sx.wl_v rfl rfl (Sx.ov_len _ _ _ _ _ rfl es33) ?_
 refine Sx.wl_v rfl rfl (Sx.ov_move _ rfl) ?_
 refine Sx.wl_nil ?_
 refine Sx.qn_then ?_
 refine Sx.wc_block ?_
 replace h := Sx.st_front 1 h
 replace h := Sx.st_front 1 h
 refine Sx.wc_loop (fun (x_ : Nat) => [(0, .pointer (some ⟨g, 0, none⟩)), (3, .int .i64 (((x.st.take (posR (runsOf x.st) x_)).foldl max (-1)))), (9, .slice (A1) ((runsOf (x).st).length) (c2)), (10, .int .i64 (((runsOf x.st).length : Int))), (11, .int .i64 ((x_ : Int)))]) (fun (x_ : Nat) (w : World) => (x_ ≤ (runsOf x.st).length) ∧ Sx.St w0 F0 ([Sx.blk g [.slice (A1) ((runsOf (x).st).length) (c2), .int .i64 ((((x).st).length : Int)), .int .i64 ((x).base)] 72, Sx.row k66 66 (A1) (c2) (runsOf (x).st)] ++ R) w) (fun (x_ : Nat) => (runsOf x.st).length - x_) (0) ?_ ?_ ?_
 · exact ⟨rfl, (congrArg (fun z_ => some (Value.int .i64 z_)) (show (-1 : Int) = ((x.st.take (posR (runsOf x.st) 0)).foldl max (-1)) by rw [posR_zero]; rfl)), rfl, (congrArg (fun z_ => some (Value.int .i64 z_)) (show ((((runsOf (x).st).length : Nat) : Int) : Int) = ((runsOf x.st).length : Int) by omega)), (congrArg (fun z_ => some (Value.int .i64 z_)) (show (0 : Int) = (0 : Int) by omega)), trivial⟩
 · exact ⟨by first | omega | simp, h⟩
 intro k w h
 obtain ⟨hJ, h⟩ := h
 replace hJ : k ≤ (runsOf x.st).length := hJ
 replace h : Sx.St w0 F0 ([Sx.blk g [.slice (A1) ((runsOf (x).st).length) (c2), .int .i64 ((((x).st).length : Int)), .int .i64 ((x).base)] 72, Sx.row k66 66 (A1) (c2) (runsOf (x).st)] ++ R) w := h
 show Sx.WC _ _ _ _ [(0, .pointer (some ⟨g, 0, none⟩)), (3, .int .i64 (((x.st.take (posR (runsOf x.st) k)).foldl max (-1)))), (9, .slice (A1) ((runsOf (x).st).length) (c2)), (10, .int .i64 (((runsOf x.st).length : Int))), (11, .int .i64 ((k : Int)))] _
 refine Sx.wc_seq ?_
 refine Sx.wc_region ?_
 refine Sx.wl_v rfl rfl (Sx.ov_bin _ rfl rfl (Sx.binR_lss)) ?_
 refine Sx.wl_nil ?_
 refine Sx.qn_then ?_
 refine Sx.wc_seq ?_
 refine Sx.wc_cond (by rfl) (fun c3 => ?_) (fun c3 => ?_)
 ·
  have hk : k < (runsOf x.st).length := by omega
  have hms := most_next x.st k hk z66
  refine Sx.wc_skip ?_
  refine Sx.qn_then ?_
  refine Sx.wc_seq ?_
  refine Sx.wc_block ?_
  refine Sx.wc_seq ?_
  refine Sx.wc_region ?_
  obtain ⟨ad4, rfl⟩ := Sx.C_some ((Sx.row_reads h (i := 1) rfl).2) (k := k) (by first | assumption | omega)
  refine Sx.wl_v rfl rfl (Sx.ov_indexAddrN _ _ _ _ _ k rfl rfl es33 rfl (by first | assumption | omega | (simp only [List.length_take, List.length_drop, List.length_set]; omega))) ?_
  obtain ⟨cl7, _, hk6, hc5⟩ := Sx.C_cells ((Sx.row_reads h (i := 1) rfl).2) (z := z66) (k := k) (by first | assumption | omega)
  obtain rfl := k66_open hk6
  refine Sx.wl_v rfl rfl (Sx.ov_loadN _ [.int .i64 (((runsOf (x).st).getD k z66).f0), .int .i64 (((runsOf (x).st).getD k z66).f1)] rfl sh66 (by intro j u hu; rw [Deep.add_add]; exact (hc5 _ _ hu))) ?_
  refine Sx.wl_alloc _ h rfl rfl zo66 (fun b8 _ h => ?_)
  replace h : Sx.St _ _ (Sx.blk b8 [.int .i64 (0), .int .i64 (0)] 66 :: _) _ := h
  refine Sx.wl_storebN 0 [.int .i64 (((runsOf (x).st).getD k z66).f0), .int .i64 (((runsOf (x).st).getD k z66).f1)] [.int .i64 (((runsOf (x).st).getD k z66).f0), .int .i64 (((runsOf (x).st).getD k z66).f1)] h rfl rfl rfl rfl (by simp [Value.oneCell']) sh66 rfl rfl (fun _ h => ?_)
  refine Sx.wl_nil ?_
  refine Sx.qn_then ?_
  refine Sx.wc_region ?_
  refine Sx.wl_v rfl rfl (Sx.ov_move _ rfl) ?_
  refine Sx.wl_v rfl rfl (Sx.ov_fieldAddr _ ⟨b8, 1, none⟩ _ rfl fo66_1 rfl) ?_
  refine Sx.wl_v rfl rfl (Sx.ov_loadb 0 _ h rfl rfl sh3 rfl) ?_
  refine Sx.wl_v rfl rfl (Sx.ov_max _ _ _ (max (((x.st.take (posR (runsOf x.st) k)).foldl max (-1))) (((runsOf (x).st).getD k z66).f1)) rfl rfl rfl) ?_
  refine Sx.wl_v rfl rfl (Sx.ov_assign _ rfl) ?_
  refine Sx.wl_nil ?_
  refine Sx.qn_block_normal ?_
  refine Sx.qn_then ?_
  refine Sx.wc_region ?_
  refine Sx.wl_v rfl rfl (Sx.ov_bin _ rfl rfl (Sx.binR_add (r := ((k : Int)) + 1) (Sx.w64 (by omega)))) ?_
  refine Sx.wl_v rfl rfl (Sx.ov_move _ rfl) ?_
  refine Sx.wl_nil ?_
  replace h := Sx.st_front 2 h
  replace h := Sx.st_front 2 h
  replace h := Sx.st_selT [true, true, false] h
  refine Sx.qn_next ((k + 1)) (by show (runsOf x.st).length - (k + 1) < (runsOf x.st).length - k; omega) ⟨rfl, (congrArg (fun z_ => some (Value.int .i64 z_)) (show (max (((x.st.take (posR (runsOf x.st) k)).foldl max (-1))) (((runsOf (x).st).getD k z66).f1) : Int) = ((x.st.take (posR (runsOf x.st) (k + 1))).foldl max (-1)) by exact hms)), (congrArg (fun z_ => some (Value.slice (some ad4) z_ (c2))) (show ((runsOf (x).st).length : Nat) = (runsOf (x).st).length by first | rfl | simp)), rfl, (congrArg (fun z_ => some (Value.int .i64 z_)) (show (((k : Int)) + 1 : Int) = ((k + 1) : Int) by omega)), trivial⟩ ?_
  show ((k + 1) ≤ (runsOf x.st).length) ∧ _
  exact ⟨by first | omega | simp, h⟩
 ·
  refine Sx.wc_exit ?_
  refine Sx.qn_then_exit ?_
  refine Sx.qn_then_exit ?_
  refine Sx.qn_block_exit ?_
  refine Sx.qn_then ?_
  refine Sx.wc_seq ?_
  refine Sx.wc_region ?_
  refine Sx.wl_v rfl rfl (Sx.ov_move _ rfl) ?_
  refine Sx.wl_v rfl rfl (Sx.ov_assign _ rfl) ?_
  refine Sx.wl_nil ?_
  refine Sx.qn_then ?_
  refine Sx.wc_ret ?_
  replace h := Sx.st_front 1 h
  replace h := Sx.st_front 1 h
  replace h := listS_close (σ := (x).st) (by first | rfl | simp) (by first | rfl | simp) h
  refine Sx.qn_ret [_] ⟨rfl, trivial⟩ ?_
  obtain rfl : k = (runsOf x.st).length := by omega
  rw [posR_all, List.take_length]
  exact ⟨rfl, h⟩
set_option maxRecDepth 100000 in
theorem New_calls {w0 w : World} {F0 : Nat → Prop} {R : List Sx.HP} (n s : Int)  (h : Sx.St w0 F0 ([] ++ R) w) : Calls Try.prog 21 #[.int .i64 (n), .int .i64 (s)] w (fun e w1 => (newE n s ≠ 0 ∧ e = .returned (.tuple #[.pointer none, .int .i64 (newE n s)]) ∧ Sx.St w0 F0 R w1) ∨ (newE n s = 0 ∧ ∃ g, e = .returned (.tuple #[.pointer (some ⟨g, 0, none⟩), .int .i64 0]) ∧ Sx.St w0 F0 (listS g ⟨List.replicate n.toNat s, s⟩ :: R) w1)) := by
 refine Sx.calls_fn (vs := [.int .i64 (n), .int .i64 (s)]) Try.func21 rfl Try.ntmps21 rfl ?_
 refine Sx.wc_seq ?_
 refine Sx.wc_region ?_
 refine Sx.wl_v rfl rfl (Sx.ov_assign _ rfl) ?_
 refine Sx.wl_v rfl rfl (Sx.ov_assign _ rfl) ?_
 refine Sx.wl_nil ?_
 refine Sx.qn_then ?_
 refine Sx.wc_seq ?_
 refine Sx.wc_seq ?_
 refine Sx.wc_region ?_
 refine Sx.wl_v rfl rfl (Sx.ov_move _ rfl) ?_
 refine Sx.wl_v rfl rfl (Sx.ov_bin _ rfl rfl (Sx.binR_lss)) ?_
 refine Sx.wl_v rfl rfl (Sx.ov_move _ rfl) ?_
 refine Sx.wl_split 9 rfl (fun c1 => ?_) (fun c1 => ?_)
 ·
  refine Sx.wl_skip rfl rfl ?_
  refine Sx.wl_skip rfl rfl ?_
  refine Sx.wl_v rfl rfl (Sx.ov_pick_true _ rfl rfl) ?_
  refine Sx.wl_nil ?_
  refine Sx.qn_then ?_
  refine Sx.wc_cond_true rfl ?_
  refine Sx.wc_seq ?_
  refine Sx.wc_region ?_
  refine Sx.wl_v rfl rfl (Sx.ov_assign _ rfl) ?_
  refine Sx.wl_v rfl rfl (Sx.ov_assign _ rfl) ?_
  refine Sx.wl_nil ?_
  refine Sx.qn_then ?_
  refine Sx.wc_ret ?_
  refine Sx.qn_then_ret ?_
  refine Sx.qn_ret [_, _] ⟨rfl, rfl, trivial⟩ ?_
  exact .inl ⟨by unfold newE; rw [if_pos (by omega)]; decide, by rw [show newE n s = 1 by unfold newE; rw [if_pos (by omega)]]; rfl, h⟩
 ·
  refine Sx.wl_v rfl rfl (Sx.ov_move _ rfl) ?_
  refine Sx.wl_v rfl rfl (Sx.ov_bin _ rfl rfl (Sx.binR_gtr)) ?_
  refine Sx.wl_v rfl rfl (Sx.ov_pick_false _ rfl rfl) ?_
  refine Sx.wl_nil ?_
  refine Sx.qn_then ?_
  refine Sx.wc_cond (by rfl) (fun c2 => ?_) (fun c2 => ?_)
  ·
   refine Sx.wc_seq ?_
   refine Sx.wc_region ?_
   refine Sx.wl_v rfl rfl (Sx.ov_assign _ rfl) ?_
   refine Sx.wl_v rfl rfl (Sx.ov_assign _ rfl) ?_
   refine Sx.wl_nil ?_
   refine Sx.qn_then ?_
   refine Sx.wc_ret ?_
   refine Sx.qn_then_ret ?_
   refine Sx.qn_ret [_, _] ⟨rfl, rfl, trivial⟩ ?_
   exact .inl ⟨by unfold newE; rw [if_pos (by omega)]; decide, by rw [show newE n s = 1 by unfold newE; rw [if_pos (by omega)]]; rfl, h⟩
  ·
   refine Sx.wc_skip ?_
   refine Sx.qn_then ?_
   refine Sx.wc_seq ?_
   refine Sx.wc_seq ?_
   refine Sx.wc_region ?_
   refine Sx.wl_v rfl rfl (Sx.ov_move _ rfl) ?_
   refine Sx.wl_call _ rfl rfl rfl ent39 (style_calls (R := [] ++ R) s h) ?_
   rintro e_ w_ ⟨rfl, h⟩
   refine ⟨_, rfl, ?_⟩
   refine Sx.wl_v rfl rfl (Sx.ov_not _ (¬ (styleP s)) rfl (by first | exact decide_not.symm | simp)) ?_
   refine Sx.wl_nil ?_
   refine Sx.qn_then ?_
   refine Sx.wc_cond (by rfl) (fun c3 => ?_) (fun c3 => ?_)
   ·
    refine Sx.wc_seq ?_
    refine Sx.wc_region ?_
    refine Sx.wl_v rfl rfl (Sx.ov_assign _ rfl) ?_
    refine Sx.wl_v rfl rfl (Sx.ov_assign _ rfl) ?_
    refine Sx.wl_nil ?_
    refine Sx.qn_then ?_
    refine Sx.wc_ret ?_
    refine Sx.qn_then_ret ?_
    refine Sx.qn_ret [_, _] ⟨rfl, rfl, trivial⟩ ?_
    exact .inl ⟨by unfold newE; rw [if_neg (by omega), if_pos (by omega)]; decide, by rw [show newE n s = 43 by unfold newE; rw [if_neg (by omega), if_pos (by omega)]]; rfl, h⟩
   ·
    refine Sx.wc_skip ?_
    refine Sx.qn_then ?_
    refine Sx.wc_seq ?_
    refine Sx.wc_region ?_
    refine Sx.wl_v rfl rfl (Sx.ov_move _ rfl) ?_
    refine Sx.wl_v rfl rfl (Sx.ov_build [(2, .int .i64 (s))] [.slice (none) (0) (0), .int .i64 (0), .int .i64 (s)] rfl rfl (by kernel_rfl)) ?_
    refine Sx.wl_box _ h rfl rfl rfl (fun b4 _ h => ?_)
    replace h : Sx.St _ _ (Sx.blk b4 [.slice (none) (0) (0), .int .i64 (0), .int .i64 (s)] 72 :: _) _ := h
    refine Sx.wl_v rfl rfl (Sx.ov_assign _ rfl) ?_
    refine Sx.wl_nil ?_
    refine Sx.qn_then ?_
    refine Sx.wc_seq ?_
    refine Sx.wc_region ?_
    refine Sx.wl_v rfl rfl (Sx.ov_move _ rfl) ?_
    refine Sx.wl_v rfl rfl (Sx.ov_move _ rfl) ?_
    refine Sx.wl_v rfl rfl (Sx.ov_move _ rfl) ?_
    replace h := Sx.st_nilrow k66 66 h
    replace h := Sx.st_front 1 h
    replace h := listS_close (σ := []) (by first | rfl | simp) (by first | rfl | simp) h
    refine Sx.wl_call _ rfl rfl rfl ent40 (put_S b4 ((⟨[], s⟩ : LS)) n s (by first | omega | (simp; omega)) (by simp [runsOf_nil]) h) ?_
    rintro e_ w_ ⟨rfl, h⟩
    refine ⟨_, rfl, ?_⟩
    refine Sx.wl_nil ?_
    refine Sx.qn_then ?_
    refine Sx.wc_seq ?_
    refine Sx.wc_region ?_
    refine Sx.wl_v rfl rfl (Sx.ov_move _ rfl) ?_
    refine Sx.wl_v rfl rfl (Sx.ov_assign _ rfl) ?_
    refine Sx.wl_v rfl rfl (Sx.ov_assign _ rfl) ?_
    refine Sx.wl_nil ?_
    refine Sx.qn_then ?_
    refine Sx.wc_ret ?_
    have e_ : (⟨((⟨[], s⟩ : LS)).st ++ List.replicate (n : Int).toNat s, ((⟨[], s⟩ : LS)).base⟩ : LS) = (⟨List.replicate n.toNat s, s⟩ : LS) := by rfl
    replace h := Sx.st_cast (congrArg (fun z_ => ([listS b4 (z_)] ++ R)) e_) h
    clear e_
    refine Sx.qn_ret [_, _] ⟨rfl, rfl, trivial⟩ ?_
    exact .inr ⟨by unfold newE; rw [if_neg (by omega), if_neg (by omega)], _, rfl, h⟩

theorem layE_append (l : List Rn) (r : Rn) : ∀ room : Int, layE room l = 0 → layE room (l ++ [r]) = layE (room - lenR l) [r] := by
  induction l with
  | nil => intro room _; simp [lenR]
  | cons q l ih =>
    intro room h
    rw [layE] at h
    simp only [List.cons_append]
    rw [layE]
    split at h
    · cases h
    · split at h
      · cases h
      · split at h
        · cases h
        · rename_i h1 h2 h3
          rw [if_neg h1, if_neg h2, if_neg h3, ih _ h]
          congr 1
          simp only [lenR, List.map_cons, List.sum_cons]
          omega
theorem lay_room (l : List Rn) : ∀ room : Int, 0 ≤ room → layE room l = 0 → lenR l ≤ room ∧ 0 ≤ lenR l ∧ ∀ r ∈ l, 0 ≤ r.f0 := by
  induction l with
  | nil => intro room h _; simp [lenR]; omega
  | cons q l ih =>
    intro room hr h
    rw [layE] at h
    split at h
    · cases h
    · split at h
      · cases h
      · split at h
        · cases h
        · rename_i h1 h2 h3
          have h4 := ih _ (by omega) h
          refine ⟨?_, ?_, ?_⟩
          · simp only [lenR, List.map_cons, List.sum_cons] at h4 ⊢; omega
          · simp only [lenR, List.map_cons, List.sum_cons] at h4 ⊢; omega
          · intro r hr
            rcases List.mem_cons.1 hr with rfl | hr
            · omega
            · exact h4.2.2 r hr
theorem lay_first {l : List Rn} : ∀ {k : Nat} {room : Int}, layE room (l.take k) ≠ 0 → layE room l = layE room (l.take k) := by
  induction l with
  | nil => intro k room h; simp at h; exact absurd rfl h
  | cons q l ih =>
    intro k room h
    cases k with
    | zero => exact absurd rfl h
    | succ k =>
      rw [List.take_succ_cons] at h ⊢
      rw [layE] at h ⊢
      rw [layE]
      split
      · rfl
      · split
        · rfl
        · split
          · rfl
          · rename_i h1 h2 h3
            rw [if_neg h1, if_neg h2, if_neg h3] at h
            exact ih h
theorem take_next {α : Type} (l : List α) (k : Nat) (hk : k < l.length) (z : α) : l.take (k + 1) = l.take k ++ [l.getD k z] := by
  rw [List.take_succ_eq_append_getElem hk]; simp [List.getD, hk]
theorem lay_next {l : List Rn} {k : Nat} {room : Int} (hk : k < l.length) (z : Rn) (h : layE room (l.take k) = 0) : layE room (l.take (k + 1)) = layE (room - lenR (l.take k)) [l.getD k z] := by
  rw [take_next l k hk z, layE_append _ _ _ h]
theorem lenR_next {l : List Rn} {k : Nat} (hk : k < l.length) (z : Rn) : lenR (l.take (k + 1)) = lenR (l.take k) + (l.getD k z).f0 := by
  rw [take_next l k hk z]; simp [lenR]
theorem expand_next {l : List Rn} {k : Nat} (hk : k < l.length) (z : Rn) : expand (l.take (k + 1)) = expand (l.take k) ++ List.replicate (l.getD k z).f0.toNat (l.getD k z).f1 := expand_take_succ l k hk z
theorem expand_len0 {L : List Rn} (h : ∀ r ∈ L, 0 ≤ r.f0) : ((expand L).length : Int) = lenR L := by
  induction L with
  | nil => rfl
  | cons r L ih =>
    have h1 := h r List.mem_cons_self
    have h2 := ih (fun q hq => h q (List.mem_cons_of_mem _ hq))
    have e : (expand (r :: L)).length = r.f0.toNat + (expand L).length := by simp [expand]
    rw [e]
    simp only [lenR, List.map_cons, List.sum_cons] at h2 ⊢
    omega
/-- The first runs of runs that fit, fit. -/
theorem lay_take {l : List Rn} {room : Int} (h : layE room l = 0) (k : Nat) : layE room (l.take k) = 0 := by
  by_cases e : layE room (l.take k) = 0
  · exact e
  · rw [lay_first e] at h; exact h

set_option maxRecDepth 100000 in
theorem Lay_calls {w0 w : World} {F0 : Nat → Prop} {R : List Sx.HP} (g : Nat) (x : LS) (i : Int) (l : List Rn) (Al : Option Addr) (cl : Nat) (hx : x.st.length ≤ 65536) (hll : l.length ≤ 1099511627776) (hr : ∀ cs w, Sx.St w0 F0 (cs ++ R) w → k66.C w Al l.length l) (h : Sx.St w0 F0 ([listS g (x)] ++ R) w) : Calls Try.prog 31 #[.pointer (some ⟨g, 0, none⟩), .int .i64 (i), .slice (Al) (l.length) (cl)] w (fun e w1 => e = .returned (.int .i64 (layV x i l).2) ∧ Sx.St w0 F0 (listS g (layV x i l).1 :: R) w1) := by
 refine Sx.calls_fn (vs := [.pointer (some ⟨g, 0, none⟩), .int .i64 (i), .slice (Al) (l.length) (cl)]) Try.func31 rfl Try.ntmps31 rfl ?_
 refine Sx.wc_seq ?_
 refine Sx.wc_region ?_
 refine Sx.wl_v rfl rfl (Sx.ov_assign _ rfl) ?_
 refine Sx.wl_nil ?_
 refine Sx.qn_then ?_
 refine Sx.wc_seq ?_
 refine Sx.wc_seq ?_
 refine Sx.wc_region ?_
 refine Sx.wl_v rfl rfl (Sx.ov_move _ rfl) ?_
 refine Sx.wl_v rfl rfl (Sx.ov_bin _ rfl rfl (Sx.binR_lss)) ?_
 refine Sx.wl_v rfl rfl (Sx.ov_move _ rfl) ?_
 refine Sx.wl_split 15 rfl (fun c1 => ?_) (fun c1 => ?_)
 ·
  refine Sx.wl_skip rfl rfl ?_
  refine Sx.wl_skip rfl rfl ?_
  refine Sx.wl_skip rfl rfl ?_
  refine Sx.wl_skip rfl rfl ?_
  refine Sx.wl_skip rfl rfl ?_
  refine Sx.wl_skip rfl rfl ?_
  refine Sx.wl_v rfl rfl (Sx.ov_pick_true _ rfl rfl) ?_
  refine Sx.wl_nil ?_
  refine Sx.qn_then ?_
  refine Sx.wc_cond_true rfl ?_
  refine Sx.wc_seq ?_
  refine Sx.wc_region ?_
  refine Sx.wl_v rfl rfl (Sx.ov_assign _ rfl) ?_
  refine Sx.wl_nil ?_
  refine Sx.qn_then ?_
  refine Sx.wc_ret ?_
  refine Sx.qn_then_ret ?_
  refine Sx.qn_ret [_] ⟨rfl, trivial⟩ ?_
  have e_ : layV x i l = (x, 30) := by unfold layV; rw [if_pos (by omega)]
  rw [e_]
  exact ⟨rfl, h⟩
 ·
  refine Sx.wl_v rfl rfl (Sx.ov_move _ rfl) ?_
  refine Sx.wl_v rfl rfl (Sx.ov_move _ rfl) ?_
  refine Sx.wl_v rfl rfl (Sx.ov_nilCheck _ rfl) ?_
  refine Sx.wl_v rfl rfl (Sx.ov_fieldAddr _ ⟨g, 1, none⟩ _ rfl fo72_1 rfl) ?_
  obtain ⟨A2, c3, h⟩ := listS_open h
  refine Sx.wl_v rfl rfl (Sx.ov_loadb 0 _ h rfl rfl sh3 rfl) ?_
  refine Sx.wl_v rfl rfl (Sx.ov_bin _ rfl rfl (Sx.binR_gtr)) ?_
  refine Sx.wl_v rfl rfl (Sx.ov_pick_false _ rfl rfl) ?_
  refine Sx.wl_nil ?_
  refine Sx.qn_then ?_
  refine Sx.wc_cond (by rfl) (fun c4 => ?_) (fun c4 => ?_)
  ·
   refine Sx.wc_seq ?_
   refine Sx.wc_region ?_
   refine Sx.wl_v rfl rfl (Sx.ov_assign _ rfl) ?_
   refine Sx.wl_nil ?_
   refine Sx.qn_then ?_
   refine Sx.wc_ret ?_
   refine Sx.qn_then_ret ?_
   replace h := Sx.st_front 1 h
   replace h := Sx.st_front 1 h
   replace h := listS_close (σ := (x).st) (by first | rfl | simp) (by first | rfl | simp) h
   refine Sx.qn_ret [_] ⟨rfl, trivial⟩ ?_
   have e_ : layV x i l = (x, 30) := by unfold layV; rw [if_pos (by omega)]
   rw [e_]
   exact ⟨rfl, h⟩
  ·
   refine Sx.wc_skip ?_
   refine Sx.qn_then ?_
   refine Sx.wc_seq ?_
   refine Sx.wc_region ?_
   refine Sx.wl_v rfl rfl (Sx.ov_move _ rfl) ?_
   refine Sx.wl_v rfl rfl (Sx.ov_nilCheck _ rfl) ?_
   refine Sx.wl_v rfl rfl (Sx.ov_fieldAddr _ ⟨g, 1, none⟩ _ rfl fo72_1 rfl) ?_
   refine Sx.wl_v rfl rfl (Sx.ov_loadb 0 _ h rfl rfl sh3 rfl) ?_
   refine Sx.wl_v rfl rfl (Sx.ov_move _ rfl) ?_
   refine Sx.wl_v rfl rfl (Sx.ov_bin _ rfl rfl (Sx.binR_sub (r := ((((x).st).length : Int)) - i) (Sx.w64 (by omega)))) ?_
   refine Sx.wl_v rfl rfl (Sx.ov_assign _ rfl) ?_
   refine Sx.wl_nil ?_
   refine Sx.qn_then ?_
   refine Sx.wc_seq ?_
   refine Sx.wc_seq ?_
   refine Sx.wc_region ?_
   refine Sx.wl_v rfl rfl (Sx.ov_move _ rfl) ?_
   refine Sx.wl_v rfl rfl (Sx.ov_len _ _ _ _ _ rfl es33) ?_
   refine Sx.wl_v rfl rfl (Sx.ov_move _ rfl) ?_
   refine Sx.wl_nil ?_
   refine Sx.qn_then ?_
   refine Sx.wc_block ?_
   replace h := Sx.st_front 1 h
   replace h := Sx.st_front 1 h
   replace h := listS_close (σ := (x).st) (by first | rfl | simp) (by first | rfl | simp) h
   refine Sx.wc_loop (fun (x_ : Nat) => [(0, .pointer (some ⟨g, 0, none⟩)), (1, .int .i64 (i)), (2, .slice (Al) (l.length) (cl)), (7, .int .i64 (((x.st.length : Int) - i) - lenR (l.take x_))), (29, .slice (Al) (l.length) (cl)), (30, .int .i64 ((l.length : Int))), (31, .int .i64 ((x_ : Int)))]) (fun (x_ : Nat) (w : World) => (x_ ≤ l.length ∧ layE ((x.st.length : Int) - i) (l.take x_) = 0) ∧ Sx.St w0 F0 ([listS g (x)] ++ R) w) (fun (x_ : Nat) => l.length - x_) (0) ?_ ?_ ?_
   · exact ⟨rfl, rfl, rfl, (congrArg (fun z_ => some (Value.int .i64 z_)) (show (((((x).st).length : Int)) - i : Int) = ((x.st.length : Int) - i) - lenR (l.take 0) by simp [lenR])), rfl, (congrArg (fun z_ => some (Value.int .i64 z_)) (show (((l.length : Nat) : Int) : Int) = (l.length : Int) by omega)), (congrArg (fun z_ => some (Value.int .i64 z_)) (show (0 : Int) = (0 : Int) by omega)), trivial⟩
   · exact ⟨⟨Nat.zero_le _, rfl⟩, h⟩
   intro k w h
   obtain ⟨hJ, h⟩ := h
   replace hJ : k ≤ l.length ∧ layE ((x.st.length : Int) - i) (l.take k) = 0 := hJ
   replace h : Sx.St w0 F0 ([listS g (x)] ++ R) w := h
   show Sx.WC _ _ _ _ [(0, .pointer (some ⟨g, 0, none⟩)), (1, .int .i64 (i)), (2, .slice (Al) (l.length) (cl)), (7, .int .i64 (((x.st.length : Int) - i) - lenR (l.take k))), (29, .slice (Al) (l.length) (cl)), (30, .int .i64 ((l.length : Int))), (31, .int .i64 ((k : Int)))] _
   refine Sx.wc_seq ?_
   refine Sx.wc_region ?_
   refine Sx.wl_v rfl rfl (Sx.ov_bin _ rfl rfl (Sx.binR_lss)) ?_
   refine Sx.wl_nil ?_
   refine Sx.qn_then ?_
   refine Sx.wc_seq ?_
   refine Sx.wc_cond (by rfl) (fun c5 => ?_) (fun c5 => ?_)
   ·
    have hk : k < l.length := by omega
    have hln := lenR_next hk z66
    have hly := lay_next hk z66 hJ.2
    have hrm := lay_room (l.take k) ((x.st.length : Int) - i) (by omega) hJ.2
    refine Sx.wc_skip ?_
    refine Sx.qn_then ?_
    refine Sx.wc_seq ?_
    refine Sx.wc_block ?_
    refine Sx.wc_seq ?_
    refine Sx.wc_region ?_
    obtain ⟨ad6, rfl⟩ := Sx.C_some ((hr [_] _ h)) (k := k) (by first | assumption | omega)
    refine Sx.wl_v rfl rfl (Sx.ov_indexAddrN _ _ _ _ _ k rfl rfl es33 rfl (by first | assumption | omega | (simp only [List.length_take, List.length_drop, List.length_set]; omega))) ?_
    obtain ⟨cl9, _, hk8, hc7⟩ := Sx.C_cells ((hr [_] _ h)) (z := z66) (k := k) (by first | assumption | omega)
    obtain rfl := k66_open hk8
    refine Sx.wl_v rfl rfl (Sx.ov_loadN _ [.int .i64 (((l).getD k z66).f0), .int .i64 (((l).getD k z66).f1)] rfl sh66 (by intro j u hu; rw [Deep.add_add]; exact (hc7 _ _ hu))) ?_
    refine Sx.wl_alloc _ h rfl rfl zo66 (fun b10 _ h => ?_)
    replace h : Sx.St _ _ (Sx.blk b10 [.int .i64 (0), .int .i64 (0)] 66 :: _) _ := h
    refine Sx.wl_storebN 0 [.int .i64 (((l).getD k z66).f0), .int .i64 (((l).getD k z66).f1)] [.int .i64 (((l).getD k z66).f0), .int .i64 (((l).getD k z66).f1)] h rfl rfl rfl rfl (by simp [Value.oneCell']) sh66 rfl rfl (fun _ h => ?_)
    refine Sx.wl_nil ?_
    refine Sx.qn_then ?_
    refine Sx.wc_seq ?_
    refine Sx.wc_block ?_
    refine Sx.wc_seq ?_
    refine Sx.wc_region ?_
    refine Sx.wl_v rfl rfl (Sx.ov_fieldAddr _ ⟨b10, 0, none⟩ _ rfl fo66_0 rfl) ?_
    refine Sx.wl_v rfl rfl (Sx.ov_loadb 0 _ h rfl rfl sh3 rfl) ?_
    refine Sx.wl_v rfl rfl (Sx.ov_bin _ rfl rfl (Sx.binR_lss)) ?_
    refine Sx.wl_v rfl rfl (Sx.ov_assign _ rfl) ?_
    refine Sx.wl_nil ?_
    refine Sx.qn_then ?_
    refine Sx.wc_cond (by rfl) (fun c11 => ?_) (fun c11 => ?_)
    ·
     refine Sx.wc_seq ?_
     refine Sx.wc_region ?_
     refine Sx.wl_v rfl rfl (Sx.ov_assign _ rfl) ?_
     refine Sx.wl_nil ?_
     refine Sx.qn_then ?_
     refine Sx.wc_ret ?_
     refine Sx.qn_block_ret ?_
     refine Sx.qn_then_ret ?_
     refine Sx.qn_block_ret ?_
     refine Sx.qn_then_ret ?_
     refine Sx.qn_then_ret ?_
     refine Sx.qn_block_ret ?_
     refine Sx.qn_then_ret ?_
     replace h := Sx.st_front 1 h
     replace h := Sx.st_selT [true, false] h
     refine Sx.qn_ret [_] ⟨rfl, trivial⟩ ?_
     have e1_ : layE ((x.st.length : Int) - i) (l.take (k + 1)) = 1 := by rw [hly, layE, if_pos (by omega)]
     have e2_ : layE ((x.st.length : Int) - i) l = 1 := by rw [lay_first (k := k + 1) (by rw [e1_]; decide), e1_]
     have e_ : layV x i l = (x, 1) := by unfold layV; rw [if_neg (by omega), if_pos (by rw [e2_]; decide), e2_]
     rw [e_]
     exact ⟨rfl, h⟩
    ·
     refine Sx.wc_seq ?_
     refine Sx.wc_region ?_
     refine Sx.wl_v rfl rfl (Sx.ov_fieldAddr _ ⟨b10, 1, none⟩ _ rfl fo66_1 rfl) ?_
     refine Sx.wl_v rfl rfl (Sx.ov_loadb 0 _ h rfl rfl sh3 rfl) ?_
     refine Sx.wl_call _ rfl rfl rfl ent39 (style_calls (R := [Sx.blk b10 [.int .i64 (((l).getD k z66).f0), .int .i64 (((l).getD k z66).f1)] 66, listS g (x)] ++ R) (((l).getD k z66).f1) h) ?_
     rintro e_ w_ ⟨rfl, h⟩
     refine ⟨_, rfl, ?_⟩
     refine Sx.wl_v rfl rfl (Sx.ov_not _ (¬ (styleP (((l).getD k z66).f1))) rfl (by first | exact decide_not.symm | simp)) ?_
     refine Sx.wl_v rfl rfl (Sx.ov_assign _ rfl) ?_
     refine Sx.wl_nil ?_
     refine Sx.qn_then ?_
     refine Sx.wc_cond (by rfl) (fun c12 => ?_) (fun c12 => ?_)
     ·
      refine Sx.wc_seq ?_
      refine Sx.wc_region ?_
      refine Sx.wl_v rfl rfl (Sx.ov_assign _ rfl) ?_
      refine Sx.wl_nil ?_
      refine Sx.qn_then ?_
      refine Sx.wc_ret ?_
      refine Sx.qn_block_ret ?_
      refine Sx.qn_then_ret ?_
      refine Sx.qn_block_ret ?_
      refine Sx.qn_then_ret ?_
      refine Sx.qn_then_ret ?_
      refine Sx.qn_block_ret ?_
      refine Sx.qn_then_ret ?_
      replace h := Sx.st_front 1 h
      replace h := Sx.st_selT [true, false] h
      refine Sx.qn_ret [_] ⟨rfl, trivial⟩ ?_
      have e1_ : layE ((x.st.length : Int) - i) (l.take (k + 1)) = 43 := by rw [hly, layE, if_neg (by omega), if_pos (by omega)]
      have e2_ : layE ((x.st.length : Int) - i) l = 43 := by rw [lay_first (k := k + 1) (by rw [e1_]; decide), e1_]
      have e_ : layV x i l = (x, 43) := by unfold layV; rw [if_neg (by omega), if_pos (by rw [e2_]; decide), e2_]
      rw [e_]
      exact ⟨rfl, h⟩
     ·
      refine Sx.wc_seq ?_
      refine Sx.wc_region ?_
      refine Sx.wl_v rfl rfl (Sx.ov_fieldAddr _ ⟨b10, 0, none⟩ _ rfl fo66_0 rfl) ?_
      refine Sx.wl_v rfl rfl (Sx.ov_loadb 0 _ h rfl rfl sh3 rfl) ?_
      refine Sx.wl_v rfl rfl (Sx.ov_move _ rfl) ?_
      refine Sx.wl_v rfl rfl (Sx.ov_bin _ rfl rfl (Sx.binR_gtr)) ?_
      refine Sx.wl_v rfl rfl (Sx.ov_assign _ rfl) ?_
      refine Sx.wl_nil ?_
      refine Sx.qn_then ?_
      refine Sx.wc_cond (by rfl) (fun c13 => ?_) (fun c13 => ?_)
      ·
       refine Sx.wc_seq ?_
       refine Sx.wc_region ?_
       refine Sx.wl_v rfl rfl (Sx.ov_assign _ rfl) ?_
       refine Sx.wl_nil ?_
       refine Sx.qn_then ?_
       refine Sx.wc_ret ?_
       refine Sx.qn_block_ret ?_
       refine Sx.qn_then_ret ?_
       refine Sx.qn_block_ret ?_
       refine Sx.qn_then_ret ?_
       refine Sx.qn_then_ret ?_
       refine Sx.qn_block_ret ?_
       refine Sx.qn_then_ret ?_
       replace h := Sx.st_front 1 h
       replace h := Sx.st_selT [true, false] h
       refine Sx.qn_ret [_] ⟨rfl, trivial⟩ ?_
       have e1_ : layE ((x.st.length : Int) - i) (l.take (k + 1)) = 30 := by rw [hly, layE, if_neg (by omega), if_neg (by omega), if_pos (by omega)]
       have e2_ : layE ((x.st.length : Int) - i) l = 30 := by rw [lay_first (k := k + 1) (by rw [e1_]; decide), e1_]
       have e_ : layV x i l = (x, 30) := by unfold layV; rw [if_neg (by omega), if_pos (by rw [e2_]; decide), e2_]
       rw [e_]
       exact ⟨rfl, h⟩
      ·
       refine Sx.wc_skip ?_
       refine Sx.qn_block_normal ?_
       refine Sx.qn_then ?_
       refine Sx.wc_region ?_
       refine Sx.wl_v rfl rfl (Sx.ov_move _ rfl) ?_
       refine Sx.wl_v rfl rfl (Sx.ov_fieldAddr _ ⟨b10, 0, none⟩ _ rfl fo66_0 rfl) ?_
       refine Sx.wl_v rfl rfl (Sx.ov_loadb 0 _ h rfl rfl sh3 rfl) ?_
       refine Sx.wl_v rfl rfl (Sx.ov_bin _ rfl rfl (Sx.binR_sub (r := (((x.st.length : Int) - i) - lenR (l.take k)) - (((l).getD k z66).f0)) (Sx.w64 (by omega)))) ?_
       refine Sx.wl_v rfl rfl (Sx.ov_assign _ rfl) ?_
       refine Sx.wl_nil ?_
       refine Sx.qn_block_normal ?_
       refine Sx.qn_then ?_
       refine Sx.wc_region ?_
       refine Sx.wl_v rfl rfl (Sx.ov_bin _ rfl rfl (Sx.binR_add (r := ((k : Int)) + 1) (Sx.w64 (by omega)))) ?_
       refine Sx.wl_v rfl rfl (Sx.ov_move _ rfl) ?_
       refine Sx.wl_nil ?_
       replace h := Sx.st_front 1 h
       replace h := Sx.st_selT [true, false] h
       refine Sx.qn_next ((k + 1)) (by show l.length - (k + 1) < l.length - k; omega) ⟨rfl, rfl, (congrArg (fun z_ => some (Value.slice (some ad6) z_ (cl))) (show (l.length : Nat) = l.length by first | rfl | simp)), (congrArg (fun z_ => some (Value.int .i64 z_)) (show ((((x.st.length : Int) - i) - lenR (l.take k)) - (((l).getD k z66).f0) : Int) = ((x.st.length : Int) - i) - lenR (l.take (k + 1)) by omega)), (congrArg (fun z_ => some (Value.slice (some ad6) z_ (cl))) (show (l.length : Nat) = l.length by first | rfl | simp)), rfl, (congrArg (fun z_ => some (Value.int .i64 z_)) (show (((k : Int)) + 1 : Int) = ((k + 1) : Int) by omega)), trivial⟩ ?_
       show ((k + 1) ≤ l.length ∧ layE ((x.st.length : Int) - i) (l.take (k + 1)) = 0) ∧ _
       exact ⟨⟨by omega, by rw [hly, layE, if_neg (by omega), if_neg (by omega), if_neg (by omega)]; rfl⟩, h⟩
   ·
    refine Sx.wc_exit ?_
    refine Sx.qn_then_exit ?_
    refine Sx.qn_then_exit ?_
    refine Sx.qn_block_exit ?_
    refine Sx.qn_then ?_
    refine Sx.wc_seq ?_
    refine Sx.wc_region ?_
    refine Sx.wl_v rfl rfl (Sx.ov_build [] [.slice (none) (0) (0), .int .i64 (0), .int .i64 (0)] rfl rfl (by kernel_rfl)) ?_
    refine Sx.wl_box _ h rfl rfl rfl (fun b14 _ h => ?_)
    replace h : Sx.St _ _ (Sx.blk b14 [.slice (none) (0) (0), .int .i64 (0), .int .i64 (0)] 72 :: _) _ := h
    refine Sx.wl_v rfl rfl (Sx.ov_assign _ rfl) ?_
    refine Sx.wl_nil ?_
    refine Sx.qn_then ?_
    refine Sx.wc_seq ?_
    refine Sx.wc_region ?_
    refine Sx.wl_v rfl rfl (Sx.ov_move _ rfl) ?_
    refine Sx.wl_v rfl rfl (Sx.ov_move _ rfl) ?_
    refine Sx.wl_v rfl rfl (Sx.ov_move _ rfl) ?_
    replace h := Sx.st_nilrow k66 66 h
    replace h := Sx.st_front 1 h
    replace h := listS_close (σ := []) (by first | rfl | simp) (by first | rfl | simp) h
    replace h := Sx.st_front 1 h
    refine Sx.wl_call _ rfl rfl rfl ent42 (copyTo_calls g b14 x ((⟨[], 0⟩ : LS)) 0 i (by first | omega | (simp only [List.length_append, List.length_nil, List.length_replicate, part, List.length_take, List.length_drop]; omega)) (by first | omega | (simp only [List.length_append, List.length_nil, List.length_replicate, part, List.length_take, List.length_drop]; omega)) (by first | omega | (simp only [List.length_append, List.length_nil, List.length_replicate, part, List.length_take, List.length_drop]; omega)) (by first | omega | (simp only [List.length_append, List.length_nil, List.length_replicate, part, List.length_take, List.length_drop]; omega)) (by first | omega | (simp only [List.length_append, List.length_nil, List.length_replicate, part, List.length_take, List.length_drop]; omega)) (by first | omega | (simp only [List.length_append, List.length_nil, List.length_replicate, part, List.length_take, List.length_drop]; omega)) h) ?_
    rintro e_ w_ ⟨rfl, h⟩
    refine ⟨_, rfl, ?_⟩
    refine Sx.wl_nil ?_
    refine Sx.qn_then ?_
    refine Sx.wc_seq ?_
    refine Sx.wc_seq ?_
    refine Sx.wc_region ?_
    refine Sx.wl_v rfl rfl (Sx.ov_move _ rfl) ?_
    refine Sx.wl_v rfl rfl (Sx.ov_len _ _ _ _ _ rfl es33) ?_
    refine Sx.wl_v rfl rfl (Sx.ov_move _ rfl) ?_
    refine Sx.wl_nil ?_
    refine Sx.qn_then ?_
    refine Sx.wc_block ?_
    obtain rfl : k = l.length := by omega
    rw [List.take_length] at hJ
    have hok := hJ.2
    clear hJ
    have hrm := lay_room l ((x.st.length : Int) - i) (by omega) hok
    have hxl := expand_len0 hrm.2.2
    have e_ : (⟨((⟨[], 0⟩ : LS)).st ++ part (x).st (0 : Int).toNat (i : Int).toNat, ((⟨[], 0⟩ : LS)).base⟩ : LS) = (⟨x.st.take i.toNat ++ expand (l.take 0), 0⟩ : LS) := by simp [part_zero, expand]
    replace h := Sx.st_cast (congrArg (fun z_ => ([listS g (x), listS b14 (z_)] ++ R)) e_) h
    clear e_
    replace h := Sx.st_front 1 h
    replace h := Sx.st_front 1 h
    refine Sx.wc_loop (fun (x_ : Nat) => [(0, .pointer (some ⟨g, 0, none⟩)), (1, .int .i64 (i)), (10, .pointer (some ⟨b14, 0, none⟩)), (60, .slice (Al) (l.length) (cl)), (61, .int .i64 ((l.length : Int))), (62, .int .i64 ((x_ : Int)))]) (fun (x_ : Nat) (w : World) => (x_ ≤ l.length) ∧ Sx.St w0 F0 ([listS g (x), listS b14 ((⟨x.st.take i.toNat ++ expand (l.take x_), 0⟩ : LS))] ++ R) w) (fun (x_ : Nat) => l.length - x_) (0) ?_ ?_ ?_
    · exact ⟨rfl, rfl, rfl, rfl, (congrArg (fun z_ => some (Value.int .i64 z_)) (show (((l.length : Nat) : Int) : Int) = (l.length : Int) by omega)), (congrArg (fun z_ => some (Value.int .i64 z_)) (show (0 : Int) = (0 : Int) by omega)), trivial⟩
    · exact ⟨by first | omega | simp, h⟩
    intro k w h
    obtain ⟨hJ, h⟩ := h
    replace hJ : k ≤ l.length := hJ
    replace h : Sx.St w0 F0 ([listS g (x), listS b14 ((⟨x.st.take i.toNat ++ expand (l.take k), 0⟩ : LS))] ++ R) w := h
    show Sx.WC _ _ _ _ [(0, .pointer (some ⟨g, 0, none⟩)), (1, .int .i64 (i)), (10, .pointer (some ⟨b14, 0, none⟩)), (60, .slice (Al) (l.length) (cl)), (61, .int .i64 ((l.length : Int))), (62, .int .i64 ((k : Int)))] _
    refine Sx.wc_seq ?_
    refine Sx.wc_region ?_
    refine Sx.wl_v rfl rfl (Sx.ov_bin _ rfl rfl (Sx.binR_lss)) ?_
    refine Sx.wl_nil ?_
    refine Sx.qn_then ?_
    refine Sx.wc_seq ?_
    refine Sx.wc_cond (by rfl) (fun c15 => ?_) (fun c15 => ?_)
    ·
     have hk : k < l.length := by omega
     have hln := lenR_next hk z66
     have hxn := expand_next hk z66
     have hl2 := expand_len0 (L := l.take k) (fun r hr => hrm.2.2 r (List.mem_of_mem_take hr))
     have hrk := lay_room (l.take k) ((x.st.length : Int) - i) (by omega) (lay_take hok k)
     have hrk2 := lay_room (l.take (k + 1)) ((x.st.length : Int) - i) (by omega) (lay_take hok (k + 1))
     refine Sx.wc_skip ?_
     refine Sx.qn_then ?_
     refine Sx.wc_seq ?_
     refine Sx.wc_block ?_
     refine Sx.wc_seq ?_
     refine Sx.wc_region ?_
     obtain ⟨ad16, rfl⟩ := Sx.C_some ((hr [_, _] _ h)) (k := k) (by first | assumption | omega)
     refine Sx.wl_v rfl rfl (Sx.ov_indexAddrN _ _ _ _ _ k rfl rfl es33 rfl (by first | assumption | omega | (simp only [List.length_take, List.length_drop, List.length_set]; omega))) ?_
     obtain ⟨cl19, _, hk18, hc17⟩ := Sx.C_cells ((hr [_, _] _ h)) (z := z66) (k := k) (by first | assumption | omega)
     obtain rfl := k66_open hk18
     refine Sx.wl_v rfl rfl (Sx.ov_loadN _ [.int .i64 (((l).getD k z66).f0), .int .i64 (((l).getD k z66).f1)] rfl sh66 (by intro j u hu; rw [Deep.add_add]; exact (hc17 _ _ hu))) ?_
     refine Sx.wl_alloc _ h rfl rfl zo66 (fun b20 _ h => ?_)
     replace h : Sx.St _ _ (Sx.blk b20 [.int .i64 (0), .int .i64 (0)] 66 :: _) _ := h
     refine Sx.wl_storebN 0 [.int .i64 (((l).getD k z66).f0), .int .i64 (((l).getD k z66).f1)] [.int .i64 (((l).getD k z66).f0), .int .i64 (((l).getD k z66).f1)] h rfl rfl rfl rfl (by simp [Value.oneCell']) sh66 rfl rfl (fun _ h => ?_)
     refine Sx.wl_nil ?_
     refine Sx.qn_then ?_
     refine Sx.wc_region ?_
     refine Sx.wl_v rfl rfl (Sx.ov_move _ rfl) ?_
     refine Sx.wl_v rfl rfl (Sx.ov_fieldAddr _ ⟨b20, 0, none⟩ _ rfl fo66_0 rfl) ?_
     refine Sx.wl_v rfl rfl (Sx.ov_loadb 0 _ h rfl rfl sh3 rfl) ?_
     refine Sx.wl_v rfl rfl (Sx.ov_fieldAddr _ ⟨b20, 1, none⟩ _ rfl fo66_1 rfl) ?_
     refine Sx.wl_v rfl rfl (Sx.ov_loadb 0 _ h rfl rfl sh3 rfl) ?_
     replace h := Sx.st_front 2 h
     refine Sx.wl_call _ rfl rfl rfl ent40 (put_S b14 ((⟨x.st.take i.toNat ++ expand (l.take k), 0⟩ : LS)) (((l).getD k z66).f0) (((l).getD k z66).f1) (by first | omega | (simp only [List.length_append, List.length_nil, List.length_replicate, part, List.length_take, List.length_drop]; omega)) (by refine Nat.le_trans (runs_len _) ?_; simp only [List.length_append, List.length_nil, List.length_replicate, part, List.length_take, List.length_drop]; omega) h) ?_
     rintro e_ w_ ⟨rfl, h⟩
     refine ⟨_, rfl, ?_⟩
     refine Sx.wl_nil ?_
     refine Sx.qn_block_normal ?_
     refine Sx.qn_then ?_
     refine Sx.wc_region ?_
     refine Sx.wl_v rfl rfl (Sx.ov_bin _ rfl rfl (Sx.binR_add (r := ((k : Int)) + 1) (Sx.w64 (by omega)))) ?_
     refine Sx.wl_v rfl rfl (Sx.ov_move _ rfl) ?_
     refine Sx.wl_nil ?_
     have e_ : (⟨((⟨x.st.take i.toNat ++ expand (l.take k), 0⟩ : LS)).st ++ List.replicate ((((l).getD k z66).f0) : Int).toNat (((l).getD k z66).f1), ((⟨x.st.take i.toNat ++ expand (l.take k), 0⟩ : LS)).base⟩ : LS) = (⟨x.st.take i.toNat ++ expand (l.take (k + 1)), 0⟩ : LS) := by rw [hxn]; simp
     replace h := Sx.st_cast (congrArg (fun z_ => ([listS b14 (z_), Sx.blk b20 [.int .i64 (((l).getD k z66).f0), .int .i64 (((l).getD k z66).f1)] 66, listS g (x)] ++ R)) e_) h
     clear e_
     replace h := Sx.st_front 2 h
     replace h := Sx.st_selT [true, true, false] h
     refine Sx.qn_next ((k + 1)) (by show l.length - (k + 1) < l.length - k; omega) ⟨rfl, rfl, rfl, (congrArg (fun z_ => some (Value.slice (some ad16) z_ (cl))) (show (l.length : Nat) = l.length by first | rfl | simp)), rfl, (congrArg (fun z_ => some (Value.int .i64 z_)) (show (((k : Int)) + 1 : Int) = ((k + 1) : Int) by omega)), trivial⟩ ?_
     show ((k + 1) ≤ l.length) ∧ _
     exact ⟨by first | omega | simp, h⟩
    ·
     have hl3 : (expand (l.take k)).length = (expand l).length := by rw [show k = l.length by omega, List.take_length]
     refine Sx.wc_exit ?_
     refine Sx.qn_then_exit ?_
     refine Sx.qn_then_exit ?_
     refine Sx.qn_block_exit ?_
     refine Sx.qn_then ?_
     refine Sx.wc_seq ?_
     refine Sx.wc_draw (fun w => Sx.St w0 F0 ([listS g (x)] ++ R) w) (by kernel_rfl) ?_
     replace h := Sx.st_drew h
     refine Sx.wa_tk 0 rfl rfl rfl (Sx.st_selT [true, false] h) (fun w_ hS => Sx.ov_move _ rfl) ?_
     refine Sx.wa_tk 1 rfl rfl rfl (Sx.st_selT [true, false] h) (fun w_ hS => Sx.ov_move _ rfl) ?_
     refine Sx.wa_tk 2 rfl rfl rfl (Sx.st_selT [true, false] h) (fun w_ hS => Sx.ov_move _ rfl) ?_
     refine Sx.wa_tk 3 rfl rfl rfl (Sx.st_selT [true, false] h) (fun w_ hS => Sx.ov_nilCheck _ rfl) ?_
     refine Sx.wa_tk 4 rfl rfl rfl (Sx.st_selT [true, false] h) (fun w_ hS => Sx.ov_fieldAddr _ ⟨b14, 1, none⟩ _ rfl fo72_1 rfl) ?_
     refine Sx.wa_tk 6 rfl rfl rfl (Sx.st_selT [true, false] h) (fun w_ hS => Sx.ov_move _ rfl) ?_
     refine Sx.wa_tk 7 rfl rfl rfl (Sx.st_selT [true, false] h) (fun w_ hS => Sx.ov_nilCheck _ rfl) ?_
     refine Sx.wa_tk 8 rfl rfl rfl (Sx.st_selT [true, false] h) (fun w_ hS => Sx.ov_fieldAddr _ ⟨g, 1, none⟩ _ rfl fo72_1 rfl) ?_
     refine Sx.wa_tk 9 rfl rfl rfl (Sx.st_selT [true, false] h) (fun w_ hS => by
         obtain ⟨A_, c_, hS⟩ := listS_open (Sx.st_front 0 hS)
         exact Sx.ov_loadb 0 _ hS rfl rfl sh3 rfl) ?_
     refine Sx.wa_one 5 rfl (by kernel_rfl) ?_
     replace h := Sx.st_front 1 h
     obtain ⟨A21, c22, h⟩ := listS_open h
     replace h : Sx.St _ _ (Sx.blk b14 [.slice (A21) ((runsOf (x.st.take i.toNat ++ expand (l.take k))).length) (c22), .int .i64 ((((x.st.take i.toNat ++ expand (l.take k))).length : Int)), .int .i64 ((0))] 72 :: Sx.row k66 66 (A21) (c22) (runsOf (x.st.take i.toNat ++ expand (l.take k))) :: _) _ := h
     refine Sx.wl_v rfl rfl (Sx.ov_loadb 0 _ h rfl rfl sh3 rfl) ?_
     refine Sx.wl_nil ?_
     refine Sx.qn_wa (Sx.st_selT [false, false, true] h) ?_
     refine Sx.wa_one 10 rfl (by kernel_rfl) ?_
     replace h := Sx.st_front 1 h
     replace h := Sx.st_front 1 h
     replace h := listS_close (σ := (x.st.take i.toNat ++ expand (l.take k))) (by first | rfl | simp) (by first | rfl | simp) h
     replace h := Sx.st_front 1 h
     refine Sx.wl_call _ rfl rfl rfl ent42 (copyTo_calls g b14 x ((⟨(x.st.take i.toNat ++ expand (l.take k)), (0)⟩ : LS)) ((((x.st.take i.toNat ++ expand (l.take k))).length : Int)) ((((x).st).length : Int)) (by first | omega | (simp only [List.length_append, List.length_nil, List.length_replicate, part, List.length_take, List.length_drop]; omega)) (by first | omega | (simp only [List.length_append, List.length_nil, List.length_replicate, part, List.length_take, List.length_drop]; omega)) (by first | omega | (simp only [List.length_append, List.length_nil, List.length_replicate, part, List.length_take, List.length_drop]; omega)) (by first | omega | (simp only [List.length_append, List.length_nil, List.length_replicate, part, List.length_take, List.length_drop]; omega)) (by first | omega | (simp only [List.length_append, List.length_nil, List.length_replicate, part, List.length_take, List.length_drop]; omega)) (by first | omega | (simp only [List.length_append, List.length_nil, List.length_replicate, part, List.length_take, List.length_drop]; omega)) h) ?_
     rintro e_ w_ ⟨rfl, h⟩
     refine ⟨_, rfl, ?_⟩
     refine Sx.wl_nil ?_
     refine Sx.qn_wa (Sx.st_selT [true, false] h) ?_
     refine Sx.wa_done (by kernel_rfl) ?_
     refine Sx.qn_then ?_
     refine Sx.wc_seq ?_
     refine Sx.wc_region ?_
     refine Sx.wl_v rfl rfl (Sx.ov_move _ rfl) ?_
     refine Sx.wl_v rfl rfl (Sx.ov_move _ rfl) ?_
     replace h := Sx.st_front 1 h
     replace h := Sx.st_front 1 h
     refine Sx.wl_call _ rfl rfl rfl ent43 (take_calls g b14 x ((⟨((⟨(x.st.take i.toNat ++ expand (l.take k)), (0)⟩ : LS)).st ++ part (x).st (((((x.st.take i.toNat ++ expand (l.take k))).length : Int)) : Int).toNat (((((x).st).length : Int)) : Int).toNat, ((⟨(x.st.take i.toNat ++ expand (l.take k)), (0)⟩ : LS)).base⟩ : LS)) h) ?_
     rintro e_ w_ ⟨rfl, h⟩
     refine ⟨_, rfl, ?_⟩
     refine Sx.wl_nil ?_
     refine Sx.qn_then ?_
     refine Sx.wc_seq ?_
     refine Sx.wc_region ?_
     refine Sx.wl_v rfl rfl (Sx.ov_assign _ rfl) ?_
     refine Sx.wl_nil ?_
     refine Sx.qn_then ?_
     refine Sx.wc_ret ?_
     have e_ : (⟨((⟨((⟨(x.st.take i.toNat ++ expand (l.take k)), (0)⟩ : LS)).st ++ part (x).st (((((x.st.take i.toNat ++ expand (l.take k))).length : Int)) : Int).toNat (((((x).st).length : Int)) : Int).toNat, ((⟨(x.st.take i.toNat ++ expand (l.take k)), (0)⟩ : LS)).base⟩ : LS)).st, (x).base⟩ : LS) = (⟨x.st.take i.toNat ++ expand l ++ x.st.drop (i.toNat + (expand l).length), x.base⟩ : LS) := by (obtain rfl : k = l.length := by omega); simp [part, List.take_length, Nat.min_eq_left (show i.toNat ≤ x.st.length by omega)]; omega
     replace h := Sx.st_cast (congrArg (fun z_ => ([listS g (z_)] ++ R)) e_) h
     clear e_
     refine Sx.qn_ret [_] ⟨rfl, trivial⟩ ?_
     have e_ : layV x i l = ((⟨x.st.take i.toNat ++ expand l ++ x.st.drop (i.toNat + (expand l).length), x.base⟩ : LS), 0) := by unfold layV; rw [if_neg (by omega), if_neg (by rw [hok]; decide)]
     rw [e_]
     exact ⟨rfl, h⟩
end Go.Proofs.Ytkliboeebookeaa.Runs.B
